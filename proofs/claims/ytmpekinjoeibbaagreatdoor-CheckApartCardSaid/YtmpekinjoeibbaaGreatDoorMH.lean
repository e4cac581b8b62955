/- Parts of one proof, joined; conditions stand in each theorem. -/
import Derived.Test.YtmpekinjoeibbaaGreatDoorMC
import Derived.Test.YtmpekinjoeibbaaGreatDoorMG
import Derived.Laws.EntriesVeiled
open Option renaming some→A,none→V
open Go.Value renaming int→I,string→p9,slice→O,tuple→wF,agg→s3,bool→ur,func→wP,pointer→tv
open Go.IntKind renaming u8→J,i64→Y
open Go renaming World→p7,Value→r3,Calls→r9,Ending→xv,wpQuiet_nil→vk,undef→tT
open Go.Proofs.Tryz renaming prog→r6
open Go.Ending renaming returned→tF
open Bool renaming false→r7,true→r5
open Or renaming inl→tE,inr→tS
open Go.Obj renaming cells→p8
open Decidable renaming decide→r8
namespace Go.Proofs.YtmpekinjoeibbaaGreatDoor
set_option maxHeartbeats 2000000
set_option maxRecDepth 100000
open Go.RowKit
theorem vO(l:List Tok)(i:Nat)(t:Tok)(h:l[i]?=A t):(bK l)[3*i]?=A (I J t.1)∧(bK l)[3*i+1]?=A (p9 t.2.1)∧(bK l)[3*i+2]?=A (I Y t.2.2):=by
 induction l generalizing i with
 | nil=>simp at h
 | cons a r c =>
  have e:bK (a::r)=fO a++bK r:=rfl;have b:(fO a).length=3:=rfl
  cases i with
  | zero =>
   obtain rfl:a=t:=by simpa using h
   rw[e];exact⟨Z,Z,Z⟩
  | succ i =>
   have d:r[i]?=A t:=by simpa using h
   obtain⟨a1,a2,a3⟩:=c i d;rw[e];refine⟨?_,?_,?_⟩
   ·rw[FA (by omega),b,show 3*(i+1)-3=3*i from by omega];exact a1
   ·rw[FA (by omega),b,show 3*(i+1)+1-3=3*i+1 from by omega];exact a2
   ·rw[FA (by omega),b,show 3*(i+1)+2-3=3*i+2 from by omega];exact a3
theorem Em{w:p7}{B n:Nat}{v:r3}{l:List Tok}(h:w.ownsRow B 89 3 v n (bK l))(q:0<n) :
  ∃g cap,v=O (A ⟨g,0,V⟩) n cap∧g<w.heap.size∧B≤g∧∀i t,l[i]?=A t→w.cell? ⟨g,i*3,V⟩=A (I J t.1)∧w.cell? ⟨g,i*3+1,V⟩=A (p9 t.2.1)∧w.cell? ⟨g,i*3+2,V⟩=A (I Y t.2.2):=by
 obtain⟨g,cap,rfl,hB,a⟩:∃g cap,v=O (A ⟨g,0,V⟩) n cap∧B≤g∧g<w.heap.size:=by
  rcases h.2 with ⟨_,rfl⟩|⟨g,cap,cur,rfl,m,o,_⟩
  ·omega
  ·exact⟨g,cap,Z,m,(ES.1 o).1⟩
 refine⟨g,cap,Z,a,hB,fun i t p=>?_⟩;obtain⟨a1,a2,a3⟩:=vO l i t p;have b:=h.cells (g:=g) Z;have e:∀j,((⟨g,0,V⟩:Addr).add j)=⟨g,j,V⟩:=fun j=>by
  unfold Addr.add
  by_cases c:j=0
  ·rw[oA c,c]
  ·rw[ox c];simp
 have d:=b _ _ a1;have f:=b _ _ a2;have k:=b _ _ a3;rw[e]at d f k;rw[Nat.mul_comm 3 i]at d f k;exact⟨d,f,k⟩
theorem zS(s:ByteArray)(w:p7)(a:s.size≤16384)(b:aM w)(o:List Tok×Option (Nat×Nat))(c:aG s 0=o) :
  r9 r6 18 #[p9 s] w fun e W=>FS w W∧
   ((o.2=V∧∃v,e=tF (wF #[v,s3 #[I Y 0,I Y 0]])∧W.ownsRow w.heap.size 89 3 v (o.1.length+1) (bK (o.1++[(7,⟨#[]⟩,s.size)])))∨
    ∃er pl,o.2=A (er,pl)∧e=tF (wF #[O V 0 0,s3 #[I Y er,I Y pl]])):=by
 subst c;exact qe s w a b
theorem Bb(s:ByteArray):∀(f k er pl:Nat),(toks f s k).2=A (er,pl)→er≠0:=by
 intro f
 induction f with
 | zero=>intro k er pl h;cases h
 | succ f a =>
  intro k er pl h;unfold toks at h
  split at h
  ·split at h
   ·exact a _ _ _ h
   ·rename_i b
    injection h with h
    injection h with c d
    subst c;exact b
  ·cases h
theorem sV(s:ByteArray)(k er pl:Nat)(h:(aG s k).2=A (er,pl)):er≠0:=Bb s _ k er pl h
def AI(t:ByteArray) (w:p7) (e:xv) (w':p7):Prop:=
 FS w w'∧∃p n c er at',e=tF (wF #[O p n c,s3 #[I Y er,I Y at']])∧(0:Int)≤er∧
  ((er≠0∧jr t=r7)∨(er=0∧n≠2∧jr t=r7)∨(er=0∧n=2∧∃g tx,p=A ⟨g,0,V⟩∧g<w'.heap.size∧w'.cell? ⟨g,1,V⟩=A (p9 tx)∧jr t=(tx.toList==t.toList)))
theorem zG(t:ByteArray)(w:p7)(m:aM w):r9 r6 18 #[p9 (aR t)] w (AI t w):=by
 by_cases j:(aR t).size≤16384
 ·refine (zS (aR t) w j m _ Z).mono ?_;rintro e W ⟨c,(⟨a,v,rfl,b⟩|⟨er,pl,a,rfl⟩)⟩
  ·obtain⟨g,cap,rfl,n,_,k⟩:=Em b (by omega);refine⟨c,_,_,_,_,_,Z,by omega,?_⟩
   right
   by_cases d:(aG (aR t) 0).1.length=1
   ·right
    refine⟨Z,by omega,?_⟩;generalize i:aG (aR t) 0=o at *;obtain⟨l,f⟩:=o;dsimp only at a d k
    match l,d with
    | [x],_ =>
     refine⟨g,x.2.1,Z,n,(k 0 x Z).2.1,?_⟩;unfold jr;rw[i];dsimp only;rw[a];simp[ByteArray.toList_eq]
   ·left
    refine⟨Z,by omega,?_⟩;unfold jr;rw[Bool.and_eq_false_iff]
    right
    rw[pr];intro h;have:=o9 List.length h;rw[List.length_map]at this;exact d this
  ·refine⟨c,_,_,_,_,_,Z,by omega,tE ⟨by have:=sV _ _ _ _ a;omega,?_⟩⟩;unfold jr;rw[a];rfl
 ·refine (oC (aR t) w (by omega)).mono ?_;rintro e W ⟨rfl,c⟩;refine⟨c,_,_,_,_,_,Z,by omega,tE ⟨by omega,?_⟩⟩;rw[fX,vS _ (by rw[lr]at j;omega)]
theorem DU{w:p7}{T:Nat}{a b:r3}{t:TypeId}(h:w.heap[T]?=A (p8 #[a,b] t (0,0))) :
  w.cell? ⟨T,0,V⟩=A a∧w.cell? ⟨T,1,V⟩=A b∧w.frozen? ⟨T,0,V⟩=r7∧w.frozen? ⟨T,1,V⟩=false:=by
 simp[World.cell?,World.frozen?,h]
theorem zq(t:ByteArray):aR t=(⟨#[39]⟩:ByteArray)++t:=by
 apply ByteArray.ext;apply Array.toList_inj.1;rw[ov,ByteArray.data_append,Array.toList_append];rfl
theorem sF(kd:Nat)(t:ByteArray)(nm pl:Int)(p:Option Addr)(n c:Nat)(word:Bool)(w:p7)(N:aM w)(P:t.size≤72007) :
  r9 r6 180 #[s3 #[I J kd,p9 t,I Y nm,I Y pl,O p n c],ur word] w (ao (cB t.data.toList&&(word||!j8 t.data.toList)) w):=by
 have k:FS w (w.alloc (p8 #[I J kd,p9 t,I Y nm,I Y pl,O p n c] 157)):=(EU _ w).alloc (ET _) _;have h0:=ot w (p8 #[I J kd,p9 t,I Y nm,I Y pl,O p n c] 157);have z:w.heap.size<(w.alloc (p8 #[I J kd,p9 t,I Y nm,I Y pl,O p n c] 157)).heap.size:=by simp
 have Q:=zG t _ (N.C k);rw[zq]at Q;have HQ:=Hd Q;clear Q;obtain⟨B,H0,u,C⟩:=zz4 (N.C k) h0 k z;clear N h0 k z
 go_enter Tryz.func180,Tryz.ntmps180
 go_wp2_with fail
 refine Ff HQ.o ?_;rintro e w1 ⟨l,p',n',c',er,at',rfl,R,i⟩;obtain⟨a,H1,v,D⟩:=zz4 i (ag l H0.o C.o) (u.o.trans (l.mono u.o.size)) (B.o.C l);clear i l HQ B;go_wp2_with fail
 have j:=(EU _ w1).alloc (ET _) (p8 #[I Y er,I Y at'] 29);have E:w.heap.size<w1.heap.size:=(ES.1 H1.o).1;obtain⟨S,F2,d,T,F⟩:=zz5 (ag j H1.o E) (ot w1 (p8 #[I Y er,I Y at'] 29)) (v.o.trans (j.mono v.o.size)) (D.o.C j) (fun g tx (m:g<w1.heap.size) (r:w1.cell? ⟨g,1,V⟩=A (p9 tx))=>(j.cell (p:=⟨g,1,V⟩) m).trans r);generalize w1.alloc (p8 #[I Y er,I Y at'] 29)=h at *;obtain⟨f0,f1,_,_⟩:=DU F2.o;obtain⟨b0,y,b2,b3,b4⟩:=cells5 S.o;have G:=fun x:Wb h=>x.b f0
 have H:=fun x:Wb h=>x.b y
 clear j f1 b0 b2 b3 b4;rcases a.o with ⟨m,r⟩|⟨m,r,q⟩|⟨m,r,g,tx,rfl,hg,M,q⟩
 ·have he:(er==0)=false:=by simpa using m
  have s:=Hd r;clear m r a f0 y;refine aj (by kernel_rfl) (by kernel_rfl) ?_
  repeat (go_big_quiet_step (fail))
  refine vk ?_;intro W2 b;have f:=Hd (d.o.trans ((aE b).mono d.o.size));clear b G H;go_wp2_with fail
  go_ret;exact⟨bI (by rw[←fX,s.o];rfl),f.o⟩
 ·have he:(er==0)=true:=by simpa using m
  have af:((n':Int)==2)=false:=by simp;omega
  have s:=Hd q;clear m r q a f0 y;refine aj (by kernel_rfl) (by kernel_rfl) ?_
  repeat (go_big_quiet_step (fail))
  refine vk ?_;intro W2 b;have f:=Hd (d.o.trans ((aE b).mono d.o.size));clear b G H;go_wp2_with fail
  go_ret;exact⟨bI (by rw[←fX,s.o];rfl),f.o⟩
 ·subst m;subst r;have gc:=F.o g tx hg M;have U:=fun x:Wb h=>x.b gc
  cases K:(tx.toList==t.toList)
  ·rw[K]at q;have s:=Hd q;clear q a f0 y M gc;refine aj (by kernel_rfl) (by kernel_rfl) ?_
   repeat (go_big_quiet_step (fail))
   refine vk ?_;intro W2 b;have f:=Hd (d.o.trans ((aE b).mono d.o.size));clear b G H U;go_wp2_with fail
   go_ret;exact⟨bI (by rw[←fX,s.o];rfl),f.o⟩
  ·rw[K]at q;have s:=Hd q;clear q a
   cases word
   ·clear G H U;have W:w.heap.size<h.heap.size:=(ES.1 S.o).1;have X:w1.heap.size<h.heap.size:=(ES.1 F2.o).1;have ad:g<h.heap.size:=by omega
    clear F u C H0 H1 v D S F2 E hg P R
    go_region_held3 (fun w'=>w'.cell? ⟨w.heap.size,1,V⟩=A (p9 t)∧w'.cell? ⟨w1.heap.size,0,V⟩=A (I Y 0)∧w'.cell? ⟨g,1,V⟩=A (p9 tx))
     (first
      | (exact⟨by assumption,by assumption,by assumption⟩)
      | (exact⟨(World.cell?_alloc_lt h _ ⟨w.heap.size,1,V⟩ W).trans y,(World.cell?_alloc_lt h _ ⟨w1.heap.size,0,V⟩ X).trans f0,(World.cell?_alloc_lt h _ ⟨g,1,V⟩ ad).trans gc⟩))
     (first
      | (go_at_call 168;refine (sA _ (T.o.C (EU _ _).drew)).mono ?_;rintro e w6 ⟨rfl,rfl⟩)
      | (go_at_call 167;refine (lB _ _ t _ (by exact ot h _)).mono ?_;rintro e w6 ⟨rfl,rfl⟩))
    have L:FS h (h.alloc (p8 (gx.map p9).toArray 9)).drew:=((EU _ h).alloc (ET _) _).drew;have f:=Hd (d.o.trans (L.mono d.o.size));clear L y f0 gc M;go_wp2_with fail
    go_ret;exact⟨bI (by rw[←fX,s.o];rfl),f.o⟩
   ·clear f0 y M gc;refine aj (by kernel_rfl) (by kernel_rfl) ?_
    repeat (go_big_quiet_step (fail))
    refine vk ?_;intro W2 b;have f:=Hd (d.o.trans ((aE b).mono d.o.size));clear b G H U;go_wp2_with fail
    go_ret;exact⟨bI (by rw[←fX,s.o];rfl),f.o⟩
theorem yq(L:List ByteArray)(x:ByteArray):Lib.containsS L x=ip L x.data.toList:=by
 rw[FD,Lib.containsS_iff,ip,List.any_eq_true]
 constructor
 ·intro h;exact⟨x,h,by simp⟩
 ·rintro ⟨y,c,he⟩;have e:y=x:=by
   have a:y.data.toList=x.data.toList:=by simpa using he
   have b:y.data=x.data:=Array.toList_inj.1 a;exact ByteArray.ext b
  rwa [←e]
theorem mS(L:List ByteArray)(n B c:Nat)(t:TypeId)(x:ByteArray)(w:p7)(d:L.length=n)(b:n≤100)(h:w.heap[B]?=A (p8 (L.map p9).toArray t (0,0))) :
  r9 r6 167 #[O (A ⟨B,0,V⟩) n c,p9 x] w fun e w'=>e=tF (ur (ip L x.data.toList))∧FS w w':=by
 refine (Tryz.slices_Contains_string B 0 n c L x w (by omega) (by omega) (fun j f=>?_)).mono ?_
 ·rw[Nat.zero_add,FR _ _ _ _ _ _ h];have a:j<L.length:=by omega
  simp[List.getD_eq_getElem?_getD,List.getElem?_eq_getElem a]
 ·rintro e w' ⟨rfl,rfl⟩;refine⟨?_,EU _ _⟩;rw[Fq (by omega),yq]
def opB(k:Nat) (t:List UInt8):Bool:=(k==1&&ip re t)||(k==2&&ip rD t)
theorem Wb.heap{w:p7}(x:Wb w){b:Nat}{o:Obj}(h:w.heap[b]?=A o):x.1.heap[b]?=A o:=ag x.2 h (ES.1 h).1
theorem Au(w:p7)(a b d:Obj):(((w.alloc a).alloc b).alloc d).heap[w.heap.size]?=A a∧(((w.alloc a).alloc b).alloc d).heap[w.heap.size+1]?=A b∧(((w.alloc a).alloc b).alloc d).heap[w.heap.size+1+1]?=A d∧FS w (((w.alloc a).alloc b).alloc d):=by refine⟨?_,?_,?_,(((EU _ w).alloc (ET _) _).alloc (by simp) _).alloc (by simp;omega) _⟩<;>(simp only[ib,o2];repeat (first|rw[oA trivial] | rw[ox (by omega)] | rw[oA (by omega)]))
theorem yf(kd:Nat)(t:ByteArray)(nm pl:Int)(p:Option Addr)(n c:Nat)(w:p7) :
  r9 r6 182 #[s3 #[I J kd,p9 t,I Y nm,I Y pl,O p n c]] w (ao (opB n t.data.toList) w):=by
 obtain⟨q,r,s,u⟩:=Au w (p8 #[I J kd,p9 t,I Y nm,I Y pl,O p n c] 157) (p8 #[p9 ⟨#[45]⟩,p9 ⟨#[110,111,116]⟩] 369)
  (p8 #[p9 ⟨#[111,114]⟩,p9 ⟨#[97,110,100]⟩,p9 ⟨#[61]⟩,p9 ⟨#[33,61]⟩,p9 ⟨#[60]⟩,p9 ⟨#[60,61]⟩,p9 ⟨#[62]⟩,p9 ⟨#[62,61]⟩,p9 ⟨#[43]⟩,p9 ⟨#[45]⟩,p9 ⟨#[42]⟩] 370)
 obtain⟨H1,y,d⟩:=zz3 r s u;obtain⟨b0,z,E,F,G⟩:=cells5 q;have g:Hid (opB n t.data.toList=((n==1&&ip re t.data.toList)||(n==2&&ip rD t.data.toList))):=rfl;have i:=Hd (fun W (h:W.heap[w.heap.size+1]?=A (p8 (re.map p9).toArray 369 (0,0)))=>mS re 2 (w.heap.size+1) 2 369 t W Z (by omega) h);have j:=Hd (fun W (h:W.heap[w.heap.size+1+1]?=A (p8 (rD.map p9).toArray 370 (0,0)))=>mS rD 11 (w.heap.size+1+1) 11 370 t W Z (by omega) h);clear q r s u;generalize opB n t.data.toList=o at *;generalize ip re t.data.toList=v at *;generalize ip rD t.data.toList=B at *;have k:=fun x:Wb _=>x.b z
 go_enter Tryz.func182,Tryz.ntmps182
 by_cases l:n=1
 ·subst l;go_wp2_with fail
  refine aj (by kernel_rfl) (by kernel_rfl) ?_
  repeat (go_big_quiet_step ((go_at_call 167;exact Calls.b (i.o _ (Wb.heap _ H1.o)))))
  refine vk ?_;intro W2 a;have b:=Hd (d.o.trans ((aE a).mono d.o.size));clear a k;go_wp2_with fail
  go_ret;exact⟨bI (by rw[g.o];cases v<;>rfl),b.o⟩
 ·have H:((n:Int)==1)=false:=by simp;omega
  have e:(n==1)=false:=by simp;omega
  have C:=Hd e;clear e
  by_cases m:n=2
  ·subst m;go_wp2_with fail
   refine aj (by kernel_rfl) (by kernel_rfl) ?_
   repeat (go_big_quiet_step ((go_at_call 167;exact Calls.b (j.o _ (Wb.heap _ y.o)))))
   refine vk ?_;intro W2 a;have b:=Hd (d.o.trans ((aE a).mono d.o.size));clear a k;go_wp2_with fail
   go_ret;exact⟨bI (by rw[g.o];cases v<;>cases B<;>rfl),b.o⟩
  ·have K:((n:Int)==2)=false:=by simp;omega
   have f:(n==2)=false:=by simp;omega
   have D:=Hd f;clear f k;go_wp2_with fail
   go_ret;exact⟨bI (by rw[g.o,C.o,D.o];rfl),d.o⟩
theorem DZ(c:UInt8)(r:List UInt8)(h:c≠45):fh (c::r)=false:=by
 unfold fh
 split
 ·rename_i heq;injection heq with a;exact absurd a h
 ·rfl
theorem Db(c:UInt8)(r:List UInt8)(h:c≠45):strip (c::r)=c::r:=by
 unfold strip
 split
 ·rename_i heq;injection heq with a;exact absurd a h
 ·rfl
theorem yO(l:List UInt8):Lib.trimPrefix l [45]=strip l:=by
 unfold Lib.trimPrefix;rw[mp]
 cases l with
 | nil=>rfl
 | cons c r =>
  by_cases h:c=45
  ·subst h;rfl
  ·rw[DZ c r h,Db c r h];rfl
theorem Be(l:List UInt8):(strip l).length≤l.length:=by
 unfold strip
 split
 ·simp
 ·exact ET _
def textF(f:Nat) (t:List UInt8) (n:Nat):Bool:=
 if f==1 then cB t&&!j8 t else if f==2 then cB t else if f==3 then (number (strip t)).isSome else if f==4 then opB n t else t.isEmpty
theorem sH(t:ByteArray):(t.toList==(⟨#[]⟩:ByteArray).toList)=t.data.toList.isEmpty:=by
 rw[Fj,Fj]
 cases t.data.toList<;>rfl
theorem uX(kd:Nat)(t:ByteArray)(nm pl:Int)(p:Option Addr)(n c f:Nat)(w:p7)(l:aM w)(h:t.size≤72007)(s:f≤4) :
  r9 r6 104 #[s3 #[I J kd,p9 t,I Y nm,I Y pl,O p n c],I Y f] w (ao (textF f t.data.toList n) w):=by
 have g:FS w (w.alloc (p8 #[I J kd,p9 t,I Y nm,I Y pl,O p n c] 157)):=(EU _ w).alloc (ET _) _;have m:=ot w (p8 #[I J kd,p9 t,I Y nm,I Y pl,O p n c] 157);obtain⟨b0,v,x,y,z⟩:=cells5 m;obtain⟨q,i,a,j⟩:=zz4 (fun b=>sF kd t nm pl p n c b _ (l.C g) h) (fun W=>yf kd t nm pl p n c W) g (fun W=>(Tryz.strings_TrimPrefix t ⟨#[45]⟩ W).mono (R':=fun e w'=>e=tF (p9 ⟨(strip t.data.toList).toArray⟩)∧W=w') (fun e w' r=>⟨by rw[r.1];show tF (p9 ⟨(Lib.trimPrefix t.data.toList [45]).toArray⟩)=_;rw[yO],r.2.symm⟩))
 have k:=Hd (fun W=>lZ ⟨(strip t.data.toList).toArray⟩ W (by
  show (strip t.data.toList).toArray.size≤100000
  have B:=Be t.data.toList;have C:t.data.toList.length=t.data.size:=Fz;have D:t.size=t.data.size:=rfl;simp only[List.size_toArray]
  omega))
 clear l m g h
 match f,s with
 | 0,_ =>
  have u:=Hd (sH t)
  go_enter Tryz.func104,Tryz.ntmps104
  go_wp2_with fail
  go_ret;exact⟨bI (by show _=t.data.toList.isEmpty;rw[←u.o,Fj,Fj];cases t.data.toList<;>rfl),a.o⟩
 | 1,_ =>
  go_enter Tryz.func104,Tryz.ntmps104
  go_wp2_with fail
  refine Ff (q.o r7) ?_;rintro e W2 ⟨rfl,d⟩;go_wp2_with fail
  go_ret;exact⟨bI Z,a.o.trans (d.mono a.o.size)⟩
 | 2,_ =>
  go_enter Tryz.func104,Tryz.ntmps104
  go_wp2_with fail
  refine Ff (q.o r5) ?_;rintro e W2 ⟨rfl,d⟩;go_wp2_with fail
  go_ret;exact⟨bI Z,a.o.trans (d.mono a.o.size)⟩
 | 3,_ =>
  go_enter Tryz.func104,Tryz.ntmps104
  go_wp2_with fail
  refine Ff (j.o _) ?_;rintro e W2 ⟨rfl,rfl⟩;go_wp2_with fail
  refine Ff (k.o _) ?_;rintro e W2 ⟨rfl,d⟩;go_wp2_with fail
  go_ret;exact⟨Z,a.o.trans (d.mono a.o.size)⟩
 | 4,_ =>
  go_enter Tryz.func104,Tryz.ntmps104
  go_wp2_with fail
  refine Ff (i.o _) ?_;rintro e W2 ⟨rfl,d⟩;go_wp2_with fail
  go_ret;exact⟨Z,a.o.trans (d.mono a.o.size)⟩
def eQ(kd:Nat):Nat×Int×Int:=
 if kd==2||kd==3||kd==5||kd==6||kd==8 then (1,0,0)
 else if kd==4 then (1,-2147483647,2147483647)
 else if kd==9 then (0,0,2147483647)
 else if kd==13||kd==15 then (2,0,0)
 else if kd==14 then (3,0,0)
 else if kd==16 then (4,0,0)
 else (0,0,0)
def kE(L:Nat) (w W:p7):Prop:=w.heap.size≤W.heap.size∧∀b,L≤b→b<w.heap.size→W.heap[b]?=w.heap[b]?
def qO(L:Nat) (w:p7) (kd:Nat) (fn:r3):Prop:=
 (∃g:FuncId,fn=wP (.func g) #[] #[]∧(∀(args:Array r3) (w:p7),(callFunc g args).run r6 w=.ok (.enter g args) w)∧∀(W:p7) (d B:Nat) (a:List ah) (v:r3),kE L w W→aF W B d a v→B≤W.heap.size→a.length≤20000→r9 r6 g #[v] W (ao (fZ kd a) W))∨
 (∃b:Nat,fn=wP (.func 214) #[] #[tv (A ⟨b,0,V⟩)]∧∀(W:p7) (d B:Nat) (a:List ah) (v:r3),kE L w W→aF W B d a v→B≤W.heap.size→a.length≤20000→r9 r6 214 #[v,tv (A ⟨b,0,V⟩)] W (ao (fZ kd a) W))
theorem CQ{w:p7}{b n:Nat}{S:List Nat}{arr:Array r3}(h:w.heap[b]?=A (p8 arr 61 (0,0)))(a:arr=(S.map fun k:Nat=>I J (k:Int)).toArray)(c:S.length≤100)(d:S.length=n):gC w S (O (A ⟨b,0,V⟩) n n):=by
 subst a;subst d;refine tS ⟨b,0,S.length,Z,c,(ES.1 h).1,fun i k e=>?_⟩;rw[FR _ _ _ _ _ _ h];simp[e]
theorem jo{L b b' n kd:Nat}{w:p7}{S:List Nat}{arr:Array r3}(m:L≤b)(f:L≤b')(j:w.heap[b]?=A (p8 #[O (A ⟨b',0,V⟩) n n] 367 (0,0)))(l:w.heap[b']?=A (p8 arr 61 (0,0)))(o:arr=(S.map fun k:Nat=>I J (k:Int)).toArray)(p:S.length≤100)(q:S.length=n)
  (h:∀a,fZ kd a=du S a):qO L w kd (wP (.func 214) #[] #[tv (A ⟨b,0,V⟩)]):=by
 have c:b<w.heap.size:=(ES.1 j).1;have e:b'<w.heap.size:=(ES.1 l).1;refine tS ⟨b,Z,fun W d B a v g r hB i=>?_⟩;rw[h a];exact jF S a v _ d B b W r hB i (CQ ((g.2 b' f e).trans l) o p q) (EY c g.1) (FR _ _ 0 _ _ _ ((g.2 b m c).trans j))
theorem fR{L b kd:Nat}{w:p7}(i:L≤b)(f:w.heap[b]?=A (p8 #[O V 0 0] 367 (0,0)))(h:∀a,fZ kd a=du [] a) :
  qO L w kd (wP (.func 214) #[] #[tv (A ⟨b,0,V⟩)]):=by
 have c:b<w.heap.size:=(ES.1 f).1;refine tS ⟨b,Z,fun W d B a v g j hB e=>?_⟩;rw[h a];exact jF [] a v _ d B b W j hB e (tE ⟨Z,Z⟩) (EY c g.1) (FR _ _ 0 _ _ _ ((g.2 b i c).trans f))
theorem io(a:List ah):a.isEmpty=du [] a:=by
 cases a with
 | nil=>rfl
 | cons x l=>unfold du;simp
def eq(kd:Nat) (w:p7) (e:xv) (w':p7):Prop:=
 ∃fn,e=tF (wF #[s3 #[I Y ((eQ kd).1:Nat),I Y (eQ kd).2.1,I Y (eQ kd).2.2,fn],ur r5])∧FS w w'∧qO w.heap.size w' kd fn
theorem bW(W:p7)(h:xv→p7→Prop)(T:Nat)(a b c d v3:r3)(e:W.heap[T]?=A (p8 #[a,b,c,d] 211 (0,0)))
  (tmps:Array r3) (i:tmps.getD 2 tT=tv (A ⟨T,0,V⟩)) (j:tmps.getD 3 tT=v3) (k:h (tF (wF #[s3 #[a,b,c,d],v3])) W) :
  bodyPost r6 Tryz.f103 h .ret ⟨tmps,[]⟩ W:=by
 have c0:=FR _ _ 0 _ _ _ e;have c1:=FR _ _ 1 _ _ _ e;have c2:=FR _ _ 2 _ _ _ e;have l:=FR _ _ 3 _ _ _ e;have f:tmps[2]?.getD tT=tv (A ⟨T,0,V⟩):=by simpa using i
 have g:tmps[3]?.getD tT=v3:=by simpa using j
 refine bodyPost_ret (v:=wF #[s3 #[a,b,c,d],v3]) ?_ Z k;simp[results,Tryz.results103,go_sem,f,g,c0,c1,c2,l]
theorem ea(w:p7)(a b:Obj):((w.alloc a).alloc b).heap[w.heap.size]?=A a∧((w.alloc a).alloc b).heap[w.heap.size+1]?=A b∧FS w ((w.alloc a).alloc b):=
 ⟨(ay w a b).1,(ay w a b).2.1,gi w a b⟩
theorem kU(w:p7)(a b c d:Obj):((((w.alloc a).alloc b).alloc c).alloc d).heap[w.heap.size]?=A a∧((((w.alloc a).alloc b).alloc c).alloc d).heap[w.heap.size+1+1]?=A c∧
  ((((w.alloc a).alloc b).alloc c).alloc d).heap[w.heap.size+1+1+1]?=A d∧FS w ((((w.alloc a).alloc b).alloc c).alloc d):=by
 refine⟨?_,?_,?_,((((EU _ w).alloc (ET _) _).alloc (by simp) _).alloc (by simp;omega) _).alloc (by simp;omega) _⟩<;>(simp only[ib,o2];repeat (first|rw[oA trivial] | rw[ox (by omega)] | rw[oA (by omega)]))
theorem B8(w:p7):r9 r6 103 #[I J 1] w (eq 1 w):=by
 go_enter Tryz.func103,Tryz.ntmps103
 go_wp2_with (go_at_call 175;refine (aT _ _ _ _).mono ?_;rintro e f ⟨rfl,rfl⟩)
 obtain⟨a,b,c,d⟩:=kU w (p8 #[I Y 0,I Y (0),I Y 0,wP (.func 214) #[] #[tv (A ⟨w.heap.size+1+1+1,0,V⟩)]] 211) (p8 #[O V 0 0] 367) (p8 #[I J 2,I J 4] 61) (p8 #[O (A ⟨w.heap.size+1+1,0,V⟩) 2 2] 367);exact bW _ _ w.heap.size _ _ _ _ _ a _ Z Z ⟨_,Z,d,jo (S:=[2,4]) (by omega) (by omega) c b Z (by decide) Z (fun g=>rfl)⟩
theorem Df(w:p7):r9 r6 103 #[I J 2] w (eq 2 w):=by
 go_enter Tryz.func103,Tryz.ntmps103
 go_wp2_with (go_at_call 175;refine (aT _ _ _ _).mono ?_;rintro e f ⟨rfl,rfl⟩)
 obtain⟨a,b,c,d⟩:=kU w (p8 #[I Y 1,I Y (0),I Y 0,wP (.func 214) #[] #[tv (A ⟨w.heap.size+1+1+1,0,V⟩)]] 211) (p8 #[O V 0 0] 367) (p8 #[I J 3] 61) (p8 #[O (A ⟨w.heap.size+1+1,0,V⟩) 1 1] 367);exact bW _ _ w.heap.size _ _ _ _ _ a _ Z Z ⟨_,Z,d,jo (S:=[3]) (by omega) (by omega) c b Z (by decide) Z (fun g=>rfl)⟩
theorem CW(w:p7):r9 r6 103 #[I J 3] w (eq 3 w):=by
 go_enter Tryz.func103,Tryz.ntmps103
 go_wp2_with (go_at_call 175;refine (aT _ _ _ _).mono ?_;rintro e f ⟨rfl,rfl⟩)
 obtain⟨b,c,d⟩:=ea w (p8 #[I Y 1,I Y (0),I Y 0,wP (.func 214) #[] #[tv (A ⟨w.heap.size+1,0,V⟩)]] 211) (p8 #[O V 0 0] 367);exact bW _ _ w.heap.size _ _ _ _ _ b _ Z Z ⟨_,Z,d,fR (by omega) c (fun a=>(show a.isEmpty=_ from io a))⟩
theorem BS(w:p7):r9 r6 103 #[I J 4] w (eq 4 w):=by
 go_enter Tryz.func103,Tryz.ntmps103
 go_wp2_with (go_at_call 175;refine (aT _ _ _ _).mono ?_;rintro e h ⟨rfl,rfl⟩)
 obtain⟨a,i,b⟩:=ea w (p8 #[I Y 1,I Y (-2147483647),I Y 2147483647,wP (.func 176) #[] #[]] 211) (p8 #[O V 0 0] 367);exact bW _ _ w.heap.size _ _ _ _ _ a _ Z Z ⟨_,Z,b,tE ⟨_,Z,enters_of Tryz.func176 (by kernel_rfl) Z,fun W d B c v _ f hB g=>wO c v d B W f hB g⟩⟩
theorem Ck(w:p7):r9 r6 103 #[I J 5] w (eq 5 w):=by
 go_enter Tryz.func103,Tryz.ntmps103
 go_wp2_with (go_at_call 175;refine (aT _ _ _ _).mono ?_;rintro e f ⟨rfl,rfl⟩)
 obtain⟨a,b,c,d⟩:=kU w (p8 #[I Y 1,I Y (0),I Y 0,wP (.func 214) #[] #[tv (A ⟨w.heap.size+1+1+1,0,V⟩)]] 211) (p8 #[O V 0 0] 367) (p8 #[I J 12,I J 13,I J 14,I J 15] 61) (p8 #[O (A ⟨w.heap.size+1+1,0,V⟩) 4 4] 367);exact bW _ _ w.heap.size _ _ _ _ _ a _ Z Z ⟨_,Z,d,jo (S:=[12,13,14,15]) (by omega) (by omega) c b Z (by decide) Z (fun g=>rfl)⟩
theorem CU(w:p7):r9 r6 103 #[I J 6] w (eq 6 w):=by
 go_enter Tryz.func103,Tryz.ntmps103
 go_wp2_with (go_at_call 175;refine (aT _ _ _ _).mono ?_;rintro e f ⟨rfl,rfl⟩)
 obtain⟨a,b,c,d⟩:=kU w (p8 #[I Y 1,I Y (0),I Y 0,wP (.func 214) #[] #[tv (A ⟨w.heap.size+1+1+1,0,V⟩)]] 211) (p8 #[O V 0 0] 367) (p8 #[I J 12,I J 13,I J 14,I J 15] 61) (p8 #[O (A ⟨w.heap.size+1+1,0,V⟩) 4 4] 367);exact bW _ _ w.heap.size _ _ _ _ _ a _ Z Z ⟨_,Z,d,jo (S:=[12,13,14,15]) (by omega) (by omega) c b Z (by decide) Z (fun g=>rfl)⟩
theorem Cx(w:p7):r9 r6 103 #[I J 7] w (eq 7 w):=by
 go_enter Tryz.func103,Tryz.ntmps103
 go_wp2_with (go_at_call 175;refine (aT _ _ _ _).mono ?_;rintro e h ⟨rfl,rfl⟩)
 obtain⟨a,i,b⟩:=ea w (p8 #[I Y 0,I Y (0),I Y 0,wP (.func 177) #[] #[]] 211) (p8 #[O V 0 0] 367);exact bW _ _ w.heap.size _ _ _ _ _ a _ Z Z ⟨_,Z,b,tE ⟨_,Z,enters_of Tryz.func177 (by kernel_rfl) Z,fun W d B c v _ f hB g=>wI c v d B W f hB g⟩⟩
theorem CE(w:p7):r9 r6 103 #[I J 8] w (eq 8 w):=by
 go_enter Tryz.func103,Tryz.ntmps103
 go_wp2_with (go_at_call 175;refine (aT _ _ _ _).mono ?_;rintro e h ⟨rfl,rfl⟩)
 obtain⟨a,i,b⟩:=ea w (p8 #[I Y 1,I Y (0),I Y 0,wP (.func 178) #[] #[]] 211) (p8 #[O V 0 0] 367);exact bW _ _ w.heap.size _ _ _ _ _ a _ Z Z ⟨_,Z,b,tE ⟨_,Z,enters_of Tryz.func178 (by kernel_rfl) Z,fun W d B c v _ f hB g=>iT c v d B W f hB g⟩⟩
theorem BJ(w:p7):r9 r6 103 #[I J 9] w (eq 9 w):=by
 go_enter Tryz.func103,Tryz.ntmps103
 go_wp2_with (go_at_call 175;refine (aT _ _ _ _).mono ?_;rintro e f ⟨rfl,rfl⟩)
 obtain⟨b,c,d⟩:=ea w (p8 #[I Y 0,I Y (0),I Y 2147483647,wP (.func 214) #[] #[tv (A ⟨w.heap.size+1,0,V⟩)]] 211) (p8 #[O V 0 0] 367);exact bW _ _ w.heap.size _ _ _ _ _ b _ Z Z ⟨_,Z,d,fR (by omega) c (fun a=>(show a.isEmpty=_ from io a))⟩
theorem Ah(w:p7):r9 r6 103 #[I J 10] w (eq 10 w):=by
 go_enter Tryz.func103,Tryz.ntmps103
 go_wp2_with (go_at_call 175;refine (aT _ _ _ _).mono ?_;rintro e h ⟨rfl,rfl⟩)
 obtain⟨a,i,b⟩:=ea w (p8 #[I Y 0,I Y (0),I Y 0,wP (.func 179) #[] #[]] 211) (p8 #[O V 0 0] 367);exact bW _ _ w.heap.size _ _ _ _ _ a _ Z Z ⟨_,Z,b,tE ⟨_,Z,enters_of Tryz.func179 (by kernel_rfl) Z,fun W d B c v _ f hB g=>wk c v d B W f hB g⟩⟩
theorem Bq(w:p7):r9 r6 103 #[I J 11] w (eq 11 w):=by
 go_enter Tryz.func103,Tryz.ntmps103
 go_wp2_with (go_at_call 175;refine (aT _ _ _ _).mono ?_;rintro e f ⟨rfl,rfl⟩)
 obtain⟨b,c,d⟩:=ea w (p8 #[I Y 0,I Y (0),I Y 0,wP (.func 214) #[] #[tv (A ⟨w.heap.size+1,0,V⟩)]] 211) (p8 #[O V 0 0] 367);exact bW _ _ w.heap.size _ _ _ _ _ b _ Z Z ⟨_,Z,d,fR (by omega) c (fun a=>(show a.isEmpty=_ from io a))⟩
theorem Ae(w:p7):r9 r6 103 #[I J 12] w (eq 12 w):=by
 go_enter Tryz.func103,Tryz.ntmps103
 go_wp2_with (go_at_call 175;refine (aT _ _ _ _).mono ?_;rintro e f ⟨rfl,rfl⟩)
 obtain⟨b,c,d⟩:=ea w (p8 #[I Y 0,I Y (0),I Y 0,wP (.func 214) #[] #[tv (A ⟨w.heap.size+1,0,V⟩)]] 211) (p8 #[O V 0 0] 367);exact bW _ _ w.heap.size _ _ _ _ _ b _ Z Z ⟨_,Z,d,fR (by omega) c (fun a=>(show a.isEmpty=_ from io a))⟩
theorem Ao(w:p7):r9 r6 103 #[I J 13] w (eq 13 w):=by
 go_enter Tryz.func103,Tryz.ntmps103
 go_wp2_with (go_at_call 175;refine (aT _ _ _ _).mono ?_;rintro e f ⟨rfl,rfl⟩)
 obtain⟨b,c,d⟩:=ea w (p8 #[I Y 2,I Y (0),I Y 0,wP (.func 214) #[] #[tv (A ⟨w.heap.size+1,0,V⟩)]] 211) (p8 #[O V 0 0] 367);exact bW _ _ w.heap.size _ _ _ _ _ b _ Z Z ⟨_,Z,d,fR (by omega) c (fun a=>(show a.isEmpty=_ from io a))⟩
theorem Ak(w:p7):r9 r6 103 #[I J 14] w (eq 14 w):=by
 go_enter Tryz.func103,Tryz.ntmps103
 go_wp2_with (go_at_call 175;refine (aT _ _ _ _).mono ?_;rintro e f ⟨rfl,rfl⟩)
 obtain⟨b,c,d⟩:=ea w (p8 #[I Y 3,I Y (0),I Y 0,wP (.func 214) #[] #[tv (A ⟨w.heap.size+1,0,V⟩)]] 211) (p8 #[O V 0 0] 367);exact bW _ _ w.heap.size _ _ _ _ _ b _ Z Z ⟨_,Z,d,fR (by omega) c (fun a=>(show a.isEmpty=_ from io a))⟩
theorem Bu(w:p7):r9 r6 103 #[I J 15] w (eq 15 w):=by
 go_enter Tryz.func103,Tryz.ntmps103
 go_wp2_with (go_at_call 175;refine (aT _ _ _ _).mono ?_;rintro e f ⟨rfl,rfl⟩)
 obtain⟨b,c,d⟩:=ea w (p8 #[I Y 2,I Y (0),I Y 0,wP (.func 214) #[] #[tv (A ⟨w.heap.size+1,0,V⟩)]] 211) (p8 #[O V 0 0] 367);exact bW _ _ w.heap.size _ _ _ _ _ b _ Z Z ⟨_,Z,d,fR (by omega) c (fun a=>(show a.isEmpty=_ from io a))⟩
theorem Bi(w:p7):r9 r6 103 #[I J 16] w (eq 16 w):=by
 go_enter Tryz.func103,Tryz.ntmps103
 go_wp2_with (go_at_call 175;refine (aT _ _ _ _).mono ?_;rintro e h ⟨rfl,rfl⟩)
 obtain⟨a,i,b⟩:=ea w (p8 #[I Y 4,I Y (0),I Y 0,wP (.func 178) #[] #[]] 211) (p8 #[O V 0 0] 367);exact bW _ _ w.heap.size _ _ _ _ _ a _ Z Z ⟨_,Z,b,tE ⟨_,Z,enters_of Tryz.func178 (by kernel_rfl) Z,fun W d B c v _ f hB g=>iT c v d B W f hB g⟩⟩
theorem vX(k:Nat)(w:p7)(h:k=0∨16<k):r9 r6 103 #[I J k] w fun e w'=>e=tF (wF #[s3 #[I Y 0,I Y 0,I Y 0,.nilFunc],ur r7])∧FS w w':=by
 have m:((k:Int)==1)=false:=by simp;omega
 have n:((k:Int)==2)=false:=by simp;omega
 have o:((k:Int)==3)=false:=by simp;omega
 have p:((k:Int)==4)=false:=by simp;omega
 have q:((k:Int)==5)=false:=by simp;omega
 have r:((k:Int)==6)=false:=by simp;omega
 have s:((k:Int)==7)=false:=by simp;omega
 have t:((k:Int)==8)=false:=by simp;omega
 have u:((k:Int)==9)=false:=by simp;omega
 have a:((k:Int)==10)=false:=by simp;omega
 have b:((k:Int)==11)=false:=by simp;omega
 have c:((k:Int)==12)=false:=by simp;omega
 have d:((k:Int)==13)=false:=by simp;omega
 have f:((k:Int)==14)=false:=by simp;omega
 have g:((k:Int)==15)=false:=by simp;omega
 have i:((k:Int)==16)=false:=by simp;omega
 clear h
 go_enter Tryz.func103,Tryz.ntmps103
 go_wp2_with (go_at_call 175;refine (aT _ _ _ _).mono ?_;rintro e v ⟨rfl,rfl⟩)
 obtain⟨j,x,l⟩:=ea w (p8 #[I Y 0,I Y 0,I Y 0,.nilFunc] 211) (p8 #[O V 0 0] 367);exact bW _ _ w.heap.size _ _ _ _ _ j _ Z Z ⟨Z,l⟩
theorem zg(k:Nat)(w:p7)(b:1≤k)(c:k≤16):r9 r6 103 #[I J k] w (eq k w):=by
 have a:k=1∨k=2∨k=3∨k=4∨k=5∨k=6∨k=7∨k=8∨k=9∨k=10∨k=11∨k=12∨k=13∨k=14∨k=15∨k=16:=by omega
 rcases a with rfl|rfl|rfl|rfl|rfl|rfl|rfl|rfl|rfl|rfl|rfl|rfl|rfl|rfl|rfl|rfl
 ·exact B8 w
 ·exact Df w
 ·exact CW w
 ·exact BS w
 ·exact Ck w
 ·exact CU w
 ·exact Cx w
 ·exact CE w
 ·exact BJ w
 ·exact Ah w
 ·exact Bq w
 ·exact Ae w
 ·exact Ao w
 ·exact Ak w
 ·exact Bu w
 ·exact Bi w
theorem wu(k:Nat)(b:1≤k)(c:k≤16)(t:List UInt8)(n:Nat):uq k t n=textF (eQ k).1 t n:=by
 have a:k=1∨k=2∨k=3∨k=4∨k=5∨k=6∨k=7∨k=8∨k=9∨k=10∨k=11∨k=12∨k=13∨k=14∨k=15∨k=16:=by omega
 rcases a with rfl|rfl|rfl|rfl|rfl|rfl|rfl|rfl|rfl|rfl|rfl|rfl|rfl|rfl|rfl|rfl
 ·exact Z
 ·exact Z
 ·exact Z
 ·exact Z
 ·exact Z
 ·exact Z
 ·exact Z
 ·exact Z
 ·exact Z
 ·exact Z
 ·exact Z
 ·exact Z
 ·exact Z
 ·exact Z
 ·exact Z
 ·exact Z
theorem zo(k:Nat)(c:1≤k)(d:k≤16)(x:Int):tJ k x=(r8 ((eQ k).2.1≤x)&&r8 (x≤(eQ k).2.2)):=by
 have a:(x==0)=(r8 (0≤x)&&r8 (x≤0)):=by rw[FD];simp;omega
 have b:k=1∨k=2∨k=3∨k=4∨k=5∨k=6∨k=7∨k=8∨k=9∨k=10∨k=11∨k=12∨k=13∨k=14∨k=15∨k=16:=by omega
 rcases b with rfl|rfl|rfl|rfl|rfl|rfl|rfl|rfl|rfl|rfl|rfl|rfl|rfl|rfl|rfl|rfl
 ·exact a
 ·exact a
 ·exact a
 ·exact Z
 ·exact a
 ·exact a
 ·exact a
 ·exact a
 ·exact Z
 ·exact a
 ·exact a
 ·exact a
 ·exact a
 ·exact a
 ·exact a
 ·exact a
theorem DO(k:Nat)(b:1≤k)(c:k≤16):(eQ k).1≤4∧-2147483647≤(eQ k).2.1∧(eQ k).2.2≤2147483647:=by
 have a:k=1∨k=2∨k=3∨k=4∨k=5∨k=6∨k=7∨k=8∨k=9∨k=10∨k=11∨k=12∨k=13∨k=14∨k=15∨k=16:=by omega
 rcases a with rfl|rfl|rfl|rfl|rfl|rfl|rfl|rfl|rfl|rfl|rfl|rfl|rfl|rfl|rfl|rfl
 ·decide
 ·decide
 ·decide
 ·decide
 ·decide
 ·decide
 ·decide
 ·decide
 ·decide
 ·decide
 ·decide
 ·decide
 ·decide
 ·decide
 ·decide
 ·decide
def dN(d:Nat) (T:ah) (deep left:Nat):Bool:=okF d T&&r8 (deep+dU d T≤31)&&r8 (bw d T≤left)
def jJ(d:Nat) (deep:Nat) (t:ah):Bool:=okF d t&&r8 (deep+1+dU d t≤31)
def sumF(d:Nat) (a:List ah):Nat:=(a.map (bw d)).foldl (· + ·) 0
theorem Ev(d:Nat)(T:ah)(h:d=0→T.u=[]):okF d T=(cJ T&&T.u.all (okF (d-1))):=by
 cases d with
 | zero=>rw[h Z];show cJ T=(cJ T&&r5);rw[Bool.and_true]
 | succ d=>rfl
theorem Cp(d:Nat)(T:ah)(h:d=0→T.u=[]):dU d T=(T.u.map (dU (d-1))).foldl Nat.max 0+1:=by
 cases d with
 | zero=>rw[h Z];rfl
 | succ d=>rfl
theorem uR(d:Nat)(T:ah)(h:d=0→T.u=[]):bw d T=sumF (d-1) T.u+1:=by
 cases d with
 | zero=>rw[h Z];rfl
 | succ d=>show (T.u.map (bw d)).foldl (· + ·) 1=_;rw[rN,Nat.add_comm];rfl
theorem max_le(f:ah→Nat)(m:Nat):∀(l:List ah) (a:Nat),(r8 ((l.map f).foldl Nat.max a≤m))=(r8 (a≤m)&&l.all fun t=>r8 (f t≤m)):=by
 intro l
 induction l with
 | nil=>intro a;simp
 | cons x l b =>
  intro a;rw[List.map_cons,List.foldl_cons,b,List.all_cons];have:r8 (Nat.max a (f x)≤m)=(r8 (a≤m)&&r8 (f x≤m)):=by rw[FD];simp only[oE,Fp];exact Nat.max_le
  rw[this,Bool.and_assoc]
theorem Ce(d:Nat)(T:ah)(deep left:Nat)(h:d=0→T.u=[]) :
  dN d T deep left=(cJ T&&r8 (deep≤30)&&T.u.all (jJ (d-1) deep)&&r8 (sumF (d-1) T.u+1≤left)):=by
 unfold dN;rw[Ev d T h,Cp d T h,uR d T h]
 by_cases b:deep≤30
 ·have e:r8 (deep+((T.u.map (dU (d-1))).foldl Nat.max 0+1)≤31)=r8 ((T.u.map (dU (d-1))).foldl Nat.max 0≤30-deep):=by
   rw[FD];simp only[oE];omega
  rw[e,max_le];have c:r8 (0≤30-deep)=true:=by simp
  have a:r8 (deep≤30)=true:=by simpa using b
  rw[c,a,Bool.true_and,Bool.and_true];have f:T.u.all (jJ (d-1) deep)=(T.u.all (okF (d-1))&&T.u.all fun t=>r8 (dU (d-1) t≤30-deep)):=by
   induction T.u with
   | nil=>rfl
   | cons x l g =>
    rw[List.all_cons,List.all_cons,List.all_cons,g];unfold jJ;have:r8 (deep+1+dU (d-1) x≤31)=r8 (dU (d-1) x≤30-deep):=by rw[FD];simp only[oE];omega
    rw[this]
    cases okF (d-1) x<;>cases r8 (dU (d-1) x≤30-deep)<;>simp
  rw[f];simp only[Bool.and_assoc]
 ·have i:r8 (deep+((T.u.map (dU (d-1))).foldl Nat.max 0+1)≤31)=false:=by simp;omega
  have a:r8 (deep≤30)=false:=by simpa using b
  rw[i,a];simp
theorem rP(d:Nat)(a:List ah)(k:Nat)(t:ah)(h:a[k]?=A t):sumF d (a.take (k+1))=sumF d (a.take k)+bw d t:=by
 unfold sumF;rw[FI,h,List.map_append,List.foldl_append];rfl
theorem Du(d:Nat)(a:List ah)(k:Nat):sumF d (a.take k)≤sumF d a:=by
 have h:sumF d a=sumF d (a.take k)+sumF d (a.drop k):=by
  unfold sumF
  conv=>lhs;rw[←List.take_append_drop k a]
  rw[List.map_append,List.foldl_append,rN]
 omega
def jT(d:Nat) (T:ah) (deep left a:Nat) (w:p7) (e:xv) (w':p7):Prop:=
 e=tF (ur (dN d T deep left))∧w.grownBy w' (A a)∧∃x:Int,w'.heap[a]?=A (p8 #[I Y x] 3 (0,0))∧(dN d T deep left=r5→x=(left:Int)-bw d T)
def AW(d:Nat):Prop:=∀(T:ah) (v:r3) (deep left a B:Nat) (w:p7),fk w B d T v→B≤a→B≤w.heap.size→jv d T→aM w→1≠a→
 w.heap[a]?=A (p8 #[I Y left] 3 (0,0))→1≤deep→deep≤31→left≤4096→r9 r6 46 #[v,I Y deep,tv (A ⟨a,0,V⟩)] w (jT d T deep left a w)
theorem below_of_grown{B g:Nat}{w W:p7}(a:w.grownBy W (A g))(b:B≤g)(hB:B≤w.heap.size):Below B w W:=
 ⟨a.os,a.tape,a.output,a.size,fun i c=>a.block i (EY c hB) (by intro e;simp at e;omega)⟩
def Dd(w:p7) (d:Nat) (b:List ah) (deep left c n:Nat) (i:r3) (W:p7):Prop:=
 ∃(a:p7) (k m:Nat),a=W∧k≤n∧i=I Y k∧w.grownBy a (A c)∧a.heap[c]?=A (p8 #[I Y m] 3 (0,0))∧m+sumF d (b.take k)+1=left∧(b.take k).all (jJ d deep)=r5
theorem gB{a b c:p7}{row:Option Nat}(h:a.grownBy b row)(d:b.grownBy c row):a.grownBy c row:=
 ⟨d.os.trans h.os,d.tape.trans h.tape,d.output.trans h.output,EZ h.size d.size,fun k f e=>(d.block k (EY f h.size) e).trans (h.block k f e)⟩
theorem right_stop{d:Nat}{a:List ah}{k m deep left:Nat}{t:ah}(f:a[k]?=A t)(hm:m+sumF d (a.take k)+1=left)(h:dN d t (deep+1) m=r7):(a.all (jJ d deep)&&r8 (sumF d a+1≤left))=false:=by
 by_cases b:jJ d deep t=r5
 ·have g:m<bw d t:=by
   unfold dN at h;unfold jJ at b;rw[b,Bool.true_and]at h
   simpa using h
  have i:=rP d a k t f;have j:=Du d a (k+1);have e:r8 (sumF d a+1≤left)=false:=by simp;omega
  rw[e,Bool.and_false]
 ·have c:jJ d deep t=false:=by simpa using b
  have e:a.all (jJ d deep)=false:=by rw[List.all_eq_false];exact⟨t,Fv f,by simp[c]⟩
  rw[e,Bool.false_and]
theorem Cg{d:Nat}{b:List ah}{k m deep:Nat}{t:ah}(c:b[k]?=A t)(a:(b.take k).all (jJ d deep)=r5)(h:dN d t (deep+1) m=r5):(b.take (k+1)).all (jJ d deep)=r5∧bw d t≤m:=by
 unfold dN at h;rw[Fp]at h;refine⟨?_,by simpa using h.2⟩;rw[FI,c,List.all_append,a]
 simpa [jJ]using h.1
theorem dY{d deep left b:Nat}{T:ah}{w W:p7}{x:Int}(a:dN d T deep left=r7)(c:w.grownBy W (A b))(e:W.heap[b]?=A (p8 #[I Y x] 3 (0,0))) :
  jT d T deep left b w (tF (ur r7)) W:=⟨bI a.symm,c,x,e,fun h=>by rw[a]at h;cases h⟩
theorem sw{w:p7}{a:Nat}{x:r3}{t:TypeId}(h:w.heap[a]?=A (p8 #[x] t (0,0)))(y:r3)(o:Obj):((w.setCell ⟨a,0,V⟩ y).alloc o).heap[a]?=A (p8 #[y] t (0,0)):=by
 have b:=heap_set h 0 y;have c:a<(w.setCell ⟨a,0,V⟩ y).heap.size:=(ES.1 b).1;rw[ib,ox (by omega)];exact b
theorem mq(d:Nat)(T:ah)(v:r3)(deep left f B:Nat)(w:p7)(hv:fk w B d T v)(_hB:B≤w.heap.size)(r:w.heap[f]?=A (p8 #[I Y left] 3 (0,0)))(D:left≤4096)
  (t:T.b=0∨16<T.b):r9 r6 46 #[v,I Y deep,tv (A ⟨f,0,V⟩)] w (jT d T deep left f w):=by
 obtain⟨_,s,rfl,g⟩:=hv;obtain⟨p,n,c,rfl⟩:=g.b;have i:dN d T deep left=false:=by
  have z:cJ T=false:=by
   unfold cJ;rcases t with h|h
   ·have e:r8 (1≤T.b)=false:=by simp;omega
    rw[e];rfl
   ·have e:r8 (T.b≤16)=false:=by simp;omega
    rw[e];simp
  unfold dN;have:okF d T=false:=by
   cases d with
   | zero=>exact z
   | succ d=>show (cJ T&&_)=r7;rw[z];rfl
  rw[this];rfl
 have u:=Hd i;have x:f<w.heap.size:=(ES.1 r).1;have E:(0:Int)≤left:=by omega
 have F:(left:Int)≤4096:=by omega
 have y:=Hd (fun W=>vX T.b W t);have j:FS w (w.alloc (p8 #[I J T.b,p9 T.h,I Y T.q,I Y T.t,O p n c] 157)):=(EU _ w).alloc (ET _) _;obtain⟨b0,G,H,K,L⟩:=cells5 (ot w (p8 #[I J T.b,p9 T.h,I Y T.q,I Y T.t,O p n c] 157));obtain⟨k,M⟩:=zz2 j r;clear t g i r j
 go_enter Tryz.func46,Tryz.ntmps46
 go_wp2_with fail
 refine Ff (y.o _) ?_;rintro e w1 ⟨rfl,l⟩;have a:=Hd (k.o.trans (l.mono k.o.size));have q:=ag a.o M.o x;have m:f<w1.heap.size:=(ES.1 q).1;have b:FS w1 (w1.alloc (p8 #[I Y 0,I Y 0,I Y 0,.nilFunc] 211)):=(EU _ w1).alloc (ET _) _;obtain⟨C,N,P⟩:=zz3 (ag b q m) q (a.o.trans (b.mono a.o.size));have c2:=FR _ _ 0 _ _ _ C.o;have f2:=bM C.o 0;clear b0 G H K L l q b;go_wp2_with fail
 go_ret;exact dY u.o (grown_below (gj (aL a.o (A f)) 0 _) ((EU _ _).alloc (ET _) _)) (sw N.o _ _)
