/- Parts of one proof, joined; conditions stand in each theorem. -/
import Derived.Test.YtkhfjgjjhlnnnaaGreatDoorMC
import Derived.Test.YtkhfjgjjhlnnnaaGreatDoorMG
import Derived.Laws.EntriesVeiled
open Option renaming some→Y,none→U
open Go.Value renaming int→I,string→J,slice→A,tuple→AJ,agg→wD,bool→xS,func→Bk,pointer→wF
open Go.IntKind renaming u8→O,i64→Z
open Go renaming World→vk,Value→vn,Calls→wB,Ending→Bs,wpQuiet_nil→z7,undef→xD
open Go.Proofs.Tryz renaming prog→wq
open Go.Ending renaming returned→xv
open Bool renaming false→wj,true→wg
open Or renaming inl→wP,inr→xj
open Go.Obj renaming cells→ur
open Decidable renaming decide→wo
namespace Go.Proofs.YtkhfjgjjhlnnnaaGreatDoor
set_option maxHeartbeats 2000000
set_option maxRecDepth 100000
open Go.RowKit
theorem vB(l:List Tok)(i:Nat)(t:Tok)(h:l[i]?=Y t):(bV l)[3*i]?=Y (I O t.1)∧(bV l)[3*i+1]?=Y (J t.2.1)∧(bV l)[3*i+2]?=Y (I Z t.2.2):=by
 induction l generalizing i with
 | nil=>simp at h
 | cons a r c =>
  have e:bV (a::r)=gd a++bV r:=rfl;have b:(gd a).length=3:=rfl
  cases i with
  | zero =>
   obtain rfl:a=t:=by simpa using h
   rw[e];exact⟨V,V,V⟩
  | succ i =>
   have d:r[i]?=Y t:=by simpa using h
   obtain⟨a1,a2,a3⟩:=c i d;rw[e];refine⟨?_,?_,?_⟩
   ·rw[FS (by omega),b,show 3*(i+1)-3=3*i from by omega];exact a1
   ·rw[FS (by omega),b,show 3*(i+1)+1-3=3*i+1 from by omega];exact a2
   ·rw[FS (by omega),b,show 3*(i+1)+2-3=3*i+2 from by omega];exact a3
theorem EN{w:vk}{B n:Nat}{v:vn}{l:List Tok}(h:w.ownsRow B 122 3 v n (bV l))(q:0<n) :
  ∃g cap,v=A (Y ⟨g,0,U⟩) n cap∧g<w.heap.size∧B≤g∧∀i t,l[i]?=Y t→w.cell? ⟨g,i*3,U⟩=Y (I O t.1)∧w.cell? ⟨g,i*3+1,U⟩=Y (J t.2.1)∧w.cell? ⟨g,i*3+2,U⟩=Y (I Z t.2.2):=by
 obtain⟨g,cap,rfl,hB,a⟩:∃g cap,v=A (Y ⟨g,0,U⟩) n cap∧B≤g∧g<w.heap.size:=by
  rcases h.2 with ⟨_,rfl⟩|⟨g,cap,cur,rfl,m,o,_⟩
  ·omega
  ·exact⟨g,cap,V,m,(Fi.1 o).1⟩
 refine⟨g,cap,V,a,hB,fun i t p=>?_⟩;obtain⟨a1,a2,a3⟩:=vB l i t p;have b:=h.cells (g:=g) V;have e:∀j,((⟨g,0,U⟩:Addr).add j)=⟨g,j,U⟩:=fun j=>by
  unfold Addr.add
  by_cases c:j=0
  ·rw[r6 c,c]
  ·rw[r5 c];simp
 have d:=b _ _ a1;have f:=b _ _ a2;have k:=b _ _ a3;rw[e]at d f k;rw[Nat.mul_comm 3 i]at d f k;exact⟨d,f,k⟩
theorem zQ(s:ByteArray)(w:vk)(a:s.size≤16384)(b:aS w)(o:List Tok×Option (Nat×Nat))(c:aL s 0=o) :
  wB wq 54 #[J s] w fun e W=>Gc w W∧
   ((o.2=U∧∃v,e=xv (AJ #[v,wD #[I Z 0,I Z 0]])∧W.ownsRow w.heap.size 122 3 v (o.1.length+1) (bV (o.1++[(7,⟨#[]⟩,s.size)])))∨
    ∃er pl,o.2=Y (er,pl)∧e=xv (AJ #[A U 0 0,wD #[I Z er,I Z pl]])):=by
 subst c;exact qk s w a b
theorem Bj(s:ByteArray):∀(f k er pl:Nat),(toks f s k).2=Y (er,pl)→er≠0:=by
 intro f
 induction f with
 | zero=>intro k er pl h;cases h
 | succ f a =>
  intro k er pl h;unfold toks at h
  split at h
  ·split at h
   ·exact a _ _ _ h
   ·rename_i b
    injection h with h
    injection h with c d
    subst c;exact b
  ·cases h
theorem tg(s:ByteArray)(k er pl:Nat)(h:(aL s k).2=Y (er,pl)):er≠0:=Bj s _ k er pl h
def AO(t:ByteArray) (w:vk) (e:Bs) (w':vk):Prop:=
 Gc w w'∧∃p n c er at',e=xv (AJ #[A p n c,wD #[I Z er,I Z at']])∧(0:Int)≤er∧
  ((er≠0∧jz t=wj)∨(er=0∧n≠2∧jz t=wj)∨(er=0∧n=2∧∃g tx,p=Y ⟨g,0,U⟩∧g<w'.heap.size∧w'.cell? ⟨g,1,U⟩=Y (J tx)∧jz t=(tx.toList==t.toList)))
theorem zA(t:ByteArray)(w:vk)(m:aS w):wB wq 54 #[J (aY t)] w (AO t w):=by
 by_cases j:(aY t).size≤16384
 ·refine (zQ (aY t) w j m _ V).mono ?_;rintro e W ⟨c,(⟨a,v,rfl,b⟩|⟨er,pl,a,rfl⟩)⟩
  ·obtain⟨g,cap,rfl,n,_,k⟩:=EN b (by omega);refine⟨c,_,_,_,_,_,V,by omega,?_⟩
   right
   by_cases d:(aL (aY t) 0).1.length=1
   ·right
    refine⟨V,by omega,?_⟩;generalize i:aL (aY t) 0=o at *;obtain⟨l,f⟩:=o;dsimp only at a d k
    match l,d with
    | [x],_ =>
     refine⟨g,x.2.1,V,n,(k 0 x V).2.1,?_⟩;unfold jz;rw[i];dsimp only;rw[a];simp[ByteArray.toList_eq]
   ·left
    refine⟨V,by omega,?_⟩;unfold jz;rw[Bool.and_eq_false_iff]
    right
    rw[tS];intro h;have:=tE List.length h;rw[List.length_map]at this;exact d this
  ·refine⟨c,_,_,_,_,_,V,by omega,wP ⟨by have:=tg _ _ _ _ a;omega,?_⟩⟩;unfold jz;rw[a];rfl
 ·refine (oV (aY t) w (by omega)).mono ?_;rintro e W ⟨rfl,c⟩;refine⟨c,_,_,_,_,_,V,by omega,wP ⟨by omega,?_⟩⟩;rw[gm,vF _ (by rw[lF]at j;omega)]
theorem Eh{w:vk}{T:Nat}{a b:vn}{t:TypeId}(h:w.heap[T]?=Y (ur #[a,b] t (0,0))) :
  w.cell? ⟨T,0,U⟩=Y a∧w.cell? ⟨T,1,U⟩=Y b∧w.frozen? ⟨T,0,U⟩=wj∧w.frozen? ⟨T,1,U⟩=false:=by
 simp[World.cell?,World.frozen?,h]
theorem zg(t:ByteArray):aY t=(⟨#[39]⟩:ByteArray)++t:=by
 apply ByteArray.ext;apply Array.toList_inj.1;rw[oO,ByteArray.data_append,Array.toList_append];rfl
theorem s4(kd:Nat)(t:ByteArray)(nm pl:Int)(p:Option Addr)(n c:Nat)(word:Bool)(w:vk)(N:aS w)(P:t.size≤72007) :
  wB wq 136 #[wD #[I O kd,J t,I Z nm,I Z pl,A p n c],xS word] w (ao (aN t.data.toList&&(word||!di t.data.toList)) w):=by
 have k:Gc w (w.alloc (ur #[I O kd,J t,I Z nm,I Z pl,A p n c] 99)):=(Fl _ w).alloc (Fj _) _;have h0:=qv w (ur #[I O kd,J t,I Z nm,I Z pl,A p n c] 99);have z:w.heap.size<(w.alloc (ur #[I O kd,J t,I Z nm,I Z pl,A p n c] 99)).heap.size:=by simp
 have Q:=zA t _ (N.u k);rw[zg]at Q;have HQ:=Hd Q;clear Q;obtain⟨B,H0,u,C⟩:=zz4 (N.u k) h0 k z;clear N h0 k z
 go_enter Tryz.func136,Tryz.ntmps136
 go_wp2_with fail
 refine Fx HQ.o ?_;rintro e w1 ⟨l,p',n',c',er,at',rfl,R,i⟩;obtain⟨a,H1,v,D⟩:=zz4 i (aa l H0.o C.o) (u.o.trans (l.mono u.o.size)) (B.o.u l);clear i l HQ B;go_wp2_with fail
 have j:=(Fl _ w1).alloc (Fj _) (ur #[I Z er,I Z at'] 35);have E:w.heap.size<w1.heap.size:=(Fi.1 H1.o).1;obtain⟨S,T,d,W,F⟩:=zz5 (aa j H1.o E) (qv w1 (ur #[I Z er,I Z at'] 35)) (v.o.trans (j.mono v.o.size)) (D.o.u j) (fun g tx (m:g<w1.heap.size) (r:w1.cell? ⟨g,1,U⟩=Y (J tx))=>(j.cell (p:=⟨g,1,U⟩) m).trans r);generalize w1.alloc (ur #[I Z er,I Z at'] 35)=h at *;obtain⟨f0,f1,_,_⟩:=Eh T.o;obtain⟨b0,y,b2,b3,b4⟩:=cells5 S.o;have G:=fun x:Wb h=>x.b f0
 have H:=fun x:Wb h=>x.b y
 clear j f1 b0 b2 b3 b4;rcases a.o with ⟨m,r⟩|⟨m,r,q⟩|⟨m,r,g,tx,rfl,hg,M,q⟩
 ·have he:(er==0)=false:=by simpa using m
  have s:=Hd r;clear m r a f0 y;refine au (by kernel_rfl) (by kernel_rfl) ?_
  repeat (go_big_quiet_step (fail))
  refine z7 ?_;intro W2 b;have f:=Hd (d.o.trans ((a8 b).mono d.o.size));clear b G H;go_wp2_with fail
  go_ret;exact⟨ah (by rw[←gm,s.o];rfl),f.o⟩
 ·have he:(er==0)=true:=by simpa using m
  have al:((n':Int)==2)=false:=by simp;omega
  have s:=Hd q;clear m r q a f0 y;refine au (by kernel_rfl) (by kernel_rfl) ?_
  repeat (go_big_quiet_step (fail))
  refine z7 ?_;intro W2 b;have f:=Hd (d.o.trans ((a8 b).mono d.o.size));clear b G H;go_wp2_with fail
  go_ret;exact⟨ah (by rw[←gm,s.o];rfl),f.o⟩
 ·subst m;subst r;have gc:=F.o g tx hg M;have X:=fun x:Wb h=>x.b gc
  cases K:(tx.toList==t.toList)
  ·rw[K]at q;have s:=Hd q;clear q a f0 y M gc;refine au (by kernel_rfl) (by kernel_rfl) ?_
   repeat (go_big_quiet_step (fail))
   refine z7 ?_;intro W2 b;have f:=Hd (d.o.trans ((a8 b).mono d.o.size));clear b G H X;go_wp2_with fail
   go_ret;exact⟨ah (by rw[←gm,s.o];rfl),f.o⟩
  ·rw[K]at q;have s:=Hd q;clear q a
   cases word
   ·clear G H X;have ad:w.heap.size<h.heap.size:=(Fi.1 S.o).1;have af:w1.heap.size<h.heap.size:=(Fi.1 T.o).1;have ak:g<h.heap.size:=by omega
    clear F u C H0 H1 v D S T E hg P R
    go_region_held3 (fun w'=>w'.cell? ⟨w.heap.size,1,U⟩=Y (J t)∧w'.cell? ⟨w1.heap.size,0,U⟩=Y (I Z 0)∧w'.cell? ⟨g,1,U⟩=Y (J tx))
     (first
      | (exact⟨by assumption,by assumption,by assumption⟩)
      | (exact⟨(World.cell?_alloc_lt h _ ⟨w.heap.size,1,U⟩ ad).trans y,(World.cell?_alloc_lt h _ ⟨w1.heap.size,0,U⟩ af).trans f0,(World.cell?_alloc_lt h _ ⟨g,1,U⟩ ak).trans gc⟩))
     (first
      | (go_at_call 214;refine (sW _ (W.o.u (Fl _ _).drew)).mono ?_;rintro e w6 ⟨rfl,rfl⟩)
      | (go_at_call 213;refine (lO _ _ t _ (by exact qv h _)).mono ?_;rintro e w6 ⟨rfl,rfl⟩))
    have L:Gc h (h.alloc (ur (fa.map J).toArray 9)).drew:=((Fl _ h).alloc (Fj _) _).drew;have f:=Hd (d.o.trans (L.mono d.o.size));clear L y f0 gc M;go_wp2_with fail
    go_ret;exact⟨ah (by rw[←gm,s.o];rfl),f.o⟩
   ·clear f0 y M gc;refine au (by kernel_rfl) (by kernel_rfl) ?_
    repeat (go_big_quiet_step (fail))
    refine z7 ?_;intro W2 b;have f:=Hd (d.o.trans ((a8 b).mono d.o.size));clear b G H X;go_wp2_with fail
    go_ret;exact⟨ah (by rw[←gm,s.o];rfl),f.o⟩
theorem xW(L:List ByteArray)(x:ByteArray):Lib.containsS L x=cn L x.data.toList:=by
 rw[FV,Lib.containsS_iff,cn,List.any_eq_true]
 constructor
 ·intro h;exact⟨x,h,by simp⟩
 ·rintro ⟨y,c,he⟩;have e:y=x:=by
   have a:y.data.toList=x.data.toList:=by simpa using he
   have b:y.data=x.data:=Array.toList_inj.1 a;exact ByteArray.ext b
  rwa [←e]
theorem ny(L:List ByteArray)(n B c:Nat)(t:TypeId)(x:ByteArray)(w:vk)(d:L.length=n)(b:n≤100)(h:w.heap[B]?=Y (ur (L.map J).toArray t (0,0))) :
  wB wq 213 #[A (Y ⟨B,0,U⟩) n c,J x] w fun e w'=>e=xv (xS (cn L x.data.toList))∧Gc w w':=by
 refine (Tryz.slices_Contains_string B 0 n c L x w (by omega) (by omega) (fun j f=>?_)).mono ?_
 ·rw[Nat.zero_add,Gb _ _ _ _ _ _ h];have a:j<L.length:=by omega
  simp[List.getD_eq_getElem?_getD,List.getElem?_eq_getElem a]
 ·rintro e w' ⟨rfl,rfl⟩;refine⟨?_,Fl _ _⟩;rw[FH (by omega),xW]
def opB(k:Nat) (t:List UInt8):Bool:=(k==1&&cn kT t)||(k==2&&cn jc t)
theorem Wb.heap{w:vk}(x:Wb w){b:Nat}{o:Obj}(h:w.heap[b]?=Y o):x.1.heap[b]?=Y o:=aa x.2 h (Fi.1 h).1
theorem Az(w:vk)(a b d:Obj):(((w.alloc a).alloc b).alloc d).heap[w.heap.size]?=Y a∧(((w.alloc a).alloc b).alloc d).heap[w.heap.size+1]?=Y b∧(((w.alloc a).alloc b).alloc d).heap[w.heap.size+1+1]?=Y d∧Gc w (((w.alloc a).alloc b).alloc d):=by refine⟨?_,?_,?_,(((Fl _ w).alloc (Fj _) _).alloc (by simp) _).alloc (by simp;omega) _⟩<;>(simp only[il,r9];repeat (first|rw[r6 trivial] | rw[r5 (by omega)] | rw[r6 (by omega)]))
theorem xJ(kd:Nat)(t:ByteArray)(nm pl:Int)(p:Option Addr)(n c:Nat)(w:vk) :
  wB wq 139 #[wD #[I O kd,J t,I Z nm,I Z pl,A p n c]] w (ao (opB n t.data.toList) w):=by
 obtain⟨q,r,s,u⟩:=Az w (ur #[I O kd,J t,I Z nm,I Z pl,A p n c] 99) (ur #[J ⟨#[45]⟩,J ⟨#[110,111,116]⟩] 349)
  (ur #[J ⟨#[111,114]⟩,J ⟨#[97,110,100]⟩,J ⟨#[61]⟩,J ⟨#[33,61]⟩,J ⟨#[60]⟩,J ⟨#[60,61]⟩,J ⟨#[62]⟩,J ⟨#[62,61]⟩,J ⟨#[43]⟩,J ⟨#[45]⟩,J ⟨#[42]⟩] 350)
 obtain⟨H1,y,d⟩:=zz3 r s u;obtain⟨D,z,E,F,G⟩:=cells5 q;have g:Hid (opB n t.data.toList=((n==1&&cn kT t.data.toList)||(n==2&&cn jc t.data.toList))):=rfl;have i:=Hd (fun W (h:W.heap[w.heap.size+1]?=Y (ur (kT.map J).toArray 349 (0,0)))=>ny kT 2 (w.heap.size+1) 2 349 t W V (by omega) h);have j:=Hd (fun W (h:W.heap[w.heap.size+1+1]?=Y (ur (jc.map J).toArray 350 (0,0)))=>ny jc 11 (w.heap.size+1+1) 11 350 t W V (by omega) h);clear q r s u;generalize opB n t.data.toList=o at *;generalize cn kT t.data.toList=v at *;generalize cn jc t.data.toList=B at *;have k:=fun x:Wb _=>x.b z
 go_enter Tryz.func139,Tryz.ntmps139
 by_cases l:n=1
 ·subst l;go_wp2_with fail
  refine au (by kernel_rfl) (by kernel_rfl) ?_
  repeat (go_big_quiet_step ((go_at_call 213;exact Calls.b (i.o _ (Wb.heap _ H1.o)))))
  refine z7 ?_;intro W2 a;have b:=Hd (d.o.trans ((a8 a).mono d.o.size));clear a k;go_wp2_with fail
  go_ret;exact⟨ah (by rw[g.o];cases v<;>rfl),b.o⟩
 ·have H:((n:Int)==1)=false:=by simp;omega
  have e:(n==1)=false:=by simp;omega
  have C:=Hd e;clear e
  by_cases m:n=2
  ·subst m;go_wp2_with fail
   refine au (by kernel_rfl) (by kernel_rfl) ?_
   repeat (go_big_quiet_step ((go_at_call 213;exact Calls.b (j.o _ (Wb.heap _ y.o)))))
   refine z7 ?_;intro W2 a;have b:=Hd (d.o.trans ((a8 a).mono d.o.size));clear a k;go_wp2_with fail
   go_ret;exact⟨ah (by rw[g.o];cases v<;>cases B<;>rfl),b.o⟩
  ·have K:((n:Int)==2)=false:=by simp;omega
   have f:(n==2)=false:=by simp;omega
   have E2:=Hd f;clear f k;go_wp2_with fail
   go_ret;exact⟨ah (by rw[g.o,C.o,E2.o];rfl),d.o⟩
theorem rA(c:UInt8)(r:List UInt8)(h:c≠45):dM (c::r)=false:=by
 unfold dM
 split
 ·rename_i heq;injection heq with a;exact absurd a h
 ·rfl
theorem vp(c:UInt8)(r:List UInt8)(h:c≠45):strip (c::r)=c::r:=by
 unfold strip
 split
 ·rename_i heq;injection heq with a;exact absurd a h
 ·rfl
theorem yw(l:List UInt8):Lib.trimPrefix l [45]=strip l:=by
 unfold Lib.trimPrefix;rw[mL]
 cases l with
 | nil=>rfl
 | cons c r =>
  by_cases h:c=45
  ·subst h;rfl
  ·rw[rA c r h,vp c r h];rfl
theorem Bm(l:List UInt8):(strip l).length≤l.length:=by
 unfold strip
 split
 ·simp
 ·exact Fj _
def textF(f:Nat) (t:List UInt8) (n:Nat):Bool:=
 if f==1 then aN t&&!di t else if f==2 then aN t else if f==3 then (number (strip t)).isSome else if f==4 then opB n t else t.isEmpty
theorem s5(t:ByteArray):(t.toList==(⟨#[]⟩:ByteArray).toList)=t.data.toList.isEmpty:=by
 rw[FB,FB]
 cases t.data.toList<;>rfl
theorem uP(kd:Nat)(t:ByteArray)(nm pl:Int)(p:Option Addr)(n c f:Nat)(w:vk)(l:aS w)(h:t.size≤72007)(s:f≤4) :
  wB wq 71 #[wD #[I O kd,J t,I Z nm,I Z pl,A p n c],I Z f] w (ao (textF f t.data.toList n) w):=by
 have g:Gc w (w.alloc (ur #[I O kd,J t,I Z nm,I Z pl,A p n c] 99)):=(Fl _ w).alloc (Fj _) _;have m:=qv w (ur #[I O kd,J t,I Z nm,I Z pl,A p n c] 99);obtain⟨v,x,y,z,B⟩:=cells5 m;obtain⟨q,i,a,j⟩:=zz4 (fun b=>s4 kd t nm pl p n c b _ (l.u g) h) (fun W=>xJ kd t nm pl p n c W) g (fun W=>(Tryz.strings_TrimPrefix t ⟨#[45]⟩ W).mono (R':=fun e w'=>e=xv (J ⟨(strip t.data.toList).toArray⟩)∧W=w') (fun e w' r=>⟨by rw[r.1];show xv (J ⟨(Lib.trimPrefix t.data.toList [45]).toArray⟩)=_;rw[yw],r.2.symm⟩))
 have k:=Hd (fun W=>me ⟨(strip t.data.toList).toArray⟩ W (by
  show (strip t.data.toList).toArray.size≤100000
  have C:=Bm t.data.toList;have D:t.data.toList.length=t.data.size:=FQ;have E:t.size=t.data.size:=rfl;simp only[List.size_toArray]
  omega))
 clear l m g h
 match f,s with
 | 0,_ =>
  have u:=Hd (s5 t)
  go_enter Tryz.func71,Tryz.ntmps71
  go_wp2_with fail
  go_ret;exact⟨ah (by show _=t.data.toList.isEmpty;rw[←u.o,FB,FB];cases t.data.toList<;>rfl),a.o⟩
 | 1,_ =>
  go_enter Tryz.func71,Tryz.ntmps71
  go_wp2_with fail
  refine Fx (q.o wj) ?_;rintro e W2 ⟨rfl,d⟩;go_wp2_with fail
  go_ret;exact⟨ah V,a.o.trans (d.mono a.o.size)⟩
 | 2,_ =>
  go_enter Tryz.func71,Tryz.ntmps71
  go_wp2_with fail
  refine Fx (q.o wg) ?_;rintro e W2 ⟨rfl,d⟩;go_wp2_with fail
  go_ret;exact⟨ah V,a.o.trans (d.mono a.o.size)⟩
 | 3,_ =>
  go_enter Tryz.func71,Tryz.ntmps71
  go_wp2_with fail
  refine Fx (j.o _) ?_;rintro e W2 ⟨rfl,rfl⟩;go_wp2_with fail
  refine Fx (k.o _) ?_;rintro e W2 ⟨rfl,d⟩;go_wp2_with fail
  go_ret;exact⟨V,a.o.trans (d.mono a.o.size)⟩
 | 4,_ =>
  go_enter Tryz.func71,Tryz.ntmps71
  go_wp2_with fail
  refine Fx (i.o _) ?_;rintro e W2 ⟨rfl,d⟩;go_wp2_with fail
  go_ret;exact⟨V,a.o.trans (d.mono a.o.size)⟩
def eY(kd:Nat):Nat×Int×Int:=
 if kd==2||kd==3||kd==5||kd==6||kd==8 then (1,0,0)
 else if kd==4 then (1,-2147483647,2147483647)
 else if kd==9 then (0,0,2147483647)
 else if kd==13||kd==15 then (2,0,0)
 else if kd==14 then (3,0,0)
 else if kd==16 then (4,0,0)
 else (0,0,0)
def kV(L:Nat) (w W:vk):Prop:=w.heap.size≤W.heap.size∧∀b,L≤b→b<w.heap.size→W.heap[b]?=w.heap[b]?
def qU(L:Nat) (w:vk) (kd:Nat) (fn:vn):Prop:=
 (∃g:FuncId,fn=Bk (.func g) #[] #[]∧(∀(args:Array vn) (w:vk),(callFunc g args).run wq w=.ok (.enter g args) w)∧∀(W:vk) (d B:Nat) (a:List ab) (v:vn),kV L w W→aj W B d a v→B≤W.heap.size→a.length≤20000→wB wq g #[v] W (ao (bw kd a) W))∨
 (∃b:Nat,fn=Bk (.func 210) #[] #[wF (Y ⟨b,0,U⟩)]∧∀(W:vk) (d B:Nat) (a:List ab) (v:vn),kV L w W→aj W B d a v→B≤W.heap.size→a.length≤20000→wB wq 210 #[v,wF (Y ⟨b,0,U⟩)] W (ao (bw kd a) W))
theorem Db{w:vk}{b n:Nat}{S:List Nat}{arr:Array vn}(h:w.heap[b]?=Y (ur arr 22 (0,0)))(a:arr=(S.map fun k:Nat=>I O (k:Int)).toArray)(c:S.length≤100)(d:S.length=n):gw w S (A (Y ⟨b,0,U⟩) n n):=by
 subst a;subst d;refine xj ⟨b,0,S.length,V,c,(Fi.1 h).1,fun i k e=>?_⟩;rw[Gb _ _ _ _ _ _ h];simp[e]
theorem jw{L b b' n kd:Nat}{w:vk}{S:List Nat}{arr:Array vn}(m:L≤b)(f:L≤b')(j:w.heap[b]?=Y (ur #[A (Y ⟨b',0,U⟩) n n] 179 (0,0)))(l:w.heap[b']?=Y (ur arr 22 (0,0)))(o:arr=(S.map fun k:Nat=>I O (k:Int)).toArray)(p:S.length≤100)(q:S.length=n)
  (h:∀a,bw kd a=bI S a):qU L w kd (Bk (.func 210) #[] #[wF (Y ⟨b,0,U⟩)]):=by
 have c:b<w.heap.size:=(Fi.1 j).1;have e:b'<w.heap.size:=(Fi.1 l).1;refine xj ⟨b,V,fun W d B a v g r hB i=>?_⟩;rw[h a];exact jM S a v _ d B b W r hB i (Db ((g.2 b' f e).trans l) o p q) (Ft c g.1) (Gb _ _ 0 _ _ _ ((g.2 b m c).trans j))
theorem gh{L b kd:Nat}{w:vk}(i:L≤b)(f:w.heap[b]?=Y (ur #[A U 0 0] 179 (0,0)))(h:∀a,bw kd a=bI [] a) :
  qU L w kd (Bk (.func 210) #[] #[wF (Y ⟨b,0,U⟩)]):=by
 have c:b<w.heap.size:=(Fi.1 f).1;refine xj ⟨b,V,fun W d B a v g j hB e=>?_⟩;rw[h a];exact jM [] a v _ d B b W j hB e (wP ⟨V,V⟩) (Ft c g.1) (Gb _ _ 0 _ _ _ ((g.2 b i c).trans f))
theorem iz(a:List ab):a.isEmpty=bI [] a:=by
 cases a with
 | nil=>rfl
 | cons x l=>unfold bI;simp
def ew(kd:Nat) (w:vk) (e:Bs) (w':vk):Prop:=
 ∃fn,e=xv (AJ #[wD #[I Z ((eY kd).1:Nat),I Z (eY kd).2.1,I Z (eY kd).2.2,fn],xS wg])∧Gc w w'∧qU w.heap.size w' kd fn
theorem cm(W:vk)(h:Bs→vk→Prop)(T:Nat)(a b c d v3:vn)(e:W.heap[T]?=Y (ur #[a,b,c,d] 169 (0,0)))
  (tmps:Array vn) (i:tmps.getD 2 xD=wF (Y ⟨T,0,U⟩)) (j:tmps.getD 3 xD=v3) (k:h (xv (AJ #[wD #[a,b,c,d],v3])) W) :
  bodyPost wq Tryz.f70 h .ret ⟨tmps,[]⟩ W:=by
 have l:=Gb _ _ 0 _ _ _ e;have m:=Gb _ _ 1 _ _ _ e;have c2:=Gb _ _ 2 _ _ _ e;have n:=Gb _ _ 3 _ _ _ e;have f:tmps[2]?.getD xD=wF (Y ⟨T,0,U⟩):=by simpa using i
 have g:tmps[3]?.getD xD=v3:=by simpa using j
 refine bodyPost_ret (v:=AJ #[wD #[a,b,c,d],v3]) ?_ V k;simp[results,Tryz.results70,go_sem,f,g,l,m,c2,n]
theorem dZ(w:vk)(a b:Obj):((w.alloc a).alloc b).heap[w.heap.size]?=Y a∧((w.alloc a).alloc b).heap[w.heap.size+1]?=Y b∧Gc w ((w.alloc a).alloc b):=
 ⟨(aw w a b).1,(aw w a b).2.1,eM w a b⟩
theorem lq(w:vk)(a b c d:Obj):((((w.alloc a).alloc b).alloc c).alloc d).heap[w.heap.size]?=Y a∧((((w.alloc a).alloc b).alloc c).alloc d).heap[w.heap.size+1+1]?=Y c∧
  ((((w.alloc a).alloc b).alloc c).alloc d).heap[w.heap.size+1+1+1]?=Y d∧Gc w ((((w.alloc a).alloc b).alloc c).alloc d):=by
 refine⟨?_,?_,?_,((((Fl _ w).alloc (Fj _) _).alloc (by simp) _).alloc (by simp;omega) _).alloc (by simp;omega) _⟩<;>(simp only[il,r9];repeat (first|rw[r6 trivial] | rw[r5 (by omega)] | rw[r6 (by omega)]))
theorem Ce(w:vk):wB wq 70 #[I O 1] w (ew 1 w):=by
 go_enter Tryz.func70,Tryz.ntmps70
 go_wp2_with (go_at_call 131;refine (aZ _ _ _ _).mono ?_;rintro e f ⟨rfl,rfl⟩)
 obtain⟨a,b,c,d⟩:=lq w (ur #[I Z 0,I Z (0),I Z 0,Bk (.func 210) #[] #[wF (Y ⟨w.heap.size+1+1+1,0,U⟩)]] 169) (ur #[A U 0 0] 179) (ur #[I O 2,I O 4] 22) (ur #[A (Y ⟨w.heap.size+1+1,0,U⟩) 2 2] 179);exact cm _ _ w.heap.size _ _ _ _ _ a _ V V ⟨_,V,d,jw (S:=[2,4]) (by omega) (by omega) c b V (by decide) V (fun g=>rfl)⟩
theorem Dq(w:vk):wB wq 70 #[I O 2] w (ew 2 w):=by
 go_enter Tryz.func70,Tryz.ntmps70
 go_wp2_with (go_at_call 131;refine (aZ _ _ _ _).mono ?_;rintro e f ⟨rfl,rfl⟩)
 obtain⟨a,b,c,d⟩:=lq w (ur #[I Z 1,I Z (0),I Z 0,Bk (.func 210) #[] #[wF (Y ⟨w.heap.size+1+1+1,0,U⟩)]] 169) (ur #[A U 0 0] 179) (ur #[I O 3] 22) (ur #[A (Y ⟨w.heap.size+1+1,0,U⟩) 1 1] 179);exact cm _ _ w.heap.size _ _ _ _ _ a _ V V ⟨_,V,d,jw (S:=[3]) (by omega) (by omega) c b V (by decide) V (fun g=>rfl)⟩
theorem De(w:vk):wB wq 70 #[I O 3] w (ew 3 w):=by
 go_enter Tryz.func70,Tryz.ntmps70
 go_wp2_with (go_at_call 131;refine (aZ _ _ _ _).mono ?_;rintro e f ⟨rfl,rfl⟩)
 obtain⟨b,c,d⟩:=dZ w (ur #[I Z 1,I Z (0),I Z 0,Bk (.func 210) #[] #[wF (Y ⟨w.heap.size+1,0,U⟩)]] 169) (ur #[A U 0 0] 179);exact cm _ _ w.heap.size _ _ _ _ _ b _ V V ⟨_,V,d,gh (by omega) c (fun a=>(show a.isEmpty=_ from iz a))⟩
theorem BX(w:vk):wB wq 70 #[I O 4] w (ew 4 w):=by
 go_enter Tryz.func70,Tryz.ntmps70
 go_wp2_with (go_at_call 131;refine (aZ _ _ _ _).mono ?_;rintro e h ⟨rfl,rfl⟩)
 obtain⟨a,i,b⟩:=dZ w (ur #[I Z 1,I Z (-2147483647),I Z 2147483647,Bk (.func 132) #[] #[]] 169) (ur #[A U 0 0] 179);exact cm _ _ w.heap.size _ _ _ _ _ a _ V V ⟨_,V,b,wP ⟨_,V,enters_of Tryz.func132 (by kernel_rfl) V,fun W d B c v _ f hB g=>wt c v d B W f hB g⟩⟩
theorem Ct(w:vk):wB wq 70 #[I O 5] w (ew 5 w):=by
 go_enter Tryz.func70,Tryz.ntmps70
 go_wp2_with (go_at_call 131;refine (aZ _ _ _ _).mono ?_;rintro e f ⟨rfl,rfl⟩)
 obtain⟨a,b,c,d⟩:=lq w (ur #[I Z 1,I Z (0),I Z 0,Bk (.func 210) #[] #[wF (Y ⟨w.heap.size+1+1+1,0,U⟩)]] 169) (ur #[A U 0 0] 179) (ur #[I O 12,I O 13,I O 14,I O 15] 22) (ur #[A (Y ⟨w.heap.size+1+1,0,U⟩) 4 4] 179);exact cm _ _ w.heap.size _ _ _ _ _ a _ V V ⟨_,V,d,jw (S:=[12,13,14,15]) (by omega) (by omega) c b V (by decide) V (fun g=>rfl)⟩
theorem Dc(w:vk):wB wq 70 #[I O 6] w (ew 6 w):=by
 go_enter Tryz.func70,Tryz.ntmps70
 go_wp2_with (go_at_call 131;refine (aZ _ _ _ _).mono ?_;rintro e f ⟨rfl,rfl⟩)
 obtain⟨a,b,c,d⟩:=lq w (ur #[I Z 1,I Z (0),I Z 0,Bk (.func 210) #[] #[wF (Y ⟨w.heap.size+1+1+1,0,U⟩)]] 169) (ur #[A U 0 0] 179) (ur #[I O 12,I O 13,I O 14,I O 15] 22) (ur #[A (Y ⟨w.heap.size+1+1,0,U⟩) 4 4] 179);exact cm _ _ w.heap.size _ _ _ _ _ a _ V V ⟨_,V,d,jw (S:=[12,13,14,15]) (by omega) (by omega) c b V (by decide) V (fun g=>rfl)⟩
theorem CG(w:vk):wB wq 70 #[I O 7] w (ew 7 w):=by
 go_enter Tryz.func70,Tryz.ntmps70
 go_wp2_with (go_at_call 131;refine (aZ _ _ _ _).mono ?_;rintro e h ⟨rfl,rfl⟩)
 obtain⟨a,i,b⟩:=dZ w (ur #[I Z 0,I Z (0),I Z 0,Bk (.func 133) #[] #[]] 169) (ur #[A U 0 0] 179);exact cm _ _ w.heap.size _ _ _ _ _ a _ V V ⟨_,V,b,wP ⟨_,V,enters_of Tryz.func133 (by kernel_rfl) V,fun W d B c v _ f hB g=>v9 c v d B W f hB g⟩⟩
theorem CP(w:vk):wB wq 70 #[I O 8] w (ew 8 w):=by
 go_enter Tryz.func70,Tryz.ntmps70
 go_wp2_with (go_at_call 131;refine (aZ _ _ _ _).mono ?_;rintro e h ⟨rfl,rfl⟩)
 obtain⟨a,i,b⟩:=dZ w (ur #[I Z 1,I Z (0),I Z 0,Bk (.func 134) #[] #[]] 169) (ur #[A U 0 0] 179);exact cm _ _ w.heap.size _ _ _ _ _ a _ V V ⟨_,V,b,wP ⟨_,V,enters_of Tryz.func134 (by kernel_rfl) V,fun W d B c v _ f hB g=>iV c v d B W f hB g⟩⟩
theorem BK(w:vk):wB wq 70 #[I O 9] w (ew 9 w):=by
 go_enter Tryz.func70,Tryz.ntmps70
 go_wp2_with (go_at_call 131;refine (aZ _ _ _ _).mono ?_;rintro e f ⟨rfl,rfl⟩)
 obtain⟨b,c,d⟩:=dZ w (ur #[I Z 0,I Z (0),I Z 2147483647,Bk (.func 210) #[] #[wF (Y ⟨w.heap.size+1,0,U⟩)]] 169) (ur #[A U 0 0] 179);exact cm _ _ w.heap.size _ _ _ _ _ b _ V V ⟨_,V,d,gh (by omega) c (fun a=>(show a.isEmpty=_ from iz a))⟩
theorem Ah(w:vk):wB wq 70 #[I O 10] w (ew 10 w):=by
 go_enter Tryz.func70,Tryz.ntmps70
 go_wp2_with (go_at_call 131;refine (aZ _ _ _ _).mono ?_;rintro e h ⟨rfl,rfl⟩)
 obtain⟨a,i,b⟩:=dZ w (ur #[I Z 0,I Z (0),I Z 0,Bk (.func 135) #[] #[]] 169) (ur #[A U 0 0] 179);exact cm _ _ w.heap.size _ _ _ _ _ a _ V V ⟨_,V,b,wP ⟨_,V,enters_of Tryz.func135 (by kernel_rfl) V,fun W d B c v _ f hB g=>vS c v d B W f hB g⟩⟩
theorem By(w:vk):wB wq 70 #[I O 11] w (ew 11 w):=by
 go_enter Tryz.func70,Tryz.ntmps70
 go_wp2_with (go_at_call 131;refine (aZ _ _ _ _).mono ?_;rintro e f ⟨rfl,rfl⟩)
 obtain⟨b,c,d⟩:=dZ w (ur #[I Z 0,I Z (0),I Z 0,Bk (.func 210) #[] #[wF (Y ⟨w.heap.size+1,0,U⟩)]] 169) (ur #[A U 0 0] 179);exact cm _ _ w.heap.size _ _ _ _ _ b _ V V ⟨_,V,d,gh (by omega) c (fun a=>(show a.isEmpty=_ from iz a))⟩
theorem Ae(w:vk):wB wq 70 #[I O 12] w (ew 12 w):=by
 go_enter Tryz.func70,Tryz.ntmps70
 go_wp2_with (go_at_call 131;refine (aZ _ _ _ _).mono ?_;rintro e f ⟨rfl,rfl⟩)
 obtain⟨b,c,d⟩:=dZ w (ur #[I Z 0,I Z (0),I Z 0,Bk (.func 210) #[] #[wF (Y ⟨w.heap.size+1,0,U⟩)]] 169) (ur #[A U 0 0] 179);exact cm _ _ w.heap.size _ _ _ _ _ b _ V V ⟨_,V,d,gh (by omega) c (fun a=>(show a.isEmpty=_ from iz a))⟩
theorem Ar(w:vk):wB wq 70 #[I O 13] w (ew 13 w):=by
 go_enter Tryz.func70,Tryz.ntmps70
 go_wp2_with (go_at_call 131;refine (aZ _ _ _ _).mono ?_;rintro e f ⟨rfl,rfl⟩)
 obtain⟨b,c,d⟩:=dZ w (ur #[I Z 2,I Z (0),I Z 0,Bk (.func 210) #[] #[wF (Y ⟨w.heap.size+1,0,U⟩)]] 169) (ur #[A U 0 0] 179);exact cm _ _ w.heap.size _ _ _ _ _ b _ V V ⟨_,V,d,gh (by omega) c (fun a=>(show a.isEmpty=_ from iz a))⟩
theorem Am(w:vk):wB wq 70 #[I O 14] w (ew 14 w):=by
 go_enter Tryz.func70,Tryz.ntmps70
 go_wp2_with (go_at_call 131;refine (aZ _ _ _ _).mono ?_;rintro e f ⟨rfl,rfl⟩)
 obtain⟨b,c,d⟩:=dZ w (ur #[I Z 3,I Z (0),I Z 0,Bk (.func 210) #[] #[wF (Y ⟨w.heap.size+1,0,U⟩)]] 169) (ur #[A U 0 0] 179);exact cm _ _ w.heap.size _ _ _ _ _ b _ V V ⟨_,V,d,gh (by omega) c (fun a=>(show a.isEmpty=_ from iz a))⟩
theorem Bz(w:vk):wB wq 70 #[I O 15] w (ew 15 w):=by
 go_enter Tryz.func70,Tryz.ntmps70
 go_wp2_with (go_at_call 131;refine (aZ _ _ _ _).mono ?_;rintro e f ⟨rfl,rfl⟩)
 obtain⟨b,c,d⟩:=dZ w (ur #[I Z 2,I Z (0),I Z 0,Bk (.func 210) #[] #[wF (Y ⟨w.heap.size+1,0,U⟩)]] 169) (ur #[A U 0 0] 179);exact cm _ _ w.heap.size _ _ _ _ _ b _ V V ⟨_,V,d,gh (by omega) c (fun a=>(show a.isEmpty=_ from iz a))⟩
theorem Bq(w:vk):wB wq 70 #[I O 16] w (ew 16 w):=by
 go_enter Tryz.func70,Tryz.ntmps70
 go_wp2_with (go_at_call 131;refine (aZ _ _ _ _).mono ?_;rintro e h ⟨rfl,rfl⟩)
 obtain⟨a,i,b⟩:=dZ w (ur #[I Z 4,I Z (0),I Z 0,Bk (.func 134) #[] #[]] 169) (ur #[A U 0 0] 179);exact cm _ _ w.heap.size _ _ _ _ _ a _ V V ⟨_,V,b,wP ⟨_,V,enters_of Tryz.func134 (by kernel_rfl) V,fun W d B c v _ f hB g=>iV c v d B W f hB g⟩⟩
theorem vK(k:Nat)(w:vk)(h:k=0∨16<k):wB wq 70 #[I O k] w fun e w'=>e=xv (AJ #[wD #[I Z 0,I Z 0,I Z 0,.nilFunc],xS wj])∧Gc w w':=by
 have m:((k:Int)==1)=false:=by simp;omega
 have n:((k:Int)==2)=false:=by simp;omega
 have o:((k:Int)==3)=false:=by simp;omega
 have p:((k:Int)==4)=false:=by simp;omega
 have q:((k:Int)==5)=false:=by simp;omega
 have r:((k:Int)==6)=false:=by simp;omega
 have s:((k:Int)==7)=false:=by simp;omega
 have t:((k:Int)==8)=false:=by simp;omega
 have u:((k:Int)==9)=false:=by simp;omega
 have a:((k:Int)==10)=false:=by simp;omega
 have b:((k:Int)==11)=false:=by simp;omega
 have c:((k:Int)==12)=false:=by simp;omega
 have d:((k:Int)==13)=false:=by simp;omega
 have f:((k:Int)==14)=false:=by simp;omega
 have g:((k:Int)==15)=false:=by simp;omega
 have i:((k:Int)==16)=false:=by simp;omega
 clear h
 go_enter Tryz.func70,Tryz.ntmps70
 go_wp2_with (go_at_call 131;refine (aZ _ _ _ _).mono ?_;rintro e v ⟨rfl,rfl⟩)
 obtain⟨j,x,l⟩:=dZ w (ur #[I Z 0,I Z 0,I Z 0,.nilFunc] 169) (ur #[A U 0 0] 179);exact cm _ _ w.heap.size _ _ _ _ _ j _ V V ⟨V,l⟩
theorem yU(k:Nat)(w:vk)(b:1≤k)(c:k≤16):wB wq 70 #[I O k] w (ew k w):=by
 have a:k=1∨k=2∨k=3∨k=4∨k=5∨k=6∨k=7∨k=8∨k=9∨k=10∨k=11∨k=12∨k=13∨k=14∨k=15∨k=16:=by omega
 rcases a with rfl|rfl|rfl|rfl|rfl|rfl|rfl|rfl|rfl|rfl|rfl|rfl|rfl|rfl|rfl|rfl
 ·exact Ce w
 ·exact Dq w
 ·exact De w
 ·exact BX w
 ·exact Ct w
 ·exact Dc w
 ·exact CG w
 ·exact CP w
 ·exact BK w
 ·exact Ah w
 ·exact By w
 ·exact Ae w
 ·exact Ar w
 ·exact Am w
 ·exact Bz w
 ·exact Bq w
theorem vX(k:Nat)(b:1≤k)(c:k≤16)(t:List UInt8)(n:Nat):cL k t n=textF (eY k).1 t n:=by
 have a:k=1∨k=2∨k=3∨k=4∨k=5∨k=6∨k=7∨k=8∨k=9∨k=10∨k=11∨k=12∨k=13∨k=14∨k=15∨k=16:=by omega
 rcases a with rfl|rfl|rfl|rfl|rfl|rfl|rfl|rfl|rfl|rfl|rfl|rfl|rfl|rfl|rfl|rfl
 ·exact V
 ·exact V
 ·exact V
 ·exact V
 ·exact V
 ·exact V
 ·exact V
 ·exact V
 ·exact V
 ·exact V
 ·exact V
 ·exact V
 ·exact V
 ·exact V
 ·exact V
 ·exact V
theorem zd(k:Nat)(c:1≤k)(d:k≤16)(x:Int):bN k x=(wo ((eY k).2.1≤x)&&wo (x≤(eY k).2.2)):=by
 have a:(x==0)=(wo (0≤x)&&wo (x≤0)):=by rw[FV];simp;omega
 have b:k=1∨k=2∨k=3∨k=4∨k=5∨k=6∨k=7∨k=8∨k=9∨k=10∨k=11∨k=12∨k=13∨k=14∨k=15∨k=16:=by omega
 rcases b with rfl|rfl|rfl|rfl|rfl|rfl|rfl|rfl|rfl|rfl|rfl|rfl|rfl|rfl|rfl|rfl
 ·exact a
 ·exact a
 ·exact a
 ·exact V
 ·exact a
 ·exact a
 ·exact a
 ·exact a
 ·exact V
 ·exact a
 ·exact a
 ·exact a
 ·exact a
 ·exact a
 ·exact a
 ·exact a
theorem Ed(k:Nat)(b:1≤k)(c:k≤16):(eY k).1≤4∧-2147483647≤(eY k).2.1∧(eY k).2.2≤2147483647:=by
 have a:k=1∨k=2∨k=3∨k=4∨k=5∨k=6∨k=7∨k=8∨k=9∨k=10∨k=11∨k=12∨k=13∨k=14∨k=15∨k=16:=by omega
 rcases a with rfl|rfl|rfl|rfl|rfl|rfl|rfl|rfl|rfl|rfl|rfl|rfl|rfl|rfl|rfl|rfl
 ·decide
 ·decide
 ·decide
 ·decide
 ·decide
 ·decide
 ·decide
 ·decide
 ·decide
 ·decide
 ·decide
 ·decide
 ·decide
 ·decide
 ·decide
 ·decide
def dS(d:Nat) (T:ab) (deep left:Nat):Bool:=okF d T&&wo (deep+bW d T≤31)&&wo (aH d T≤left)
def jP(d:Nat) (deep:Nat) (t:ab):Bool:=okF d t&&wo (deep+1+bW d t≤31)
def sumF(d:Nat) (a:List ab):Nat:=(a.map (aH d)).foldl (· + ·) 0
theorem qF(d:Nat)(T:ab)(h:d=0→T.q=[]):okF d T=(aK T&&T.q.all (okF (d-1))):=by
 cases d with
 | zero=>rw[h V];show aK T=(aK T&&wg);rw[Bool.and_true]
 | succ d=>rfl
theorem Cy(d:Nat)(T:ab)(h:d=0→T.q=[]):bW d T=(T.q.map (bW (d-1))).foldl Nat.max 0+1:=by
 cases d with
 | zero=>rw[h V];rfl
 | succ d=>rfl
theorem uH(d:Nat)(T:ab)(h:d=0→T.q=[]):aH d T=sumF (d-1) T.q+1:=by
 cases d with
 | zero=>rw[h V];rfl
 | succ d=>show (T.q.map (aH d)).foldl (· + ·) 1=_;rw[eh,Nat.add_comm];rfl
theorem max_le(f:ab→Nat)(m:Nat):∀(l:List ab) (a:Nat),(wo ((l.map f).foldl Nat.max a≤m))=(wo (a≤m)&&l.all fun t=>wo (f t≤m)):=by
 intro l
 induction l with
 | nil=>intro a;simp
 | cons x l b =>
  intro a;rw[List.map_cons,List.foldl_cons,b,List.all_cons];have:wo (Nat.max a (f x)≤m)=(wo (a≤m)&&wo (f x≤m)):=by rw[FV];simp only[r8,FG];exact Nat.max_le
  rw[this,Bool.and_assoc]
theorem Ck(d:Nat)(T:ab)(deep left:Nat)(h:d=0→T.q=[]) :
  dS d T deep left=(aK T&&wo (deep≤30)&&T.q.all (jP (d-1) deep)&&wo (sumF (d-1) T.q+1≤left)):=by
 unfold dS;rw[qF d T h,Cy d T h,uH d T h]
 by_cases b:deep≤30
 ·have e:wo (deep+((T.q.map (bW (d-1))).foldl Nat.max 0+1)≤31)=wo ((T.q.map (bW (d-1))).foldl Nat.max 0≤30-deep):=by
   rw[FV];simp only[r8];omega
  rw[e,max_le];have c:wo (0≤30-deep)=true:=by simp
  have a:wo (deep≤30)=true:=by simpa using b
  rw[c,a,Bool.true_and,Bool.and_true];have f:T.q.all (jP (d-1) deep)=(T.q.all (okF (d-1))&&T.q.all fun t=>wo (bW (d-1) t≤30-deep)):=by
   induction T.q with
   | nil=>rfl
   | cons x l g =>
    rw[List.all_cons,List.all_cons,List.all_cons,g];unfold jP;have:wo (deep+1+bW (d-1) x≤31)=wo (bW (d-1) x≤30-deep):=by rw[FV];simp only[r8];omega
    rw[this]
    cases okF (d-1) x<;>cases wo (bW (d-1) x≤30-deep)<;>simp
  rw[f];simp only[Bool.and_assoc]
 ·have i:wo (deep+((T.q.map (bW (d-1))).foldl Nat.max 0+1)≤31)=false:=by simp;omega
  have a:wo (deep≤30)=false:=by simpa using b
  rw[i,a];simp
theorem rW(d:Nat)(a:List ab)(k:Nat)(t:ab)(h:a[k]?=Y t):sumF d (a.take (k+1))=sumF d (a.take k)+aH d t:=by
 unfold sumF;rw[FY,h,List.map_append,List.foldl_append];rfl
theorem DK(d:Nat)(a:List ab)(k:Nat):sumF d (a.take k)≤sumF d a:=by
 have h:sumF d a=sumF d (a.take k)+sumF d (a.drop k):=by
  unfold sumF
  conv=>lhs;rw[←List.take_append_drop k a]
  rw[List.map_append,List.foldl_append,eh]
 omega
def j1(d:Nat) (T:ab) (deep left a:Nat) (w:vk) (e:Bs) (w':vk):Prop:=
 e=xv (xS (dS d T deep left))∧w.grownBy w' (Y a)∧∃x:Int,w'.heap[a]?=Y (ur #[I Z x] 3 (0,0))∧(dS d T deep left=wg→x=(left:Int)-aH d T)
def Bc(d:Nat):Prop:=∀(T:ab) (v:vn) (deep left a B:Nat) (w:vk),bz w B d T v→B≤a→B≤w.heap.size→gv d T→aS w→1≠a→
 w.heap[a]?=Y (ur #[I Z left] 3 (0,0))→1≤deep→deep≤31→left≤4096→wB wq 38 #[v,I Z deep,wF (Y ⟨a,0,U⟩)] w (j1 d T deep left a w)
theorem below_of_grown{B g:Nat}{w W:vk}(a:w.grownBy W (Y g))(b:B≤g)(hB:B≤w.heap.size):Below B w W:=
 ⟨a.os,a.tape,a.output,a.size,fun i c=>a.block i (Ft c hB) (by intro e;simp at e;omega)⟩
def Do(w:vk) (d:Nat) (b:List ab) (deep left c n:Nat) (i:vn) (W:vk):Prop:=
 ∃(a:vk) (k m:Nat),a=W∧k≤n∧i=I Z k∧w.grownBy a (Y c)∧a.heap[c]?=Y (ur #[I Z m] 3 (0,0))∧m+sumF d (b.take k)+1=left∧(b.take k).all (jP d deep)=wg
theorem gY{a b c:vk}{row:Option Nat}(h:a.grownBy b row)(d:b.grownBy c row):a.grownBy c row:=
 ⟨d.os.trans h.os,d.tape.trans h.tape,d.output.trans h.output,Fu h.size d.size,fun k f e=>(d.block k (Ft f h.size) e).trans (h.block k f e)⟩
theorem right_stop{d:Nat}{a:List ab}{k m deep left:Nat}{t:ab}(f:a[k]?=Y t)(hm:m+sumF d (a.take k)+1=left)(h:dS d t (deep+1) m=wj):(a.all (jP d deep)&&wo (sumF d a+1≤left))=false:=by
 by_cases b:jP d deep t=wg
 ·have g:m<aH d t:=by
   unfold dS at h;unfold jP at b;rw[b,Bool.true_and]at h
   simpa using h
  have i:=rW d a k t f;have j:=DK d a (k+1);have e:wo (sumF d a+1≤left)=false:=by simp;omega
  rw[e,Bool.and_false]
 ·have c:jP d deep t=false:=by simpa using b
  have e:a.all (jP d deep)=false:=by rw[List.all_eq_false];exact⟨t,FM f,by simp[c]⟩
  rw[e,Bool.false_and]
theorem Co{d:Nat}{b:List ab}{k m deep:Nat}{t:ab}(c:b[k]?=Y t)(a:(b.take k).all (jP d deep)=wg)(h:dS d t (deep+1) m=wg):(b.take (k+1)).all (jP d deep)=wg∧aH d t≤m:=by
 unfold dS at h;rw[FG]at h;refine⟨?_,by simpa using h.2⟩;rw[FY,c,List.all_append,a]
 simpa [jP]using h.1
theorem dY{d deep left b:Nat}{T:ab}{w W:vk}{x:Int}(a:dS d T deep left=wj)(c:w.grownBy W (Y b))(e:W.heap[b]?=Y (ur #[I Z x] 3 (0,0))) :
  j1 d T deep left b w (xv (xS wj)) W:=⟨ah a.symm,c,x,e,fun h=>by rw[a]at h;cases h⟩
theorem sR{w:vk}{a:Nat}{x:vn}{t:TypeId}(h:w.heap[a]?=Y (ur #[x] t (0,0)))(y:vn)(o:Obj):((w.setCell ⟨a,0,U⟩ y).alloc o).heap[a]?=Y (ur #[y] t (0,0)):=by
 have b:=heap_set h 0 y;have c:a<(w.setCell ⟨a,0,U⟩ y).heap.size:=(Fi.1 b).1;rw[il,r5 (by omega)];exact b
theorem mM(d:Nat)(T:ab)(v:vn)(deep left f B:Nat)(w:vk)(D:bz w B d T v)(_hB:B≤w.heap.size)(r:w.heap[f]?=Y (ur #[I Z left] 3 (0,0)))(E:left≤4096)
  (t:T.b=0∨16<T.b):wB wq 38 #[v,I Z deep,wF (Y ⟨f,0,U⟩)] w (j1 d T deep left f w):=by
 obtain⟨_,s,rfl,g⟩:=D;obtain⟨p,n,c,rfl⟩:=g.b;have i:dS d T deep left=false:=by
  have z:aK T=false:=by
   unfold aK;rcases t with h|h
   ·have e:wo (1≤T.b)=false:=by simp;omega
    rw[e];rfl
   ·have e:wo (T.b≤16)=false:=by simp;omega
    rw[e];simp
  unfold dS;have:okF d T=false:=by
   cases d with
   | zero=>exact z
   | succ d=>show (aK T&&_)=wj;rw[z];rfl
  rw[this];rfl
 have u:=Hd i;have x:f<w.heap.size:=(Fi.1 r).1;have F:(0:Int)≤left:=by omega
 have G:(left:Int)≤4096:=by omega
 have y:=Hd (fun W=>vK T.b W t);have j:Gc w (w.alloc (ur #[I O T.b,J T.f,I Z T.h,I Z T.t,A p n c] 99)):=(Fl _ w).alloc (Fj _) _;obtain⟨H,K,L,M,N⟩:=cells5 (qv w (ur #[I O T.b,J T.f,I Z T.h,I Z T.t,A p n c] 99));obtain⟨k,P⟩:=zz2 j r;clear t g i r j
 go_enter Tryz.func38,Tryz.ntmps38
 go_wp2_with fail
 refine Fx (y.o _) ?_;rintro e w1 ⟨rfl,l⟩;have a:=Hd (k.o.trans (l.mono k.o.size));have q:=aa a.o P.o x;have m:f<w1.heap.size:=(Fi.1 q).1;have b:Gc w1 (w1.alloc (ur #[I Z 0,I Z 0,I Z 0,.nilFunc] 169)):=(Fl _ w1).alloc (Fj _) _;obtain⟨C,Q,R⟩:=zz3 (aa b q m) q (a.o.trans (b.mono a.o.size));have c2:=Gb _ _ 0 _ _ _ C.o;have f2:=bM C.o 0;clear H K L M N l q b;go_wp2_with fail
 go_ret;exact dY u.o (grown_below (gx (aQ a.o (Y f)) 0 _) ((Fl _ _).alloc (Fj _) _)) (sR Q.o _ _)
