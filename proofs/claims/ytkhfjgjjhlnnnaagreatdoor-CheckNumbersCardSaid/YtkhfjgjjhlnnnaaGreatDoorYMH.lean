/- Parts of one proof, joined; conditions stand in each theorem. -/
import Derived.Test.YtkhfjgjjhlnnnaaGreatDoorYMC
import Derived.Test.YtkhfjgjjhlnnnaaGreatDoorYMG
import Derived.Laws.EntriesVeiled
open Option renaming some→Y,none→U
open Go.Value renaming int→I,string→J,slice→A,tuple→CA,agg→xS,bool→AJ,func→CF,pointer→xV
open Go.IntKind renaming u8→O,i64→Z
open Go renaming World→wD,Value→wF,Calls→xL,Ending→CI,wpQuiet_nil→Bk,undef→At
open Go.Proofs.Tryz renaming prog→xD
open Go.Ending renaming returned→z8
open Bool renaming false→xj,true→wP
open Or renaming inl→z6,inr→z7
open Go.Obj renaming cells→wq
open Decidable renaming decide→xv
namespace Go.Proofs.YtkhfjgjjhlnnnaaGreatDoor
set_option maxHeartbeats 2000000
set_option maxRecDepth 100000
open Go.RowKit
theorem vw(l:List Tok)(i:Nat)(t:Tok)(h:l[i]?=Y t):(bQ l)[3*i]?=Y (I O t.1)∧(bQ l)[3*i+1]?=Y (J t.2.1)∧(bQ l)[3*i+2]?=Y (I Z t.2.2):=by
 induction l generalizing i with
 | nil=>simp at h
 | cons a r c =>
  have e:bQ (a::r)=gh a++bQ r:=rfl;have b:(gh a).length=3:=rfl
  cases i with
  | zero =>
   obtain rfl:a=t:=by simpa using h
   rw[e];exact⟨V,V,V⟩
  | succ i =>
   have d:r[i]?=Y t:=by simpa using h
   obtain⟨a1,a2,a3⟩:=c i d;rw[e];refine⟨?_,?_,?_⟩
   ·rw[Ft (by omega),b,show 3*(i+1)-3=3*i from by omega];exact a1
   ·rw[Ft (by omega),b,show 3*(i+1)+1-3=3*i+1 from by omega];exact a2
   ·rw[Ft (by omega),b,show 3*(i+1)+2-3=3*i+2 from by omega];exact a3
theorem Er{w:wD}{B n:Nat}{v:wF}{l:List Tok}(h:w.ownsRow B 122 3 v n (bQ l))(q:0<n) :
  ∃g cap,v=A (Y ⟨g,0,U⟩) n cap∧g<w.heap.size∧B≤g∧∀i t,l[i]?=Y t→w.cell? ⟨g,i*3,U⟩=Y (I O t.1)∧w.cell? ⟨g,i*3+1,U⟩=Y (J t.2.1)∧w.cell? ⟨g,i*3+2,U⟩=Y (I Z t.2.2):=by
 obtain⟨g,cap,rfl,hB,a⟩:∃g cap,v=A (Y ⟨g,0,U⟩) n cap∧B≤g∧g<w.heap.size:=by
  rcases h.2 with ⟨_,rfl⟩|⟨g,cap,cur,rfl,m,o,_⟩
  ·omega
  ·exact⟨g,cap,V,m,(EN.1 o).1⟩
 refine⟨g,cap,V,a,hB,fun i t p=>?_⟩;obtain⟨a1,a2,a3⟩:=vw l i t p;have b:=h.cells (g:=g) V;have e:∀j,((⟨g,0,U⟩:Addr).add j)=⟨g,j,U⟩:=fun j=>by
  unfold Addr.add
  by_cases c:j=0
  ·rw[rv c,c]
  ·rw[qv c];simp
 have d:=b _ _ a1;have f:=b _ _ a2;have k:=b _ _ a3;rw[e]at d f k;rw[Nat.mul_comm 3 i]at d f k;exact⟨d,f,k⟩
theorem zJ(s:ByteArray)(w:wD)(a:s.size≤16384)(b:aR w)(o:List Tok×Option (Nat×Nat))(c:aJ s 0=o) :
  xL xD 54 #[J s] w fun e W=>FK w W∧
   ((o.2=U∧∃v,e=z8 (CA #[v,xS #[I Z 0,I Z 0]])∧W.ownsRow w.heap.size 122 3 v (o.1.length+1) (bQ (o.1++[(7,⟨#[]⟩,s.size)])))∨
    ∃er pl,o.2=Y (er,pl)∧e=z8 (CA #[A U 0 0,xS #[I Z er,I Z pl]])):=by
 subst c;exact qp s w a b
theorem A8(s:ByteArray):∀(f k er pl:Nat),(toks f s k).2=Y (er,pl)→er≠0:=by
 intro f
 induction f with
 | zero=>intro k er pl h;cases h
 | succ f a =>
  intro k er pl h;unfold toks at h
  split at h
  ·split at h
   ·exact a _ _ _ h
   ·rename_i b
    injection h with h
    injection h with c d
    subst c;exact b
  ·cases h
theorem tg(s:ByteArray)(k er pl:Nat)(h:(aJ s k).2=Y (er,pl)):er≠0:=A8 s _ k er pl h
def AD(t:ByteArray) (w:wD) (e:CI) (w':wD):Prop:=
 FK w w'∧∃p n c er at',e=z8 (CA #[A p n c,xS #[I Z er,I Z at']])∧(0:Int)≤er∧
  ((er≠0∧jB t=xj)∨(er=0∧n≠2∧jB t=xj)∨(er=0∧n=2∧∃g tx,p=Y ⟨g,0,U⟩∧g<w'.heap.size∧w'.cell? ⟨g,1,U⟩=Y (J tx)∧jB t=(tx.toList==t.toList)))
theorem zq(t:ByteArray)(w:wD)(m:aR w):xL xD 54 #[J (aX t)] w (AD t w):=by
 by_cases j:(aX t).size≤16384
 ·refine (zJ (aX t) w j m _ V).mono ?_;rintro e W ⟨c,(⟨a,v,rfl,b⟩|⟨er,pl,a,rfl⟩)⟩
  ·obtain⟨g,cap,rfl,n,_,k⟩:=Er b (by omega);refine⟨c,_,_,_,_,_,V,by omega,?_⟩
   right
   by_cases d:(aJ (aX t) 0).1.length=1
   ·right
    refine⟨V,by omega,?_⟩;generalize i:aJ (aX t) 0=o at *;obtain⟨l,f⟩:=o;dsimp only at a d k
    match l,d with
    | [x],_ =>
     refine⟨g,x.2.1,V,n,(k 0 x V).2.1,?_⟩;unfold jB;rw[i];dsimp only;rw[a];simp[ByteArray.toList_eq]
   ·left
    refine⟨V,by omega,?_⟩;unfold jB;rw[Bool.and_eq_false_iff]
    right
    rw[tv];intro h;have:=tF List.length h;rw[List.length_map]at this;exact d this
  ·refine⟨c,_,_,_,_,_,V,by omega,z6 ⟨by have:=tg _ _ _ _ a;omega,?_⟩⟩;unfold jB;rw[a];rfl
 ·refine (oZ (aX t) w (by omega)).mono ?_;rintro e W ⟨rfl,c⟩;refine⟨c,_,_,_,_,_,V,by omega,z6 ⟨by omega,?_⟩⟩;rw[gq,vB _ (by rw[lL]at j;omega)]
theorem DW{w:wD}{T:Nat}{a b:wF}{t:TypeId}(h:w.heap[T]?=Y (wq #[a,b] t (0,0))) :
  w.cell? ⟨T,0,U⟩=Y a∧w.cell? ⟨T,1,U⟩=Y b∧w.frozen? ⟨T,0,U⟩=xj∧w.frozen? ⟨T,1,U⟩=false:=by
 simp[World.cell?,World.frozen?,h]
theorem yY(t:ByteArray):aX t=(⟨#[39]⟩:ByteArray)++t:=by
 apply ByteArray.ext;apply Array.toList_inj.1;rw[oU,ByteArray.data_append,Array.toList_append];rfl
theorem s5(kd:Nat)(t:ByteArray)(nm pl:Int)(p:Option Addr)(n c:Nat)(word:Bool)(w:wD)(N:aR w)(P:t.size≤72007) :
  xL xD 136 #[xS #[I O kd,J t,I Z nm,I Z pl,A p n c],AJ word] w (am (aN t.data.toList&&(word||!de t.data.toList)) w):=by
 have k:FK w (w.alloc (wq #[I O kd,J t,I Z nm,I Z pl,A p n c] 99)):=(EP _ w).alloc (EO _) _;have h0:=p9 w (wq #[I O kd,J t,I Z nm,I Z pl,A p n c] 99);have z:w.heap.size<(w.alloc (wq #[I O kd,J t,I Z nm,I Z pl,A p n c] 99)).heap.size:=by simp
 have Q:=zq t _ (N.z k);rw[yY]at Q;have HQ:=Hd Q;clear Q;obtain⟨B,H0,u,C⟩:=zz4 (N.z k) h0 k z;clear N h0 k z
 go_enter Tryz.func136,Tryz.ntmps136
 go_wp2_with fail
 refine EX HQ.o ?_;rintro e w1 ⟨l,p',n',c',er,at',rfl,R,i⟩;obtain⟨a,H1,v,D⟩:=zz4 i (aa l H0.o C.o) (u.o.trans (l.mono u.o.size)) (B.o.z l);clear i l HQ B;go_wp2_with fail
 have j:=(EP _ w1).alloc (EO _) (wq #[I Z er,I Z at'] 35);have E:w.heap.size<w1.heap.size:=(EN.1 H1.o).1;obtain⟨S,T,d,W,F⟩:=zz5 (aa j H1.o E) (p9 w1 (wq #[I Z er,I Z at'] 35)) (v.o.trans (j.mono v.o.size)) (D.o.z j) (fun g tx (m:g<w1.heap.size) (r:w1.cell? ⟨g,1,U⟩=Y (J tx))=>(j.cell (p:=⟨g,1,U⟩) m).trans r);generalize w1.alloc (wq #[I Z er,I Z at'] 35)=h at *;obtain⟨f0,f1,_,_⟩:=DW T.o;obtain⟨b0,y,b2,b3,b4⟩:=cells5 S.o;have G:=fun x:Wb h=>x.b f0
 have H:=fun x:Wb h=>x.b y
 clear j f1 b0 b2 b3 b4;rcases a.o with ⟨m,r⟩|⟨m,r,q⟩|⟨m,r,g,tx,rfl,hg,M,q⟩
 ·have he:(er==0)=false:=by simpa using m
  have s:=Hd r;clear m r a f0 y;refine au (by kernel_rfl) (by kernel_rfl) ?_
  repeat (go_big_quiet_step (fail))
  refine Bk ?_;intro W2 b;have f:=Hd (d.o.trans ((a7 b).mono d.o.size));clear b G H;go_wp2_with fail
  go_ret;exact⟨ah (by rw[←gq,s.o];rfl),f.o⟩
 ·have he:(er==0)=true:=by simpa using m
  have al:((n':Int)==2)=false:=by simp;omega
  have s:=Hd q;clear m r q a f0 y;refine au (by kernel_rfl) (by kernel_rfl) ?_
  repeat (go_big_quiet_step (fail))
  refine Bk ?_;intro W2 b;have f:=Hd (d.o.trans ((a7 b).mono d.o.size));clear b G H;go_wp2_with fail
  go_ret;exact⟨ah (by rw[←gq,s.o];rfl),f.o⟩
 ·subst m;subst r;have gc:=F.o g tx hg M;have X:=fun x:Wb h=>x.b gc
  cases K:(tx.toList==t.toList)
  ·rw[K]at q;have s:=Hd q;clear q a f0 y M gc;refine au (by kernel_rfl) (by kernel_rfl) ?_
   repeat (go_big_quiet_step (fail))
   refine Bk ?_;intro W2 b;have f:=Hd (d.o.trans ((a7 b).mono d.o.size));clear b G H X;go_wp2_with fail
   go_ret;exact⟨ah (by rw[←gq,s.o];rfl),f.o⟩
  ·rw[K]at q;have s:=Hd q;clear q a
   cases word
   ·clear G H X;have ad:w.heap.size<h.heap.size:=(EN.1 S.o).1;have af:w1.heap.size<h.heap.size:=(EN.1 T.o).1;have ak:g<h.heap.size:=by omega
    clear F u C H0 H1 v D S T E hg P R
    go_region_held3 (fun w'=>w'.cell? ⟨w.heap.size,1,U⟩=Y (J t)∧w'.cell? ⟨w1.heap.size,0,U⟩=Y (I Z 0)∧w'.cell? ⟨g,1,U⟩=Y (J tx))
     (first
      | (exact⟨by assumption,by assumption,by assumption⟩)
      | (exact⟨(World.cell?_alloc_lt h _ ⟨w.heap.size,1,U⟩ ad).trans y,(World.cell?_alloc_lt h _ ⟨w1.heap.size,0,U⟩ af).trans f0,(World.cell?_alloc_lt h _ ⟨g,1,U⟩ ak).trans gc⟩))
     (first
      | (go_at_call 214;refine (sY _ (W.o.z (EP _ _).drew)).mono ?_;rintro e w6 ⟨rfl,rfl⟩)
      | (go_at_call 213;refine (lT _ _ t _ (by exact p9 h _)).mono ?_;rintro e w6 ⟨rfl,rfl⟩))
    have L:FK h (h.alloc (wq (eY.map J).toArray 9)).drew:=((EP _ h).alloc (EO _) _).drew;have f:=Hd (d.o.trans (L.mono d.o.size));clear L y f0 gc M;go_wp2_with fail
    go_ret;exact⟨ah (by rw[←gq,s.o];rfl),f.o⟩
   ·clear f0 y M gc;refine au (by kernel_rfl) (by kernel_rfl) ?_
    repeat (go_big_quiet_step (fail))
    refine Bk ?_;intro W2 b;have f:=Hd (d.o.trans ((a7 b).mono d.o.size));clear b G H X;go_wp2_with fail
    go_ret;exact⟨ah (by rw[←gq,s.o];rfl),f.o⟩
theorem xT(L:List ByteArray)(x:ByteArray):Lib.containsS L x=cg L x.data.toList:=by
 rw[Fw,Lib.containsS_iff,cg,List.any_eq_true]
 constructor
 ·intro h;exact⟨x,h,by simp⟩
 ·rintro ⟨y,c,he⟩;have e:y=x:=by
   have a:y.data.toList=x.data.toList:=by simpa using he
   have b:y.data=x.data:=Array.toList_inj.1 a;exact ByteArray.ext b
  rwa [←e]
theorem nF(L:List ByteArray)(n B c:Nat)(t:TypeId)(x:ByteArray)(w:wD)(d:L.length=n)(b:n≤100)(h:w.heap[B]?=Y (wq (L.map J).toArray t (0,0))) :
  xL xD 213 #[A (Y ⟨B,0,U⟩) n c,J x] w fun e w'=>e=z8 (AJ (cg L x.data.toList))∧FK w w':=by
 refine (Tryz.slices_Contains_string B 0 n c L x w (by omega) (by omega) (fun j f=>?_)).mono ?_
 ·rw[Nat.zero_add,FI _ _ _ _ _ _ h];have a:j<L.length:=by omega
  simp[List.getD_eq_getElem?_getD,List.getElem?_eq_getElem a]
 ·rintro e w' ⟨rfl,rfl⟩;refine⟨?_,EP _ _⟩;rw[Fg (by omega),xT]
def opB(k:Nat) (t:List UInt8):Bool:=(k==1&&cg kX t)||(k==2&&cg jf t)
theorem Wb.heap{w:wD}(x:Wb w){b:Nat}{o:Obj}(h:w.heap[b]?=Y o):x.1.heap[b]?=Y o:=aa x.2 h (EN.1 h).1
theorem Aq(w:wD)(a b d:Obj):(((w.alloc a).alloc b).alloc d).heap[w.heap.size]?=Y a∧(((w.alloc a).alloc b).alloc d).heap[w.heap.size+1]?=Y b∧(((w.alloc a).alloc b).alloc d).heap[w.heap.size+1+1]?=Y d∧FK w (((w.alloc a).alloc b).alloc d):=by refine⟨?_,?_,?_,(((EP _ w).alloc (EO _) _).alloc (by simp) _).alloc (by simp;omega) _⟩<;>(simp only[im,r9];repeat (first|rw[rv trivial] | rw[qv (by omega)] | rw[rv (by omega)]))
theorem xH(kd:Nat)(t:ByteArray)(nm pl:Int)(p:Option Addr)(n c:Nat)(w:wD) :
  xL xD 139 #[xS #[I O kd,J t,I Z nm,I Z pl,A p n c]] w (am (opB n t.data.toList) w):=by
 obtain⟨q,r,s,u⟩:=Aq w (wq #[I O kd,J t,I Z nm,I Z pl,A p n c] 99) (wq #[J ⟨#[45]⟩,J ⟨#[110,111,116]⟩] 349)
  (wq #[J ⟨#[111,114]⟩,J ⟨#[97,110,100]⟩,J ⟨#[61]⟩,J ⟨#[33,61]⟩,J ⟨#[60]⟩,J ⟨#[60,61]⟩,J ⟨#[62]⟩,J ⟨#[62,61]⟩,J ⟨#[43]⟩,J ⟨#[45]⟩,J ⟨#[42]⟩] 350)
 obtain⟨H1,y,d⟩:=zz3 r s u;obtain⟨D,z,E,F,G⟩:=cells5 q;have g:Hid (opB n t.data.toList=((n==1&&cg kX t.data.toList)||(n==2&&cg jf t.data.toList))):=rfl;have i:=Hd (fun W (h:W.heap[w.heap.size+1]?=Y (wq (kX.map J).toArray 349 (0,0)))=>nF kX 2 (w.heap.size+1) 2 349 t W V (by omega) h);have j:=Hd (fun W (h:W.heap[w.heap.size+1+1]?=Y (wq (jf.map J).toArray 350 (0,0)))=>nF jf 11 (w.heap.size+1+1) 11 350 t W V (by omega) h);clear q r s u;generalize opB n t.data.toList=o at *;generalize cg kX t.data.toList=v at *;generalize cg jf t.data.toList=B at *;have k:=fun x:Wb _=>x.b z
 go_enter Tryz.func139,Tryz.ntmps139
 by_cases l:n=1
 ·subst l;go_wp2_with fail
  refine au (by kernel_rfl) (by kernel_rfl) ?_
  repeat (go_big_quiet_step ((go_at_call 213;exact Calls.b (i.o _ (Wb.heap _ H1.o)))))
  refine Bk ?_;intro W2 a;have b:=Hd (d.o.trans ((a7 a).mono d.o.size));clear a k;go_wp2_with fail
  go_ret;exact⟨ah (by rw[g.o];cases v<;>rfl),b.o⟩
 ·have H:((n:Int)==1)=false:=by simp;omega
  have e:(n==1)=false:=by simp;omega
  have C:=Hd e;clear e
  by_cases m:n=2
  ·subst m;go_wp2_with fail
   refine au (by kernel_rfl) (by kernel_rfl) ?_
   repeat (go_big_quiet_step ((go_at_call 213;exact Calls.b (j.o _ (Wb.heap _ y.o)))))
   refine Bk ?_;intro W2 a;have b:=Hd (d.o.trans ((a7 a).mono d.o.size));clear a k;go_wp2_with fail
   go_ret;exact⟨ah (by rw[g.o];cases v<;>cases B<;>rfl),b.o⟩
  ·have K:((n:Int)==2)=false:=by simp;omega
   have f:(n==2)=false:=by simp;omega
   have E2:=Hd f;clear f k;go_wp2_with fail
   go_ret;exact⟨ah (by rw[g.o,C.o,E2.o];rfl),d.o⟩
theorem rD(c:UInt8)(r:List UInt8)(h:c≠45):dN (c::r)=false:=by
 unfold dN
 split
 ·rename_i heq;injection heq with a;exact absurd a h
 ·rfl
theorem vh(c:UInt8)(r:List UInt8)(h:c≠45):strip (c::r)=c::r:=by
 unfold strip
 split
 ·rename_i heq;injection heq with a;exact absurd a h
 ·rfl
theorem yr(l:List UInt8):Lib.trimPrefix l [45]=strip l:=by
 unfold Lib.trimPrefix;rw[mO]
 cases l with
 | nil=>rfl
 | cons c r =>
  by_cases h:c=45
  ·subst h;rfl
  ·rw[rD c r h,vh c r h];rfl
theorem Ba(l:List UInt8):(strip l).length≤l.length:=by
 unfold strip
 split
 ·simp
 ·exact EO _
def textF(f:Nat) (t:List UInt8) (n:Nat):Bool:=
 if f==1 then aN t&&!de t else if f==2 then aN t else if f==3 then (number (strip t)).isSome else if f==4 then opB n t else t.isEmpty
theorem s7(t:ByteArray):(t.toList==(⟨#[]⟩:ByteArray).toList)=t.data.toList.isEmpty:=by
 rw[Fb,Fb]
 cases t.data.toList<;>rfl
theorem uL(kd:Nat)(t:ByteArray)(nm pl:Int)(p:Option Addr)(n c f:Nat)(w:wD)(l:aR w)(h:t.size≤72007)(s:f≤4) :
  xL xD 71 #[xS #[I O kd,J t,I Z nm,I Z pl,A p n c],I Z f] w (am (textF f t.data.toList n) w):=by
 have g:FK w (w.alloc (wq #[I O kd,J t,I Z nm,I Z pl,A p n c] 99)):=(EP _ w).alloc (EO _) _;have m:=p9 w (wq #[I O kd,J t,I Z nm,I Z pl,A p n c] 99);obtain⟨v,x,y,z,B⟩:=cells5 m;obtain⟨q,i,a,j⟩:=zz4 (fun b=>s5 kd t nm pl p n c b _ (l.z g) h) (fun W=>xH kd t nm pl p n c W) g (fun W=>(Tryz.strings_TrimPrefix t ⟨#[45]⟩ W).mono (R':=fun e w'=>e=z8 (J ⟨(strip t.data.toList).toArray⟩)∧W=w') (fun e w' r=>⟨by rw[r.1];show z8 (J ⟨(Lib.trimPrefix t.data.toList [45]).toArray⟩)=_;rw[yr],r.2.symm⟩))
 have k:=Hd (fun W=>mm ⟨(strip t.data.toList).toArray⟩ W (by
  show (strip t.data.toList).toArray.size≤100000
  have C:=Ba t.data.toList;have D:t.data.toList.length=t.data.size:=Fq;have E:t.size=t.data.size:=rfl;simp only[List.size_toArray]
  omega))
 clear l m g h
 match f,s with
 | 0,_ =>
  have u:=Hd (s7 t)
  go_enter Tryz.func71,Tryz.ntmps71
  go_wp2_with fail
  go_ret;exact⟨ah (by show _=t.data.toList.isEmpty;rw[←u.o,Fb,Fb];cases t.data.toList<;>rfl),a.o⟩
 | 1,_ =>
  go_enter Tryz.func71,Tryz.ntmps71
  go_wp2_with fail
  refine EX (q.o xj) ?_;rintro e W2 ⟨rfl,d⟩;go_wp2_with fail
  go_ret;exact⟨ah V,a.o.trans (d.mono a.o.size)⟩
 | 2,_ =>
  go_enter Tryz.func71,Tryz.ntmps71
  go_wp2_with fail
  refine EX (q.o wP) ?_;rintro e W2 ⟨rfl,d⟩;go_wp2_with fail
  go_ret;exact⟨ah V,a.o.trans (d.mono a.o.size)⟩
 | 3,_ =>
  go_enter Tryz.func71,Tryz.ntmps71
  go_wp2_with fail
  refine EX (j.o _) ?_;rintro e W2 ⟨rfl,rfl⟩;go_wp2_with fail
  refine EX (k.o _) ?_;rintro e W2 ⟨rfl,d⟩;go_wp2_with fail
  go_ret;exact⟨V,a.o.trans (d.mono a.o.size)⟩
 | 4,_ =>
  go_enter Tryz.func71,Tryz.ntmps71
  go_wp2_with fail
  refine EX (i.o _) ?_;rintro e W2 ⟨rfl,d⟩;go_wp2_with fail
  go_ret;exact⟨V,a.o.trans (d.mono a.o.size)⟩
def eW(kd:Nat):Nat×Int×Int:=
 if kd==2||kd==3||kd==5||kd==6||kd==8 then (1,0,0)
 else if kd==4 then (1,-2147483647,2147483647)
 else if kd==9 then (0,0,2147483647)
 else if kd==13||kd==15 then (2,0,0)
 else if kd==14 then (3,0,0)
 else if kd==16 then (4,0,0)
 else (0,0,0)
def kZ(L:Nat) (w W:wD):Prop:=w.heap.size≤W.heap.size∧∀b,L≤b→b<w.heap.size→W.heap[b]?=w.heap[b]?
def qZ(L:Nat) (w:wD) (kd:Nat) (fn:wF):Prop:=
 (∃g:FuncId,fn=CF (.func g) #[] #[]∧(∀(args:Array wF) (w:wD),(callFunc g args).run xD w=.ok (.enter g args) w)∧∀(W:wD) (d B:Nat) (a:List ab) (v:wF),kZ L w W→ao W B d a v→B≤W.heap.size→a.length≤20000→xL xD g #[v] W (am (bv kd a) W))∨
 (∃b:Nat,fn=CF (.func 210) #[] #[xV (Y ⟨b,0,U⟩)]∧∀(W:wD) (d B:Nat) (a:List ab) (v:wF),kZ L w W→ao W B d a v→B≤W.heap.size→a.length≤20000→xL xD 210 #[v,xV (Y ⟨b,0,U⟩)] W (am (bv kd a) W))
theorem CO{w:wD}{b n:Nat}{S:List Nat}{arr:Array wF}(h:w.heap[b]?=Y (wq arr 22 (0,0)))(a:arr=(S.map fun k:Nat=>I O (k:Int)).toArray)(c:S.length≤100)(d:S.length=n):gy w S (A (Y ⟨b,0,U⟩) n n):=by
 subst a;subst d;refine z7 ⟨b,0,S.length,V,c,(EN.1 h).1,fun i k e=>?_⟩;rw[FI _ _ _ _ _ _ h];simp[e]
theorem jy{L b b' n kd:Nat}{w:wD}{S:List Nat}{arr:Array wF}(m:L≤b)(f:L≤b')(j:w.heap[b]?=Y (wq #[A (Y ⟨b',0,U⟩) n n] 179 (0,0)))(l:w.heap[b']?=Y (wq arr 22 (0,0)))(o:arr=(S.map fun k:Nat=>I O (k:Int)).toArray)(p:S.length≤100)(q:S.length=n)
  (h:∀a,bv kd a=bG S a):qZ L w kd (CF (.func 210) #[] #[xV (Y ⟨b,0,U⟩)]):=by
 have c:b<w.heap.size:=(EN.1 j).1;have e:b'<w.heap.size:=(EN.1 l).1;refine z7 ⟨b,V,fun W d B a v g r hB i=>?_⟩;rw[h a];exact jP S a v _ d B b W r hB i (CO ((g.2 b' f e).trans l) o p q) (ET c g.1) (FI _ _ 0 _ _ _ ((g.2 b m c).trans j))
theorem gj{L b kd:Nat}{w:wD}(i:L≤b)(f:w.heap[b]?=Y (wq #[A U 0 0] 179 (0,0)))(h:∀a,bv kd a=bG [] a) :
  qZ L w kd (CF (.func 210) #[] #[xV (Y ⟨b,0,U⟩)]):=by
 have c:b<w.heap.size:=(EN.1 f).1;refine z7 ⟨b,V,fun W d B a v g j hB e=>?_⟩;rw[h a];exact jP [] a v _ d B b W j hB e (z6 ⟨V,V⟩) (ET c g.1) (FI _ _ 0 _ _ _ ((g.2 b i c).trans f))
theorem iE(a:List ab):a.isEmpty=bG [] a:=by
 cases a with
 | nil=>rfl
 | cons x l=>unfold bG;simp
def ew(kd:Nat) (w:wD) (e:CI) (w':wD):Prop:=
 ∃fn,e=z8 (CA #[xS #[I Z ((eW kd).1:Nat),I Z (eW kd).2.1,I Z (eW kd).2.2,fn],AJ wP])∧FK w w'∧qZ w.heap.size w' kd fn
theorem cf(W:wD)(h:CI→wD→Prop)(T:Nat)(a b c d v3:wF)(e:W.heap[T]?=Y (wq #[a,b,c,d] 169 (0,0)))
  (tmps:Array wF) (i:tmps.getD 2 At=xV (Y ⟨T,0,U⟩)) (j:tmps.getD 3 At=v3) (k:h (z8 (CA #[xS #[a,b,c,d],v3])) W) :
  bodyPost xD Tryz.f70 h .ret ⟨tmps,[]⟩ W:=by
 have l:=FI _ _ 0 _ _ _ e;have m:=FI _ _ 1 _ _ _ e;have c2:=FI _ _ 2 _ _ _ e;have n:=FI _ _ 3 _ _ _ e;have f:tmps[2]?.getD At=xV (Y ⟨T,0,U⟩):=by simpa using i
 have g:tmps[3]?.getD At=v3:=by simpa using j
 refine bodyPost_ret (v:=CA #[xS #[a,b,c,d],v3]) ?_ V k;simp[results,Tryz.results70,go_sem,f,g,l,m,c2,n]
theorem dZ(w:wD)(a b:Obj):((w.alloc a).alloc b).heap[w.heap.size]?=Y a∧((w.alloc a).alloc b).heap[w.heap.size+1]?=Y b∧FK w ((w.alloc a).alloc b):=
 ⟨(ap w a b).1,(ap w a b).2.1,fU w a b⟩
theorem lw(w:wD)(a b c d:Obj):((((w.alloc a).alloc b).alloc c).alloc d).heap[w.heap.size]?=Y a∧((((w.alloc a).alloc b).alloc c).alloc d).heap[w.heap.size+1+1]?=Y c∧
  ((((w.alloc a).alloc b).alloc c).alloc d).heap[w.heap.size+1+1+1]?=Y d∧FK w ((((w.alloc a).alloc b).alloc c).alloc d):=by
 refine⟨?_,?_,?_,((((EP _ w).alloc (EO _) _).alloc (by simp) _).alloc (by simp;omega) _).alloc (by simp;omega) _⟩<;>(simp only[im,r9];repeat (first|rw[rv trivial] | rw[qv (by omega)] | rw[rv (by omega)]))
theorem BW(w:wD):xL xD 70 #[I O 1] w (ew 1 w):=by
 go_enter Tryz.func70,Tryz.ntmps70
 go_wp2_with (go_at_call 131;refine (aY _ _ _ _).mono ?_;rintro e f ⟨rfl,rfl⟩)
 obtain⟨a,b,c,d⟩:=lw w (wq #[I Z 0,I Z (0),I Z 0,CF (.func 210) #[] #[xV (Y ⟨w.heap.size+1+1+1,0,U⟩)]] 169) (wq #[A U 0 0] 179) (wq #[I O 2,I O 4] 22) (wq #[A (Y ⟨w.heap.size+1+1,0,U⟩) 2 2] 179);exact cf _ _ w.heap.size _ _ _ _ _ a _ V V ⟨_,V,d,jy (S:=[2,4]) (by omega) (by omega) c b V (by decide) V (fun g=>rfl)⟩
theorem Db(w:wD):xL xD 70 #[I O 2] w (ew 2 w):=by
 go_enter Tryz.func70,Tryz.ntmps70
 go_wp2_with (go_at_call 131;refine (aY _ _ _ _).mono ?_;rintro e f ⟨rfl,rfl⟩)
 obtain⟨a,b,c,d⟩:=lw w (wq #[I Z 1,I Z (0),I Z 0,CF (.func 210) #[] #[xV (Y ⟨w.heap.size+1+1+1,0,U⟩)]] 169) (wq #[A U 0 0] 179) (wq #[I O 3] 22) (wq #[A (Y ⟨w.heap.size+1+1,0,U⟩) 1 1] 179);exact cf _ _ w.heap.size _ _ _ _ _ a _ V V ⟨_,V,d,jy (S:=[3]) (by omega) (by omega) c b V (by decide) V (fun g=>rfl)⟩
theorem CS(w:wD):xL xD 70 #[I O 3] w (ew 3 w):=by
 go_enter Tryz.func70,Tryz.ntmps70
 go_wp2_with (go_at_call 131;refine (aY _ _ _ _).mono ?_;rintro e f ⟨rfl,rfl⟩)
 obtain⟨b,c,d⟩:=dZ w (wq #[I Z 1,I Z (0),I Z 0,CF (.func 210) #[] #[xV (Y ⟨w.heap.size+1,0,U⟩)]] 169) (wq #[A U 0 0] 179);exact cf _ _ w.heap.size _ _ _ _ _ b _ V V ⟨_,V,d,gj (by omega) c (fun a=>(show a.isEmpty=_ from iE a))⟩
theorem BJ(w:wD):xL xD 70 #[I O 4] w (ew 4 w):=by
 go_enter Tryz.func70,Tryz.ntmps70
 go_wp2_with (go_at_call 131;refine (aY _ _ _ _).mono ?_;rintro e h ⟨rfl,rfl⟩)
 obtain⟨a,i,b⟩:=dZ w (wq #[I Z 1,I Z (-2147483647),I Z 2147483647,CF (.func 132) #[] #[]] 169) (wq #[A U 0 0] 179);exact cf _ _ w.heap.size _ _ _ _ _ a _ V V ⟨_,V,b,z6 ⟨_,V,enters_of Tryz.func132 (by kernel_rfl) V,fun W d B c v _ f hB g=>wk c v d B W f hB g⟩⟩
theorem Ce(w:wD):xL xD 70 #[I O 5] w (ew 5 w):=by
 go_enter Tryz.func70,Tryz.ntmps70
 go_wp2_with (go_at_call 131;refine (aY _ _ _ _).mono ?_;rintro e f ⟨rfl,rfl⟩)
 obtain⟨a,b,c,d⟩:=lw w (wq #[I Z 1,I Z (0),I Z 0,CF (.func 210) #[] #[xV (Y ⟨w.heap.size+1+1+1,0,U⟩)]] 169) (wq #[A U 0 0] 179) (wq #[I O 12,I O 13,I O 14,I O 15] 22) (wq #[A (Y ⟨w.heap.size+1+1,0,U⟩) 4 4] 179);exact cf _ _ w.heap.size _ _ _ _ _ a _ V V ⟨_,V,d,jy (S:=[12,13,14,15]) (by omega) (by omega) c b V (by decide) V (fun g=>rfl)⟩
theorem CP(w:wD):xL xD 70 #[I O 6] w (ew 6 w):=by
 go_enter Tryz.func70,Tryz.ntmps70
 go_wp2_with (go_at_call 131;refine (aY _ _ _ _).mono ?_;rintro e f ⟨rfl,rfl⟩)
 obtain⟨a,b,c,d⟩:=lw w (wq #[I Z 1,I Z (0),I Z 0,CF (.func 210) #[] #[xV (Y ⟨w.heap.size+1+1+1,0,U⟩)]] 169) (wq #[A U 0 0] 179) (wq #[I O 12,I O 13,I O 14,I O 15] 22) (wq #[A (Y ⟨w.heap.size+1+1,0,U⟩) 4 4] 179);exact cf _ _ w.heap.size _ _ _ _ _ a _ V V ⟨_,V,d,jy (S:=[12,13,14,15]) (by omega) (by omega) c b V (by decide) V (fun g=>rfl)⟩
theorem Cp(w:wD):xL xD 70 #[I O 7] w (ew 7 w):=by
 go_enter Tryz.func70,Tryz.ntmps70
 go_wp2_with (go_at_call 131;refine (aY _ _ _ _).mono ?_;rintro e h ⟨rfl,rfl⟩)
 obtain⟨a,i,b⟩:=dZ w (wq #[I Z 0,I Z (0),I Z 0,CF (.func 133) #[] #[]] 169) (wq #[A U 0 0] 179);exact cf _ _ w.heap.size _ _ _ _ _ a _ V V ⟨_,V,b,z6 ⟨_,V,enters_of Tryz.func133 (by kernel_rfl) V,fun W d B c v _ f hB g=>v6 c v d B W f hB g⟩⟩
theorem Cv(w:wD):xL xD 70 #[I O 8] w (ew 8 w):=by
 go_enter Tryz.func70,Tryz.ntmps70
 go_wp2_with (go_at_call 131;refine (aY _ _ _ _).mono ?_;rintro e h ⟨rfl,rfl⟩)
 obtain⟨a,i,b⟩:=dZ w (wq #[I Z 1,I Z (0),I Z 0,CF (.func 134) #[] #[]] 169) (wq #[A U 0 0] 179);exact cf _ _ w.heap.size _ _ _ _ _ a _ V V ⟨_,V,b,z6 ⟨_,V,enters_of Tryz.func134 (by kernel_rfl) V,fun W d B c v _ f hB g=>iZ c v d B W f hB g⟩⟩
theorem By(w:wD):xL xD 70 #[I O 9] w (ew 9 w):=by
 go_enter Tryz.func70,Tryz.ntmps70
 go_wp2_with (go_at_call 131;refine (aY _ _ _ _).mono ?_;rintro e f ⟨rfl,rfl⟩)
 obtain⟨b,c,d⟩:=dZ w (wq #[I Z 0,I Z (0),I Z 2147483647,CF (.func 210) #[] #[xV (Y ⟨w.heap.size+1,0,U⟩)]] 169) (wq #[A U 0 0] 179);exact cf _ _ w.heap.size _ _ _ _ _ b _ V V ⟨_,V,d,gj (by omega) c (fun a=>(show a.isEmpty=_ from iE a))⟩
theorem zZ(w:wD):xL xD 70 #[I O 10] w (ew 10 w):=by
 go_enter Tryz.func70,Tryz.ntmps70
 go_wp2_with (go_at_call 131;refine (aY _ _ _ _).mono ?_;rintro e h ⟨rfl,rfl⟩)
 obtain⟨a,i,b⟩:=dZ w (wq #[I Z 0,I Z (0),I Z 0,CF (.func 135) #[] #[]] 169) (wq #[A U 0 0] 179);exact cf _ _ w.heap.size _ _ _ _ _ a _ V V ⟨_,V,b,z6 ⟨_,V,enters_of Tryz.func135 (by kernel_rfl) V,fun W d B c v _ f hB g=>vO c v d B W f hB g⟩⟩
theorem Bi(w:wD):xL xD 70 #[I O 11] w (ew 11 w):=by
 go_enter Tryz.func70,Tryz.ntmps70
 go_wp2_with (go_at_call 131;refine (aY _ _ _ _).mono ?_;rintro e f ⟨rfl,rfl⟩)
 obtain⟨b,c,d⟩:=dZ w (wq #[I Z 0,I Z (0),I Z 0,CF (.func 210) #[] #[xV (Y ⟨w.heap.size+1,0,U⟩)]] 169) (wq #[A U 0 0] 179);exact cf _ _ w.heap.size _ _ _ _ _ b _ V V ⟨_,V,d,gj (by omega) c (fun a=>(show a.isEmpty=_ from iE a))⟩
theorem zW(w:wD):xL xD 70 #[I O 12] w (ew 12 w):=by
 go_enter Tryz.func70,Tryz.ntmps70
 go_wp2_with (go_at_call 131;refine (aY _ _ _ _).mono ?_;rintro e f ⟨rfl,rfl⟩)
 obtain⟨b,c,d⟩:=dZ w (wq #[I Z 0,I Z (0),I Z 0,CF (.func 210) #[] #[xV (Y ⟨w.heap.size+1,0,U⟩)]] 169) (wq #[A U 0 0] 179);exact cf _ _ w.heap.size _ _ _ _ _ b _ V V ⟨_,V,d,gj (by omega) c (fun a=>(show a.isEmpty=_ from iE a))⟩
theorem Aj(w:wD):xL xD 70 #[I O 13] w (ew 13 w):=by
 go_enter Tryz.func70,Tryz.ntmps70
 go_wp2_with (go_at_call 131;refine (aY _ _ _ _).mono ?_;rintro e f ⟨rfl,rfl⟩)
 obtain⟨b,c,d⟩:=dZ w (wq #[I Z 2,I Z (0),I Z 0,CF (.func 210) #[] #[xV (Y ⟨w.heap.size+1,0,U⟩)]] 169) (wq #[A U 0 0] 179);exact cf _ _ w.heap.size _ _ _ _ _ b _ V V ⟨_,V,d,gj (by omega) c (fun a=>(show a.isEmpty=_ from iE a))⟩
theorem Ae(w:wD):xL xD 70 #[I O 14] w (ew 14 w):=by
 go_enter Tryz.func70,Tryz.ntmps70
 go_wp2_with (go_at_call 131;refine (aY _ _ _ _).mono ?_;rintro e f ⟨rfl,rfl⟩)
 obtain⟨b,c,d⟩:=dZ w (wq #[I Z 3,I Z (0),I Z 0,CF (.func 210) #[] #[xV (Y ⟨w.heap.size+1,0,U⟩)]] 169) (wq #[A U 0 0] 179);exact cf _ _ w.heap.size _ _ _ _ _ b _ V V ⟨_,V,d,gj (by omega) c (fun a=>(show a.isEmpty=_ from iE a))⟩
theorem Bj(w:wD):xL xD 70 #[I O 15] w (ew 15 w):=by
 go_enter Tryz.func70,Tryz.ntmps70
 go_wp2_with (go_at_call 131;refine (aY _ _ _ _).mono ?_;rintro e f ⟨rfl,rfl⟩)
 obtain⟨b,c,d⟩:=dZ w (wq #[I Z 2,I Z (0),I Z 0,CF (.func 210) #[] #[xV (Y ⟨w.heap.size+1,0,U⟩)]] 169) (wq #[A U 0 0] 179);exact cf _ _ w.heap.size _ _ _ _ _ b _ V V ⟨_,V,d,gj (by omega) c (fun a=>(show a.isEmpty=_ from iE a))⟩
theorem Bd(w:wD):xL xD 70 #[I O 16] w (ew 16 w):=by
 go_enter Tryz.func70,Tryz.ntmps70
 go_wp2_with (go_at_call 131;refine (aY _ _ _ _).mono ?_;rintro e h ⟨rfl,rfl⟩)
 obtain⟨a,i,b⟩:=dZ w (wq #[I Z 4,I Z (0),I Z 0,CF (.func 134) #[] #[]] 169) (wq #[A U 0 0] 179);exact cf _ _ w.heap.size _ _ _ _ _ a _ V V ⟨_,V,b,z6 ⟨_,V,enters_of Tryz.func134 (by kernel_rfl) V,fun W d B c v _ f hB g=>iZ c v d B W f hB g⟩⟩
theorem vH(k:Nat)(w:wD)(h:k=0∨16<k):xL xD 70 #[I O k] w fun e w'=>e=z8 (CA #[xS #[I Z 0,I Z 0,I Z 0,.nilFunc],AJ xj])∧FK w w':=by
 have m:((k:Int)==1)=false:=by simp;omega
 have n:((k:Int)==2)=false:=by simp;omega
 have o:((k:Int)==3)=false:=by simp;omega
 have p:((k:Int)==4)=false:=by simp;omega
 have q:((k:Int)==5)=false:=by simp;omega
 have r:((k:Int)==6)=false:=by simp;omega
 have s:((k:Int)==7)=false:=by simp;omega
 have t:((k:Int)==8)=false:=by simp;omega
 have u:((k:Int)==9)=false:=by simp;omega
 have a:((k:Int)==10)=false:=by simp;omega
 have b:((k:Int)==11)=false:=by simp;omega
 have c:((k:Int)==12)=false:=by simp;omega
 have d:((k:Int)==13)=false:=by simp;omega
 have f:((k:Int)==14)=false:=by simp;omega
 have g:((k:Int)==15)=false:=by simp;omega
 have i:((k:Int)==16)=false:=by simp;omega
 clear h
 go_enter Tryz.func70,Tryz.ntmps70
 go_wp2_with (go_at_call 131;refine (aY _ _ _ _).mono ?_;rintro e v ⟨rfl,rfl⟩)
 obtain⟨j,x,l⟩:=dZ w (wq #[I Z 0,I Z 0,I Z 0,.nilFunc] 169) (wq #[A U 0 0] 179);exact cf _ _ w.heap.size _ _ _ _ _ j _ V V ⟨V,l⟩
theorem yN(k:Nat)(w:wD)(b:1≤k)(c:k≤16):xL xD 70 #[I O k] w (ew k w):=by
 have a:k=1∨k=2∨k=3∨k=4∨k=5∨k=6∨k=7∨k=8∨k=9∨k=10∨k=11∨k=12∨k=13∨k=14∨k=15∨k=16:=by omega
 rcases a with rfl|rfl|rfl|rfl|rfl|rfl|rfl|rfl|rfl|rfl|rfl|rfl|rfl|rfl|rfl|rfl
 ·exact BW w
 ·exact Db w
 ·exact CS w
 ·exact BJ w
 ·exact Ce w
 ·exact CP w
 ·exact Cp w
 ·exact Cv w
 ·exact By w
 ·exact zZ w
 ·exact Bi w
 ·exact zW w
 ·exact Aj w
 ·exact Ae w
 ·exact Bj w
 ·exact Bd w
theorem vS(k:Nat)(b:1≤k)(c:k≤16)(t:List UInt8)(n:Nat):cJ k t n=textF (eW k).1 t n:=by
 have a:k=1∨k=2∨k=3∨k=4∨k=5∨k=6∨k=7∨k=8∨k=9∨k=10∨k=11∨k=12∨k=13∨k=14∨k=15∨k=16:=by omega
 rcases a with rfl|rfl|rfl|rfl|rfl|rfl|rfl|rfl|rfl|rfl|rfl|rfl|rfl|rfl|rfl|rfl
 ·exact V
 ·exact V
 ·exact V
 ·exact V
 ·exact V
 ·exact V
 ·exact V
 ·exact V
 ·exact V
 ·exact V
 ·exact V
 ·exact V
 ·exact V
 ·exact V
 ·exact V
 ·exact V
theorem yW(k:Nat)(c:1≤k)(d:k≤16)(x:Int):bL k x=(xv ((eW k).2.1≤x)&&xv (x≤(eW k).2.2)):=by
 have a:(x==0)=(xv (0≤x)&&xv (x≤0)):=by rw[Fw];simp;omega
 have b:k=1∨k=2∨k=3∨k=4∨k=5∨k=6∨k=7∨k=8∨k=9∨k=10∨k=11∨k=12∨k=13∨k=14∨k=15∨k=16:=by omega
 rcases b with rfl|rfl|rfl|rfl|rfl|rfl|rfl|rfl|rfl|rfl|rfl|rfl|rfl|rfl|rfl|rfl
 ·exact a
 ·exact a
 ·exact a
 ·exact V
 ·exact a
 ·exact a
 ·exact a
 ·exact a
 ·exact V
 ·exact a
 ·exact a
 ·exact a
 ·exact a
 ·exact a
 ·exact a
 ·exact a
theorem DO(k:Nat)(b:1≤k)(c:k≤16):(eW k).1≤4∧-2147483647≤(eW k).2.1∧(eW k).2.2≤2147483647:=by
 have a:k=1∨k=2∨k=3∨k=4∨k=5∨k=6∨k=7∨k=8∨k=9∨k=10∨k=11∨k=12∨k=13∨k=14∨k=15∨k=16:=by omega
 rcases a with rfl|rfl|rfl|rfl|rfl|rfl|rfl|rfl|rfl|rfl|rfl|rfl|rfl|rfl|rfl|rfl
 ·decide
 ·decide
 ·decide
 ·decide
 ·decide
 ·decide
 ·decide
 ·decide
 ·decide
 ·decide
 ·decide
 ·decide
 ·decide
 ·decide
 ·decide
 ·decide
def dS(d:Nat) (T:ab) (deep left:Nat):Bool:=okF d T&&xv (deep+bS d T≤31)&&xv (aM d T≤left)
def jS(d:Nat) (deep:Nat) (t:ab):Bool:=okF d t&&xv (deep+1+bS d t≤31)
def sumF(d:Nat) (a:List ab):Nat:=(a.map (aM d)).foldl (· + ·) 0
theorem qK(d:Nat)(T:ab)(h:d=0→T.u=[]):okF d T=(aI T&&T.u.all (okF (d-1))):=by
 cases d with
 | zero=>rw[h V];show aI T=(aI T&&wP);rw[Bool.and_true]
 | succ d=>rfl
theorem Cj(d:Nat)(T:ab)(h:d=0→T.u=[]):bS d T=(T.u.map (bS (d-1))).foldl Nat.max 0+1:=by
 cases d with
 | zero=>rw[h V];rfl
 | succ d=>rfl
theorem uF(d:Nat)(T:ab)(h:d=0→T.u=[]):aM d T=sumF (d-1) T.u+1:=by
 cases d with
 | zero=>rw[h V];rfl
 | succ d=>show (T.u.map (aM d)).foldl (· + ·) 1=_;rw[fi,Nat.add_comm];rfl
theorem max_le(f:ab→Nat)(m:Nat):∀(l:List ab) (a:Nat),(xv ((l.map f).foldl Nat.max a≤m))=(xv (a≤m)&&l.all fun t=>xv (f t≤m)):=by
 intro l
 induction l with
 | nil=>intro a;simp
 | cons x l b =>
  intro a;rw[List.map_cons,List.foldl_cons,b,List.all_cons];have:xv (Nat.max a (f x)≤m)=(xv (a≤m)&&xv (f x≤m)):=by rw[Fw];simp only[r7,Ff];exact Nat.max_le
  rw[this,Bool.and_assoc]
theorem B7(d:Nat)(T:ab)(deep left:Nat)(h:d=0→T.u=[]) :
  dS d T deep left=(aI T&&xv (deep≤30)&&T.u.all (jS (d-1) deep)&&xv (sumF (d-1) T.u+1≤left)):=by
 unfold dS;rw[qK d T h,Cj d T h,uF d T h]
 by_cases b:deep≤30
 ·have e:xv (deep+((T.u.map (bS (d-1))).foldl Nat.max 0+1)≤31)=xv ((T.u.map (bS (d-1))).foldl Nat.max 0≤30-deep):=by
   rw[Fw];simp only[r7];omega
  rw[e,max_le];have c:xv (0≤30-deep)=true:=by simp
  have a:xv (deep≤30)=true:=by simpa using b
  rw[c,a,Bool.true_and,Bool.and_true];have f:T.u.all (jS (d-1) deep)=(T.u.all (okF (d-1))&&T.u.all fun t=>xv (bS (d-1) t≤30-deep)):=by
   induction T.u with
   | nil=>rfl
   | cons x l g =>
    rw[List.all_cons,List.all_cons,List.all_cons,g];unfold jS;have:xv (deep+1+bS (d-1) x≤31)=xv (bS (d-1) x≤30-deep):=by rw[Fw];simp only[r7];omega
    rw[this]
    cases okF (d-1) x<;>cases xv (bS (d-1) x≤30-deep)<;>simp
  rw[f];simp only[Bool.and_assoc]
 ·have i:xv (deep+((T.u.map (bS (d-1))).foldl Nat.max 0+1)≤31)=false:=by simp;omega
  have a:xv (deep≤30)=false:=by simpa using b
  rw[i,a];simp
theorem rZ(d:Nat)(a:List ab)(k:Nat)(t:ab)(h:a[k]?=Y t):sumF d (a.take (k+1))=sumF d (a.take k)+aM d t:=by
 unfold sumF;rw[Fz,h,List.map_append,List.foldl_append];rfl
theorem Ds(d:Nat)(a:List ab)(k:Nat):sumF d (a.take k)≤sumF d a:=by
 have h:sumF d a=sumF d (a.take k)+sumF d (a.drop k):=by
  unfold sumF
  conv=>lhs;rw[←List.take_append_drop k a]
  rw[List.map_append,List.foldl_append,fi]
 omega
def j6(d:Nat) (T:ab) (deep left a:Nat) (w:wD) (e:CI) (w':wD):Prop:=
 e=z8 (AJ (dS d T deep left))∧w.grownBy w' (Y a)∧∃x:Int,w'.heap[a]?=Y (wq #[I Z x] 3 (0,0))∧(dS d T deep left=wP→x=(left:Int)-aM d T)
def AW(d:Nat):Prop:=∀(T:ab) (v:wF) (deep left a B:Nat) (w:wD),dH w B d T v→B≤a→B≤w.heap.size→gx d T→aR w→1≠a→
 w.heap[a]?=Y (wq #[I Z left] 3 (0,0))→1≤deep→deep≤31→left≤4096→xL xD 38 #[v,I Z deep,xV (Y ⟨a,0,U⟩)] w (j6 d T deep left a w)
theorem below_of_grown{B g:Nat}{w W:wD}(a:w.grownBy W (Y g))(b:B≤g)(hB:B≤w.heap.size):Below B w W:=
 ⟨a.os,a.tape,a.output,a.size,fun i c=>a.block i (ET c hB) (by intro e;simp at e;omega)⟩
def C9(w:wD) (d:Nat) (b:List ab) (deep left c n:Nat) (i:wF) (W:wD):Prop:=
 ∃(a:wD) (k m:Nat),a=W∧k≤n∧i=I Z k∧w.grownBy a (Y c)∧a.heap[c]?=Y (wq #[I Z m] 3 (0,0))∧m+sumF d (b.take k)+1=left∧(b.take k).all (jS d deep)=wP
theorem gZ{a b c:wD}{row:Option Nat}(h:a.grownBy b row)(d:b.grownBy c row):a.grownBy c row:=
 ⟨d.os.trans h.os,d.tape.trans h.tape,d.output.trans h.output,EU h.size d.size,fun k f e=>(d.block k (ET f h.size) e).trans (h.block k f e)⟩
theorem right_stop{d:Nat}{a:List ab}{k m deep left:Nat}{t:ab}(f:a[k]?=Y t)(hm:m+sumF d (a.take k)+1=left)(h:dS d t (deep+1) m=xj):(a.all (jS d deep)&&xv (sumF d a+1≤left))=false:=by
 by_cases b:jS d deep t=wP
 ·have g:m<aM d t:=by
   unfold dS at h;unfold jS at b;rw[b,Bool.true_and]at h
   simpa using h
  have i:=rZ d a k t f;have j:=Ds d a (k+1);have e:xv (sumF d a+1≤left)=false:=by simp;omega
  rw[e,Bool.and_false]
 ·have c:jS d deep t=false:=by simpa using b
  have e:a.all (jS d deep)=false:=by rw[List.all_eq_false];exact⟨t,Fj f,by simp[c]⟩
  rw[e,Bool.false_and]
theorem B9{d:Nat}{b:List ab}{k m deep:Nat}{t:ab}(c:b[k]?=Y t)(a:(b.take k).all (jS d deep)=wP)(h:dS d t (deep+1) m=wP):(b.take (k+1)).all (jS d deep)=wP∧aM d t≤m:=by
 unfold dS at h;rw[Ff]at h;refine⟨?_,by simpa using h.2⟩;rw[Fz,c,List.all_append,a]
 simpa [jS]using h.1
theorem dY{d deep left b:Nat}{T:ab}{w W:wD}{x:Int}(a:dS d T deep left=xj)(c:w.grownBy W (Y b))(e:W.heap[b]?=Y (wq #[I Z x] 3 (0,0))) :
  j6 d T deep left b w (z8 (AJ xj)) W:=⟨ah a.symm,c,x,e,fun h=>by rw[a]at h;cases h⟩
theorem sT{w:wD}{a:Nat}{x:wF}{t:TypeId}(h:w.heap[a]?=Y (wq #[x] t (0,0)))(y:wF)(o:Obj):((w.setCell ⟨a,0,U⟩ y).alloc o).heap[a]?=Y (wq #[y] t (0,0)):=by
 have b:=heap_set h 0 y;have c:a<(w.setCell ⟨a,0,U⟩ y).heap.size:=(EN.1 b).1;rw[im,qv (by omega)];exact b
theorem mP(d:Nat)(T:ab)(v:wF)(deep left f B:Nat)(w:wD)(D:dH w B d T v)(_hB:B≤w.heap.size)(r:w.heap[f]?=Y (wq #[I Z left] 3 (0,0)))(E:left≤4096)
  (t:T.b=0∨16<T.b):xL xD 38 #[v,I Z deep,xV (Y ⟨f,0,U⟩)] w (j6 d T deep left f w):=by
 obtain⟨_,s,rfl,g⟩:=D;obtain⟨p,n,c,rfl⟩:=g.b;have i:dS d T deep left=false:=by
  have z:aI T=false:=by
   unfold aI;rcases t with h|h
   ·have e:xv (1≤T.b)=false:=by simp;omega
    rw[e];rfl
   ·have e:xv (T.b≤16)=false:=by simp;omega
    rw[e];simp
  unfold dS;have:okF d T=false:=by
   cases d with
   | zero=>exact z
   | succ d=>show (aI T&&_)=xj;rw[z];rfl
  rw[this];rfl
 have u:=Hd i;have x:f<w.heap.size:=(EN.1 r).1;have F:(0:Int)≤left:=by omega
 have G:(left:Int)≤4096:=by omega
 have y:=Hd (fun W=>vH T.b W t);have j:FK w (w.alloc (wq #[I O T.b,J T.f,I Z T.h,I Z T.y,A p n c] 99)):=(EP _ w).alloc (EO _) _;obtain⟨H,K,L,M,N⟩:=cells5 (p9 w (wq #[I O T.b,J T.f,I Z T.h,I Z T.y,A p n c] 99));obtain⟨k,P⟩:=zz2 j r;clear t g i r j
 go_enter Tryz.func38,Tryz.ntmps38
 go_wp2_with fail
 refine EX (y.o _) ?_;rintro e w1 ⟨rfl,l⟩;have a:=Hd (k.o.trans (l.mono k.o.size));have q:=aa a.o P.o x;have m:f<w1.heap.size:=(EN.1 q).1;have b:FK w1 (w1.alloc (wq #[I Z 0,I Z 0,I Z 0,.nilFunc] 169)):=(EP _ w1).alloc (EO _) _;obtain⟨C,Q,R⟩:=zz3 (aa b q m) q (a.o.trans (b.mono a.o.size));have c2:=FI _ _ 0 _ _ _ C.o;have f2:=bK C.o 0;clear H K L M N l q b;go_wp2_with fail
 go_ret;exact dY u.o (grown_below (gz (aP a.o (Y f)) 0 _) ((EP _ _).alloc (EO _) _)) (sT Q.o _ _)
