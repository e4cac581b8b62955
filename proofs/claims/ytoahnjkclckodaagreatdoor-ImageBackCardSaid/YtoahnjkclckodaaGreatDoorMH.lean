/- Parts of one proof, joined; conditions stand in each theorem. -/
import Derived.Test.YtoahnjkclckodaaGreatDoorMC
import Derived.Test.YtoahnjkclckodaaGreatDoorMG
import Derived.Laws.EntriesVeiled
import Derived.Deep.Cut
open Option renaming some→A,none→Y
open Go.Value renaming int→I,string→r9,slice→O,tuple→y9,agg→wP,bool→xt,func→z6,pointer→vo
open Go.IntKind renaming u8→r8,i64→U
open Go renaming World→J,Value→tS,Calls→vv,Ending→AJ,TypeId→xD,wpQuiet_nil→xL,undef→xk
open Go.Proofs.Tryz renaming prog→va
open Go.Ending renaming returned→wg
open Bool renaming false→ur,true→tT
open Or renaming inl→wD,inr→wF
open Go.Obj renaming cells→r7
open Decidable renaming decide→wj
namespace Go.Proofs.YtoahnjkclckodaaGreatDoor
set_option maxHeartbeats 4000000
set_option maxRecDepth 100000
open Go.RowKit
theorem yX(l:List Tok)(i:Nat)(t:Tok)(h:l[i]?=A t):(bO l)[3*i]?=A (I r8 t.1)∧(bO l)[3*i+1]?=A (r9 t.2.1)∧(bO l)[3*i+2]?=A (I U t.2.2):=by
 induction l generalizing i with
 | nil=>simp at h
 | cons a r c =>
  have e:bO (a::r)=gl a++bO r:=rfl;have b:(gl a).length=3:=rfl
  cases i with
  | zero =>
   obtain rfl:a=t:=by simpa using h
   rw[e];exact⟨Z,Z,Z⟩
  | succ i =>
   have d:r[i]?=A t:=by simpa using h
   obtain⟨a1,a2,a3⟩:=c i d;rw[e];refine⟨?_,?_,?_⟩
   ·rw[Kd (by omega),b,show 3*(i+1)-3=3*i from by omega];exact a1
   ·rw[Kd (by omega),b,show 3*(i+1)+1-3=3*i+1 from by omega];exact a2
   ·rw[Kd (by omega),b,show 3*(i+1)+2-3=3*i+2 from by omega];exact a3
theorem Jb{w:J}{B n:Nat}{v:tS}{l:List Tok}(h:w.ownsRow B 192 3 v n (bO l))(q:0<n) :
  ∃g cap,v=O (A ⟨g,0,Y⟩) n cap∧g<w.heap.size∧B≤g∧∀i t,l[i]?=A t→w.cell? ⟨g,i*3,Y⟩=A (I r8 t.1)∧w.cell? ⟨g,i*3+1,Y⟩=A (r9 t.2.1)∧w.cell? ⟨g,i*3+2,Y⟩=A (I U t.2.2):=by
 obtain⟨g,cap,rfl,hB,a⟩:∃g cap,v=O (A ⟨g,0,Y⟩) n cap∧B≤g∧g<w.heap.size:=by
  rcases h.2 with ⟨_,rfl⟩|⟨g,cap,cur,rfl,m,o,_⟩
  ·omega
  ·exact⟨g,cap,Z,m,(JL.1 o).1⟩
 refine⟨g,cap,Z,a,hB,fun i t p=>?_⟩;obtain⟨a1,a2,a3⟩:=yX l i t p;have b:=h.cells (g:=g) Z;have e:∀j,((⟨g,0,Y⟩:Addr).add j)=⟨g,j,Y⟩:=fun j=>by
  unfold Addr.add
  by_cases c:j=0
  ·rw[oj c,c]
  ·rw[oe c];simp
 have d:=b _ _ a1;have f:=b _ _ a2;have k:=b _ _ a3;rw[e]at d f k;rw[Nat.mul_comm 3 i]at d f k;exact⟨d,f,k⟩
theorem Dn(s:ByteArray)(w:J)(a:s.size≤16384)(b:aI w)(o:List Tok×Option (Nat×Nat))(c:ay s 0=o) :
  vv va 91 #[r9 s] w fun e W=>Kr w W∧
   ((o.2=Y∧∃v,e=wg (y9 #[v,wP #[I U 0,I U 0]])∧W.ownsRow w.heap.size 192 3 v (o.1.length+1) (bO (o.1++[(7,⟨#[]⟩,s.size)])))∨
    ∃er pl,o.2=A (er,pl)∧e=wg (y9 #[O Y 0 0,wP #[I U er,I U pl]])):=by
 subst c;exact sL s w a b
theorem EO(s:ByteArray):∀(f k er pl:Nat),(toks f s k).2=A (er,pl)→er≠0:=by
 intro f
 induction f with
 | zero=>intro k er pl h;cases h
 | succ f a =>
  intro k er pl h;unfold toks at h
  split at h
  ·split at h
   ·exact a _ _ _ h
   ·rename_i b
    injection h with h
    injection h with c d
    subst c;exact b
  ·cases h
theorem wv(s:ByteArray)(k er pl:Nat)(h:(ay s k).2=A (er,pl)):er≠0:=EO s _ k er pl h
def Er(t:ByteArray) (w:J) (e:AJ) (w':J):Prop:=
 Kr w w'∧∃p n c er at',e=wg (y9 #[O p n c,wP #[I U er,I U at']])∧(0:Int)≤er∧
  ((er≠0∧j0 t=ur)∨(er=0∧n≠2∧j0 t=ur)∨(er=0∧n=2∧∃g tx,p=A ⟨g,0,Y⟩∧g<w'.heap.size∧w'.cell? ⟨g,1,Y⟩=A (r9 tx)∧j0 t=(tx.toList==t.toList)))
theorem C7(t:ByteArray)(w:J)(m:aI w):vv va 91 #[r9 (aS t)] w (Er t w):=by
 by_cases j:(aS t).size≤16384
 ·refine (Dn (aS t) w j m _ Z).mono ?_;rintro e W ⟨c,(⟨a,v,rfl,b⟩|⟨er,pl,a,rfl⟩)⟩
  ·obtain⟨g,cap,rfl,n,_,k⟩:=Jb b (by omega);refine⟨c,_,_,_,_,_,Z,by omega,?_⟩
   right
   by_cases d:(ay (aS t) 0).1.length=1
   ·right
    refine⟨Z,by omega,?_⟩;generalize i:ay (aS t) 0=o at *;obtain⟨l,f⟩:=o;dsimp only at a d k
    match l,d with
    | [x],_ =>
     refine⟨g,x.2.1,Z,n,(k 0 x Z).2.1,?_⟩;unfold j0;rw[i];dsimp only;rw[a];simp[ByteArray.toList_eq]
   ·left
    refine⟨Z,by omega,?_⟩;unfold j0;rw[Bool.and_eq_false_iff]
    right
    rw[o9];intro h;have:=o4 List.length h;rw[List.length_map]at this;exact d this
  ·refine⟨c,_,_,_,_,_,Z,by omega,wD ⟨by have:=wv _ _ _ _ a;omega,?_⟩⟩;unfold j0;rw[a];rfl
 ·refine (rf (aS t) w (by omega)).mono ?_;rintro e W ⟨rfl,c⟩;refine⟨c,_,_,_,_,_,Z,by omega,wD ⟨by omega,?_⟩⟩;rw[gv,za _ (by rw[mL]at j;omega)]
theorem IA{w:J}{T:Nat}{a b:tS}{t:xD}(h:w.heap[T]?=A (r7 #[a,b] t (0,0))) :
  w.cell? ⟨T,0,Y⟩=A a∧w.cell? ⟨T,1,Y⟩=A b∧w.frozen? ⟨T,0,Y⟩=ur∧w.frozen? ⟨T,1,Y⟩=false:=by
 simp[World.cell?,World.frozen?,h]
theorem CJ(t:ByteArray):aS t=(⟨#[39]⟩:ByteArray)++t:=by
 apply ByteArray.ext;apply Array.toList_inj.1;rw[q8,ByteArray.data_append,Array.toList_append];rfl
theorem v8(kd:Nat)(t:ByteArray)(nm pl:Int)(p:Option Addr)(n c:Nat)(word:Bool)(w:J)(N:aI w)(P:t.size≤72007) :
  vv va 183 #[wP #[I r8 kd,r9 t,I U nm,I U pl,O p n c],xt word] w (aZ (cL t.data.toList&&(word||!jK t.data.toList)) w):=by
 have k:Kr w (w.alloc (r7 #[I r8 kd,r9 t,I U nm,I U pl,O p n c] 232)):=(JO _ w).alloc (JM _) _;have h0:=oc w (r7 #[I r8 kd,r9 t,I U nm,I U pl,O p n c] 232);have z:w.heap.size<(w.alloc (r7 #[I r8 kd,r9 t,I U nm,I U pl,O p n c] 232)).heap.size:=by simp
 have Q:=C7 t _ (N.C k);rw[CJ]at Q;have HQ:=Hd Q;clear Q;obtain⟨B,H0,u,C⟩:=zz4 (N.C k) h0 k z;clear N h0 k z
 go_enter Tryz.func183,Tryz.ntmps183
 go_wp2_with fail
 refine JX HQ.o ?_;rintro e w1 ⟨l,p',n',c',er,at',rfl,R,i⟩;obtain⟨a,H1,v,D⟩:=zz4 i (aa l H0.o C.o) (u.o.trans (l.mono u.o.size)) (B.o.C l);clear i l HQ B;go_wp2_with fail
 have j:=(JO _ w1).alloc (JM _) (r7 #[I U er,I U at'] 109);have E:w.heap.size<w1.heap.size:=(JL.1 H1.o).1;obtain⟨S,T,d,V,F⟩:=zz5 (aa j H1.o E) (oc w1 (r7 #[I U er,I U at'] 109)) (v.o.trans (j.mono v.o.size)) (D.o.C j) (fun g tx (m:g<w1.heap.size) (r:w1.cell? ⟨g,1,Y⟩=A (r9 tx))=>(j.cell (p:=⟨g,1,Y⟩) m).trans r);generalize w1.alloc (r7 #[I U er,I U at'] 109)=h at *;obtain⟨f0,f1,_,_⟩:=IA T.o;obtain⟨b0,y,b2,b3,b4⟩:=cells5 S.o;have G:=fun x:Wb h=>x.h f0
 have H:=fun x:Wb h=>x.h y
 clear j f1 b0 b2 b3 b4;rcases a.o with ⟨m,r⟩|⟨m,r,q⟩|⟨m,r,g,tx,rfl,hg,M,q⟩
 ·have he:(er==0)=false:=by simpa using m
  have s:=Hd r;clear m r a f0 y;refine ao (by kernel_rfl) (by kernel_rfl) ?_
  repeat (go_big_quiet_step (fail))
  refine xL ?_;intro W2 b;have f:=Hd (d.o.trans ((bA b).mono d.o.size));clear b G H;go_wp2_with fail
  go_ret;exact⟨bN (by rw[←gv,s.o];rfl),f.o⟩
 ·have he:(er==0)=true:=by simpa using m
  have aq:((n':Int)==2)=false:=by simp;omega
  have s:=Hd q;clear m r q a f0 y;refine ao (by kernel_rfl) (by kernel_rfl) ?_
  repeat (go_big_quiet_step (fail))
  refine xL ?_;intro W2 b;have f:=Hd (d.o.trans ((bA b).mono d.o.size));clear b G H;go_wp2_with fail
  go_ret;exact⟨bN (by rw[←gv,s.o];rfl),f.o⟩
 ·subst m;subst r;have gc:=F.o g tx hg M;have W:=fun x:Wb h=>x.h gc
  cases K:(tx.toList==t.toList)
  ·rw[K]at q;have s:=Hd q;clear q a f0 y M gc;refine ao (by kernel_rfl) (by kernel_rfl) ?_
   repeat (go_big_quiet_step (fail))
   refine xL ?_;intro W2 b;have f:=Hd (d.o.trans ((bA b).mono d.o.size));clear b G H W;go_wp2_with fail
   go_ret;exact⟨bN (by rw[←gv,s.o];rfl),f.o⟩
  ·rw[K]at q;have s:=Hd q;clear q a
   cases word
   ·clear G H W;have X:w.heap.size<h.heap.size:=(JL.1 S.o).1;have ad:w1.heap.size<h.heap.size:=(JL.1 T.o).1;have af:g<h.heap.size:=by omega
    clear F u C H0 H1 v D S T E hg P R
    go_region_held3 (fun w'=>w'.cell? ⟨w.heap.size,1,Y⟩=A (r9 t)∧w'.cell? ⟨w1.heap.size,0,Y⟩=A (I U 0)∧w'.cell? ⟨g,1,Y⟩=A (r9 tx))
     (first
      | (exact⟨by assumption,by assumption,by assumption⟩)
      | (exact⟨(World.cell?_alloc_lt h _ ⟨w.heap.size,1,Y⟩ X).trans y,(World.cell?_alloc_lt h _ ⟨w1.heap.size,0,Y⟩ ad).trans f0,(World.cell?_alloc_lt h _ ⟨g,1,Y⟩ af).trans gc⟩))
     (first
      | (go_at_call 171;refine (vS _ (V.o.C (JO _ _).drew)).mono ?_;rintro e w6 ⟨rfl,rfl⟩)
      | (go_at_call 170;refine (np _ _ t _ (by exact oc h _)).mono ?_;rintro e w6 ⟨rfl,rfl⟩))
    have L:Kr h (h.alloc (r7 (ia.map r9).toArray 9)).drew:=((JO _ h).alloc (JM _) _).drew;have f:=Hd (d.o.trans (L.mono d.o.size));clear L y f0 gc M;go_wp2_with fail
    go_ret;exact⟨bN (by rw[←gv,s.o];rfl),f.o⟩
   ·clear f0 y M gc;refine ao (by kernel_rfl) (by kernel_rfl) ?_
    repeat (go_big_quiet_step (fail))
    refine xL ?_;intro W2 b;have f:=Hd (d.o.trans ((bA b).mono d.o.size));clear b G H W;go_wp2_with fail
    go_ret;exact⟨bN (by rw[←gv,s.o];rfl),f.o⟩
theorem Bq(L:List ByteArray)(x:ByteArray):Lib.containsS L x=ev L x.data.toList:=by
 rw[Kg,Lib.containsS_iff,ev,List.any_eq_true]
 constructor
 ·intro h;exact⟨x,h,by simp⟩
 ·rintro ⟨y,c,he⟩;have e:y=x:=by
   have a:y.data.toList=x.data.toList:=by simpa using he
   have b:y.data=x.data:=Array.toList_inj.1 a;exact ByteArray.ext b
  rwa [←e]
theorem pX(L:List ByteArray)(n B c:Nat)(t:xD)(x:ByteArray)(w:J)(d:L.length=n)(b:n≤100)(h:w.heap[B]?=A (r7 (L.map r9).toArray t (0,0))) :
  vv va 170 #[O (A ⟨B,0,Y⟩) n c,r9 x] w fun e w'=>e=wg (xt (ev L x.data.toList))∧Kr w w':=by
 refine (Tryz.slices_Contains_string B 0 n c L x w (by omega) (by omega) (fun j f=>?_)).mono ?_
 ·rw[Nat.zero_add,Kq _ _ _ _ _ _ h];have a:j<L.length:=by omega
  simp[List.getD_eq_getElem?_getD,List.getElem?_eq_getElem a]
 ·rintro e w' ⟨rfl,rfl⟩;refine⟨?_,JO _ _⟩;rw[J5 (by omega),Bq]
def opB(k:Nat) (t:List UInt8):Bool:=(k==1&&ev mP t)||(k==2&&ev mW t)
theorem Wb.heap{w:J}(x:Wb w){b:Nat}{o:Obj}(h:w.heap[b]?=A o):x.1.heap[b]?=A o:=aa x.2 h (JL.1 h).1
theorem Ec(w:J)(a b d:Obj):(((w.alloc a).alloc b).alloc d).heap[w.heap.size]?=A a∧(((w.alloc a).alloc b).alloc d).heap[w.heap.size+1]?=A b∧(((w.alloc a).alloc b).alloc d).heap[w.heap.size+1+1]?=A d∧Kr w (((w.alloc a).alloc b).alloc d):=by refine⟨?_,?_,?_,(((JO _ w).alloc (JM _) _).alloc (by simp) _).alloc (by simp;omega) _⟩<;>(simp only[iF,o3];repeat (first|rw[oj trivial] | rw[oe (by omega)] | rw[oj (by omega)]))
theorem A9(kd:Nat)(t:ByteArray)(nm pl:Int)(p:Option Addr)(n c:Nat)(w:J) :
  vv va 185 #[wP #[I r8 kd,r9 t,I U nm,I U pl,O p n c]] w (aZ (opB n t.data.toList) w):=by
 obtain⟨q,r,s,u⟩:=Ec w (r7 #[I r8 kd,r9 t,I U nm,I U pl,O p n c] 232) (r7 #[r9 ⟨#[45]⟩,r9 ⟨#[110,111,116]⟩] 308)
  (r7 #[r9 ⟨#[111,114]⟩,r9 ⟨#[97,110,100]⟩,r9 ⟨#[61]⟩,r9 ⟨#[33,61]⟩,r9 ⟨#[60]⟩,r9 ⟨#[60,61]⟩,r9 ⟨#[62]⟩,r9 ⟨#[62,61]⟩,r9 ⟨#[43]⟩,r9 ⟨#[45]⟩,r9 ⟨#[42]⟩] 309)
 obtain⟨H1,y,d⟩:=zz3 r s u;obtain⟨E,z,F,G,H⟩:=cells5 q;have g:Hid (opB n t.data.toList=((n==1&&ev mP t.data.toList)||(n==2&&ev mW t.data.toList))):=rfl;have i:=Hd (fun W (h:W.heap[w.heap.size+1]?=A (r7 (mP.map r9).toArray 308 (0,0)))=>pX mP 2 (w.heap.size+1) 2 308 t W Z (by omega) h);have j:=Hd (fun W (h:W.heap[w.heap.size+1+1]?=A (r7 (mW.map r9).toArray 309 (0,0)))=>pX mW 11 (w.heap.size+1+1) 11 309 t W Z (by omega) h);clear q r s u;generalize opB n t.data.toList=o at *;generalize ev mP t.data.toList=v at *;generalize ev mW t.data.toList=B at *;have k:=fun x:Wb _=>x.h z
 go_enter Tryz.func185,Tryz.ntmps185
 by_cases l:n=1
 ·subst l;go_wp2_with fail
  refine ao (by kernel_rfl) (by kernel_rfl) ?_
  repeat (go_big_quiet_step ((go_at_call 170;exact Calls.h (i.o _ (Wb.heap _ H1.o)))))
  refine xL ?_;intro W2 a;have b:=Hd (d.o.trans ((bA a).mono d.o.size));clear a k;go_wp2_with fail
  go_ret;exact⟨bN (by rw[g.o];cases v<;>rfl),b.o⟩
 ·have K:((n:Int)==1)=false:=by simp;omega
  have e:(n==1)=false:=by simp;omega
  have C:=Hd e;clear e
  by_cases m:n=2
  ·subst m;go_wp2_with fail
   refine ao (by kernel_rfl) (by kernel_rfl) ?_
   repeat (go_big_quiet_step ((go_at_call 170;exact Calls.h (j.o _ (Wb.heap _ y.o)))))
   refine xL ?_;intro W2 a;have b:=Hd (d.o.trans ((bA a).mono d.o.size));clear a k;go_wp2_with fail
   go_ret;exact⟨bN (by rw[g.o];cases v<;>cases B<;>rfl),b.o⟩
  ·have L:((n:Int)==2)=false:=by simp;omega
   have f:(n==2)=false:=by simp;omega
   have D:=Hd f;clear f k;go_wp2_with fail
   go_ret;exact⟨bN (by rw[g.o,C.o,D.o];rfl),d.o⟩
theorem IG(c:UInt8)(r:List UInt8)(h:c≠45):fH (c::r)=false:=by
 unfold fH
 split
 ·rename_i heq;injection heq with a;exact absurd a h
 ·rfl
theorem Hk(c:UInt8)(r:List UInt8)(h:c≠45):strip (c::r)=c::r:=by
 unfold strip
 split
 ·rename_i heq;injection heq with a;exact absurd a h
 ·rfl
theorem BX(l:List UInt8):Lib.trimPrefix l [45]=strip l:=by
 unfold Lib.trimPrefix;rw[oY]
 cases l with
 | nil=>rfl
 | cons c r =>
  by_cases h:c=45
  ·subst h;rfl
  ·rw[IG c r h,Hk c r h];rfl
theorem EQ(l:List UInt8):(strip l).length≤l.length:=by
 unfold strip
 split
 ·simp
 ·exact JM _
def textF(f:Nat) (t:List UInt8) (n:Nat):Bool:=
 if f==1 then cL t&&!jK t else if f==2 then cL t else if f==3 then (number (strip t)).isSome else if f==4 then opB n t else t.isEmpty
theorem wk(t:ByteArray):(t.toList==(⟨#[]⟩:ByteArray).toList)=t.data.toList.isEmpty:=by
 rw[J1,J1]
 cases t.data.toList<;>rfl
theorem ym(kd:Nat)(t:ByteArray)(nm pl:Int)(p:Option Addr)(n c f:Nat)(w:J)(l:aI w)(h:t.size≤72007)(s:f≤4) :
  vv va 149 #[wP #[I r8 kd,r9 t,I U nm,I U pl,O p n c],I U f] w (aZ (textF f t.data.toList n) w):=by
 have g:Kr w (w.alloc (r7 #[I r8 kd,r9 t,I U nm,I U pl,O p n c] 232)):=(JO _ w).alloc (JM _) _;have m:=oc w (r7 #[I r8 kd,r9 t,I U nm,I U pl,O p n c] 232);obtain⟨v,x,y,z,B⟩:=cells5 m;obtain⟨q,i,a,j⟩:=zz4 (fun b=>v8 kd t nm pl p n c b _ (l.C g) h) (fun W=>A9 kd t nm pl p n c W) g (fun W=>(Tryz.strings_TrimPrefix t ⟨#[45]⟩ W).mono (R':=fun e w'=>e=wg (r9 ⟨(strip t.data.toList).toArray⟩)∧W=w') (fun e w' r=>⟨by rw[r.1];show wg (r9 ⟨(Lib.trimPrefix t.data.toList [45]).toArray⟩)=_;rw[BX],r.2.symm⟩))
 have k:=Hd (fun W=>ow ⟨(strip t.data.toList).toArray⟩ W (by
  show (strip t.data.toList).toArray.size≤100000
  have C:=EQ t.data.toList;have D:t.data.toList.length=t.data.size:=Kc;have E:t.size=t.data.size:=rfl;simp only[List.size_toArray]
  omega))
 clear l m g h
 match f,s with
 | 0,_ =>
  have u:=Hd (wk t)
  go_enter Tryz.func149,Tryz.ntmps149
  go_wp2_with fail
  go_ret;exact⟨bN (by show _=t.data.toList.isEmpty;rw[←u.o,J1,J1];cases t.data.toList<;>rfl),a.o⟩
 | 1,_ =>
  go_enter Tryz.func149,Tryz.ntmps149
  go_wp2_with fail
  refine JX (q.o ur) ?_;rintro e W2 ⟨rfl,d⟩;go_wp2_with fail
  go_ret;exact⟨bN Z,a.o.trans (d.mono a.o.size)⟩
 | 2,_ =>
  go_enter Tryz.func149,Tryz.ntmps149
  go_wp2_with fail
  refine JX (q.o tT) ?_;rintro e W2 ⟨rfl,d⟩;go_wp2_with fail
  go_ret;exact⟨bN Z,a.o.trans (d.mono a.o.size)⟩
 | 3,_ =>
  go_enter Tryz.func149,Tryz.ntmps149
  go_wp2_with fail
  refine JX (j.o _) ?_;rintro e W2 ⟨rfl,rfl⟩;go_wp2_with fail
  refine JX (k.o _) ?_;rintro e W2 ⟨rfl,d⟩;go_wp2_with fail
  go_ret;exact⟨Z,a.o.trans (d.mono a.o.size)⟩
 | 4,_ =>
  go_enter Tryz.func149,Tryz.ntmps149
  go_wp2_with fail
  refine JX (i.o _) ?_;rintro e W2 ⟨rfl,d⟩;go_wp2_with fail
  go_ret;exact⟨Z,a.o.trans (d.mono a.o.size)⟩
def fj(kd:Nat):Nat×Int×Int:=
 if kd==2||kd==3||kd==5||kd==6||kd==8 then (1,0,0)
 else if kd==4 then (1,-2147483647,2147483647)
 else if kd==9 then (0,0,2147483647)
 else if kd==13||kd==15 then (2,0,0)
 else if kd==14 then (3,0,0)
 else if kd==16 then (4,0,0)
 else (0,0,0)
def lU(L:Nat) (w W:J):Prop:=w.heap.size≤W.heap.size∧∀b,L≤b→b<w.heap.size→W.heap[b]?=w.heap[b]?
def t8(L:Nat) (w:J) (kd:Nat) (fn:tS):Prop:=
 (∃g:FuncId,fn=z6 (.func g) #[] #[]∧(∀(args:Array tS) (w:J),(callFunc g args).run va w=.ok (.enter g args) w)∧∀(W:J) (d B:Nat) (ks:List ac) (v:tS),lU L w W→ax W B d ks v→B≤W.heap.size→ks.length≤20000→vv va g #[v] W (aZ (gw kd ks) W))∨
 (∃b:Nat,fn=z6 (.func 205) #[] #[vo (A ⟨b,0,Y⟩)]∧∀(W:J) (d B:Nat) (ks:List ac) (v:tS),lU L w W→ax W B d ks v→B≤W.heap.size→ks.length≤20000→vv va 205 #[v,vo (A ⟨b,0,Y⟩)] W (aZ (gw kd ks) W))
theorem G3{w:J}{b n:Nat}{S:List Nat}{arr:Array tS}(h:w.heap[b]?=A (r7 arr 142 (0,0)))(a:arr=(S.map fun k:Nat=>I r8 (k:Int)).toArray)(c:S.length≤100)(d:S.length=n):ik w S (O (A ⟨b,0,Y⟩) n n):=by
 subst a;subst d;refine wF ⟨b,0,S.length,Z,c,(JL.1 h).1,fun i k e=>?_⟩;rw[Kq _ _ _ _ _ _ h];simp[e]
theorem jX{L b b' n kd:Nat}{w:J}{S:List Nat}{arr:Array tS}(l:L≤b)(e:L≤b')(i:w.heap[b]?=A (r7 #[O (A ⟨b',0,Y⟩) n n] 306 (0,0)))(j:w.heap[b']?=A (r7 arr 142 (0,0)))(m:arr=(S.map fun k:Nat=>I r8 (k:Int)).toArray)(o:S.length≤100)(p:S.length=n)
  (h:∀ks,gw kd ks=cE S ks):t8 L w kd (z6 (.func 205) #[] #[vo (A ⟨b,0,Y⟩)]):=by
 have a:b<w.heap.size:=(JL.1 i).1;have c:b'<w.heap.size:=(JL.1 j).1;refine wF ⟨b,Z,fun W d B ks v f q hB g=>?_⟩;rw[h ks];exact ki S ks v _ d B b W q hB g (G3 ((f.2 b' e c).trans j) m o p) (JS a f.1) (Kq _ _ 0 _ _ _ ((f.2 b l a).trans i))
theorem gp{L b kd:Nat}{w:J}(g:L≤b)(e:w.heap[b]?=A (r7 #[O Y 0 0] 306 (0,0)))(h:∀ks,gw kd ks=cE [] ks) :
  t8 L w kd (z6 (.func 205) #[] #[vo (A ⟨b,0,Y⟩)]):=by
 have a:b<w.heap.size:=(JL.1 e).1;refine wF ⟨b,Z,fun W d B ks v f i hB c=>?_⟩;rw[h ks];exact ki [] ks v _ d B b W i hB c (wD ⟨Z,Z⟩) (JS a f.1) (Kq _ _ 0 _ _ _ ((f.2 b g a).trans e))
theorem iQ(ks:List ac):ks.isEmpty=cE [] ks:=by
 cases ks with
 | nil=>rfl
 | cons x l=>unfold cE;simp
def eI(kd:Nat) (w:J) (e:AJ) (w':J):Prop:=
 ∃fn,e=wg (y9 #[wP #[I U ((fj kd).1:Nat),I U (fj kd).2.1,I U (fj kd).2.2,fn],xt tT])∧Kr w w'∧t8 w.heap.size w' kd fn
theorem cx(W:J)(h:AJ→J→Prop)(T:Nat)(a b c d v3:tS)(e:W.heap[T]?=A (r7 #[a,b,c,d] 253 (0,0)))
  (tmps:Array tS) (i:tmps.getD 2 xk=vo (A ⟨T,0,Y⟩)) (j:tmps.getD 3 xk=v3) (k:h (wg (y9 #[wP #[a,b,c,d],v3])) W) :
  bodyPost va Tryz.f148 h .ret ⟨tmps,[]⟩ W:=by
 have l:=Kq _ _ 0 _ _ _ e;have m:=Kq _ _ 1 _ _ _ e;have c2:=Kq _ _ 2 _ _ _ e;have n:=Kq _ _ 3 _ _ _ e;have f:tmps[2]?.getD xk=vo (A ⟨T,0,Y⟩):=by simpa using i
 have g:tmps[3]?.getD xk=v3:=by simpa using j
 refine bodyPost_ret (v:=y9 #[wP #[a,b,c,d],v3]) ?_ Z k;simp[results,Tryz.results148,go_sem,f,g,l,m,c2,n]
theorem eq(w:J)(a b:Obj):((w.alloc a).alloc b).heap[w.heap.size]?=A a∧((w.alloc a).alloc b).heap[w.heap.size+1]?=A b∧Kr w ((w.alloc a).alloc b):=
 ⟨(bc w a b).1,(bc w a b).2.1,mw w a b⟩
theorem mp(w:J)(a b c d:Obj):((((w.alloc a).alloc b).alloc c).alloc d).heap[w.heap.size]?=A a∧((((w.alloc a).alloc b).alloc c).alloc d).heap[w.heap.size+1+1]?=A c∧
  ((((w.alloc a).alloc b).alloc c).alloc d).heap[w.heap.size+1+1+1]?=A d∧Kr w ((((w.alloc a).alloc b).alloc c).alloc d):=by
 refine⟨?_,?_,?_,((((JO _ w).alloc (JM _) _).alloc (by simp) _).alloc (by simp;omega) _).alloc (by simp;omega) _⟩<;>(simp only[iF,o3];repeat (first|rw[oj trivial] | rw[oe (by omega)] | rw[oj (by omega)]))
theorem Ga(w:J):vv va 148 #[I r8 1] w (eI 1 w):=by
 go_enter Tryz.func148,Tryz.ntmps148
 go_wp2_with (go_at_call 178;refine (aU _ _ _ _).mono ?_;rintro e f ⟨rfl,rfl⟩)
 obtain⟨a,b,c,d⟩:=mp w (r7 #[I U 0,I U (0),I U 0,z6 (.func 205) #[] #[vo (A ⟨w.heap.size+1+1+1,0,Y⟩)]] 253) (r7 #[O Y 0 0] 306) (r7 #[I r8 2,I r8 4] 142) (r7 #[O (A ⟨w.heap.size+1+1,0,Y⟩) 2 2] 306);exact cx _ _ w.heap.size _ _ _ _ _ a _ Z Z ⟨_,Z,d,jX (S:=[2,4]) (by omega) (by omega) c b Z (by decide) Z (fun ks=>rfl)⟩
theorem Hq(w:J):vv va 148 #[I r8 2] w (eI 2 w):=by
 go_enter Tryz.func148,Tryz.ntmps148
 go_wp2_with (go_at_call 178;refine (aU _ _ _ _).mono ?_;rintro e f ⟨rfl,rfl⟩)
 obtain⟨a,b,c,d⟩:=mp w (r7 #[I U 1,I U (0),I U 0,z6 (.func 205) #[] #[vo (A ⟨w.heap.size+1+1+1,0,Y⟩)]] 253) (r7 #[O Y 0 0] 306) (r7 #[I r8 3] 142) (r7 #[O (A ⟨w.heap.size+1+1,0,Y⟩) 1 1] 306);exact cx _ _ w.heap.size _ _ _ _ _ a _ Z Z ⟨_,Z,d,jX (S:=[3]) (by omega) (by omega) c b Z (by decide) Z (fun ks=>rfl)⟩
theorem G9(w:J):vv va 148 #[I r8 3] w (eI 3 w):=by
 go_enter Tryz.func148,Tryz.ntmps148
 go_wp2_with (go_at_call 178;refine (aU _ _ _ _).mono ?_;rintro e d ⟨rfl,rfl⟩)
 obtain⟨a,b,c⟩:=eq w (r7 #[I U 1,I U (0),I U 0,z6 (.func 205) #[] #[vo (A ⟨w.heap.size+1,0,Y⟩)]] 253) (r7 #[O Y 0 0] 306);exact cx _ _ w.heap.size _ _ _ _ _ a _ Z Z ⟨_,Z,c,gp (by omega) b (fun ks=>(show ks.isEmpty=_ from iQ ks))⟩
theorem FY(w:J):vv va 148 #[I r8 4] w (eI 4 w):=by
 go_enter Tryz.func148,Tryz.ntmps148
 go_wp2_with (go_at_call 178;refine (aU _ _ _ _).mono ?_;rintro e g ⟨rfl,rfl⟩)
 obtain⟨a,h,b⟩:=eq w (r7 #[I U 1,I U (-2147483647),I U 2147483647,z6 (.func 179) #[] #[]] 253) (r7 #[O Y 0 0] 306);exact cx _ _ w.heap.size _ _ _ _ _ a _ Z Z ⟨_,Z,b,wD ⟨_,Z,enters_of Tryz.func179 (by kernel_rfl) Z,fun W d B ks v _ c hB f=>zD ks v d B W c hB f⟩⟩
theorem Gq(w:J):vv va 148 #[I r8 5] w (eI 5 w):=by
 go_enter Tryz.func148,Tryz.ntmps148
 go_wp2_with (go_at_call 178;refine (aU _ _ _ _).mono ?_;rintro e f ⟨rfl,rfl⟩)
 obtain⟨a,b,c,d⟩:=mp w (r7 #[I U 1,I U (0),I U 0,z6 (.func 205) #[] #[vo (A ⟨w.heap.size+1+1+1,0,Y⟩)]] 253) (r7 #[O Y 0 0] 306) (r7 #[I r8 12,I r8 13,I r8 14,I r8 15] 142) (r7 #[O (A ⟨w.heap.size+1+1,0,Y⟩) 4 4] 306);exact cx _ _ w.heap.size _ _ _ _ _ a _ Z Z ⟨_,Z,d,jX (S:=[12,13,14,15]) (by omega) (by omega) c b Z (by decide) Z (fun ks=>rfl)⟩
theorem G6(w:J):vv va 148 #[I r8 6] w (eI 6 w):=by
 go_enter Tryz.func148,Tryz.ntmps148
 go_wp2_with (go_at_call 178;refine (aU _ _ _ _).mono ?_;rintro e f ⟨rfl,rfl⟩)
 obtain⟨a,b,c,d⟩:=mp w (r7 #[I U 1,I U (0),I U 0,z6 (.func 205) #[] #[vo (A ⟨w.heap.size+1+1+1,0,Y⟩)]] 253) (r7 #[O Y 0 0] 306) (r7 #[I r8 12,I r8 13,I r8 14,I r8 15] 142) (r7 #[O (A ⟨w.heap.size+1+1,0,Y⟩) 4 4] 306);exact cx _ _ w.heap.size _ _ _ _ _ a _ Z Z ⟨_,Z,d,jX (S:=[12,13,14,15]) (by omega) (by omega) c b Z (by decide) Z (fun ks=>rfl)⟩
theorem GE(w:J):vv va 148 #[I r8 7] w (eI 7 w):=by
 go_enter Tryz.func148,Tryz.ntmps148
 go_wp2_with (go_at_call 178;refine (aU _ _ _ _).mono ?_;rintro e g ⟨rfl,rfl⟩)
 obtain⟨a,h,b⟩:=eq w (r7 #[I U 0,I U (0),I U 0,z6 (.func 180) #[] #[]] 253) (r7 #[O Y 0 0] 306);exact cx _ _ w.heap.size _ _ _ _ _ a _ Z Z ⟨_,Z,b,wD ⟨_,Z,enters_of Tryz.func180 (by kernel_rfl) Z,fun W d B ks v _ c hB f=>zu ks v d B W c hB f⟩⟩
theorem GN(w:J):vv va 148 #[I r8 8] w (eI 8 w):=by
 go_enter Tryz.func148,Tryz.ntmps148
 go_wp2_with (go_at_call 178;refine (aU _ _ _ _).mono ?_;rintro e g ⟨rfl,rfl⟩)
 obtain⟨a,h,b⟩:=eq w (r7 #[I U 1,I U (0),I U 0,z6 (.func 181) #[] #[]] 253) (r7 #[O Y 0 0] 306);exact cx _ _ w.heap.size _ _ _ _ _ a _ Z Z ⟨_,Z,b,wD ⟨_,Z,enters_of Tryz.func181 (by kernel_rfl) Z,fun W d B ks v _ c hB f=>jk ks v d B W c hB f⟩⟩
theorem FD(w:J):vv va 148 #[I r8 9] w (eI 9 w):=by
 go_enter Tryz.func148,Tryz.ntmps148
 go_wp2_with (go_at_call 178;refine (aU _ _ _ _).mono ?_;rintro e d ⟨rfl,rfl⟩)
 obtain⟨a,b,c⟩:=eq w (r7 #[I U 0,I U (0),I U 2147483647,z6 (.func 205) #[] #[vo (A ⟨w.heap.size+1,0,Y⟩)]] 253) (r7 #[O Y 0 0] 306);exact cx _ _ w.heap.size _ _ _ _ _ a _ Z Z ⟨_,Z,c,gp (by omega) b (fun ks=>(show ks.isEmpty=_ from iQ ks))⟩
theorem DI(w:J):vv va 148 #[I r8 10] w (eI 10 w):=by
 go_enter Tryz.func148,Tryz.ntmps148
 go_wp2_with (go_at_call 178;refine (aU _ _ _ _).mono ?_;rintro e g ⟨rfl,rfl⟩)
 obtain⟨a,h,b⟩:=eq w (r7 #[I U 0,I U (0),I U 0,z6 (.func 182) #[] #[]] 253) (r7 #[O Y 0 0] 306);exact cx _ _ w.heap.size _ _ _ _ _ a _ Z Z ⟨_,Z,b,wD ⟨_,Z,enters_of Tryz.func182 (by kernel_rfl) Z,fun W d B ks v _ c hB f=>zk ks v d B W c hB f⟩⟩
theorem Ff(w:J):vv va 148 #[I r8 11] w (eI 11 w):=by
 go_enter Tryz.func148,Tryz.ntmps148
 go_wp2_with (go_at_call 178;refine (aU _ _ _ _).mono ?_;rintro e d ⟨rfl,rfl⟩)
 obtain⟨a,b,c⟩:=eq w (r7 #[I U 0,I U (0),I U 0,z6 (.func 205) #[] #[vo (A ⟨w.heap.size+1,0,Y⟩)]] 253) (r7 #[O Y 0 0] 306);exact cx _ _ w.heap.size _ _ _ _ _ a _ Z Z ⟨_,Z,c,gp (by omega) b (fun ks=>(show ks.isEmpty=_ from iQ ks))⟩
theorem DC(w:J):vv va 148 #[I r8 12] w (eI 12 w):=by
 go_enter Tryz.func148,Tryz.ntmps148
 go_wp2_with (go_at_call 178;refine (aU _ _ _ _).mono ?_;rintro e d ⟨rfl,rfl⟩)
 obtain⟨a,b,c⟩:=eq w (r7 #[I U 0,I U (0),I U 0,z6 (.func 205) #[] #[vo (A ⟨w.heap.size+1,0,Y⟩)]] 253) (r7 #[O Y 0 0] 306);exact cx _ _ w.heap.size _ _ _ _ _ a _ Z Z ⟨_,Z,c,gp (by omega) b (fun ks=>(show ks.isEmpty=_ from iQ ks))⟩
theorem DY(w:J):vv va 148 #[I r8 13] w (eI 13 w):=by
 go_enter Tryz.func148,Tryz.ntmps148
 go_wp2_with (go_at_call 178;refine (aU _ _ _ _).mono ?_;rintro e d ⟨rfl,rfl⟩)
 obtain⟨a,b,c⟩:=eq w (r7 #[I U 2,I U (0),I U 0,z6 (.func 205) #[] #[vo (A ⟨w.heap.size+1,0,Y⟩)]] 253) (r7 #[O Y 0 0] 306);exact cx _ _ w.heap.size _ _ _ _ _ a _ Z Z ⟨_,Z,c,gp (by omega) b (fun ks=>(show ks.isEmpty=_ from iQ ks))⟩
theorem DO(w:J):vv va 148 #[I r8 14] w (eI 14 w):=by
 go_enter Tryz.func148,Tryz.ntmps148
 go_wp2_with (go_at_call 178;refine (aU _ _ _ _).mono ?_;rintro e d ⟨rfl,rfl⟩)
 obtain⟨a,b,c⟩:=eq w (r7 #[I U 3,I U (0),I U 0,z6 (.func 205) #[] #[vo (A ⟨w.heap.size+1,0,Y⟩)]] 253) (r7 #[O Y 0 0] 306);exact cx _ _ w.heap.size _ _ _ _ _ a _ Z Z ⟨_,Z,c,gp (by omega) b (fun ks=>(show ks.isEmpty=_ from iQ ks))⟩
theorem Fg(w:J):vv va 148 #[I r8 15] w (eI 15 w):=by
 go_enter Tryz.func148,Tryz.ntmps148
 go_wp2_with (go_at_call 178;refine (aU _ _ _ _).mono ?_;rintro e d ⟨rfl,rfl⟩)
 obtain⟨a,b,c⟩:=eq w (r7 #[I U 2,I U (0),I U 0,z6 (.func 205) #[] #[vo (A ⟨w.heap.size+1,0,Y⟩)]] 253) (r7 #[O Y 0 0] 306);exact cx _ _ w.heap.size _ _ _ _ _ a _ Z Z ⟨_,Z,c,gp (by omega) b (fun ks=>(show ks.isEmpty=_ from iQ ks))⟩
theorem EX(w:J):vv va 148 #[I r8 16] w (eI 16 w):=by
 go_enter Tryz.func148,Tryz.ntmps148
 go_wp2_with (go_at_call 178;refine (aU _ _ _ _).mono ?_;rintro e g ⟨rfl,rfl⟩)
 obtain⟨a,h,b⟩:=eq w (r7 #[I U 4,I U (0),I U 0,z6 (.func 181) #[] #[]] 253) (r7 #[O Y 0 0] 306);exact cx _ _ w.heap.size _ _ _ _ _ a _ Z Z ⟨_,Z,b,wD ⟨_,Z,enters_of Tryz.func181 (by kernel_rfl) Z,fun W d B ks v _ c hB f=>jk ks v d B W c hB f⟩⟩
theorem zd(k:Nat)(w:J)(h:k=0∨16<k):vv va 148 #[I r8 k] w fun e w'=>e=wg (y9 #[wP #[I U 0,I U 0,I U 0,.nilFunc],xt ur])∧Kr w w':=by
 have m:((k:Int)==1)=false:=by simp;omega
 have n:((k:Int)==2)=false:=by simp;omega
 have o:((k:Int)==3)=false:=by simp;omega
 have p:((k:Int)==4)=false:=by simp;omega
 have q:((k:Int)==5)=false:=by simp;omega
 have r:((k:Int)==6)=false:=by simp;omega
 have s:((k:Int)==7)=false:=by simp;omega
 have t:((k:Int)==8)=false:=by simp;omega
 have u:((k:Int)==9)=false:=by simp;omega
 have a:((k:Int)==10)=false:=by simp;omega
 have b:((k:Int)==11)=false:=by simp;omega
 have c:((k:Int)==12)=false:=by simp;omega
 have d:((k:Int)==13)=false:=by simp;omega
 have f:((k:Int)==14)=false:=by simp;omega
 have g:((k:Int)==15)=false:=by simp;omega
 have i:((k:Int)==16)=false:=by simp;omega
 clear h
 go_enter Tryz.func148,Tryz.ntmps148
 go_wp2_with (go_at_call 178;refine (aU _ _ _ _).mono ?_;rintro e v ⟨rfl,rfl⟩)
 obtain⟨j,x,l⟩:=eq w (r7 #[I U 0,I U 0,I U 0,.nilFunc] 253) (r7 #[O Y 0 0] 306);exact cx _ _ w.heap.size _ _ _ _ _ j _ Z Z ⟨Z,l⟩
theorem Cn(k:Nat)(w:J)(b:1≤k)(c:k≤16):vv va 148 #[I r8 k] w (eI k w):=by
 have a:k=1∨k=2∨k=3∨k=4∨k=5∨k=6∨k=7∨k=8∨k=9∨k=10∨k=11∨k=12∨k=13∨k=14∨k=15∨k=16:=by omega
 rcases a with rfl|rfl|rfl|rfl|rfl|rfl|rfl|rfl|rfl|rfl|rfl|rfl|rfl|rfl|rfl|rfl
 ·exact Ga w
 ·exact Hq w
 ·exact G9 w
 ·exact FY w
 ·exact Gq w
 ·exact G6 w
 ·exact GE w
 ·exact GN w
 ·exact FD w
 ·exact DI w
 ·exact Ff w
 ·exact DC w
 ·exact DY w
 ·exact DO w
 ·exact Fg w
 ·exact EX w
theorem zp(k:Nat)(b:1≤k)(c:k≤16)(t:List UInt8)(n:Nat):nl k t n=textF (fj k).1 t n:=by
 have a:k=1∨k=2∨k=3∨k=4∨k=5∨k=6∨k=7∨k=8∨k=9∨k=10∨k=11∨k=12∨k=13∨k=14∨k=15∨k=16:=by omega
 rcases a with rfl|rfl|rfl|rfl|rfl|rfl|rfl|rfl|rfl|rfl|rfl|rfl|rfl|rfl|rfl|rfl
 ·exact Z
 ·exact Z
 ·exact Z
 ·exact Z
 ·exact Z
 ·exact Z
 ·exact Z
 ·exact Z
 ·exact Z
 ·exact Z
 ·exact Z
 ·exact Z
 ·exact Z
 ·exact Z
 ·exact Z
 ·exact Z
theorem Cy(k:Nat)(c:1≤k)(d:k≤16)(x:Int):wQ k x=(wj ((fj k).2.1≤x)&&wj (x≤(fj k).2.2)):=by
 have a:(x==0)=(wj (0≤x)&&wj (x≤0)):=by rw[Kg];simp;omega
 have b:k=1∨k=2∨k=3∨k=4∨k=5∨k=6∨k=7∨k=8∨k=9∨k=10∨k=11∨k=12∨k=13∨k=14∨k=15∨k=16:=by omega
 rcases b with rfl|rfl|rfl|rfl|rfl|rfl|rfl|rfl|rfl|rfl|rfl|rfl|rfl|rfl|rfl|rfl
 ·exact a
 ·exact a
 ·exact a
 ·exact Z
 ·exact a
 ·exact a
 ·exact a
 ·exact a
 ·exact Z
 ·exact a
 ·exact a
 ·exact a
 ·exact a
 ·exact a
 ·exact a
 ·exact a
theorem Ix(k:Nat)(b:1≤k)(c:k≤16):(fj k).1≤4∧-2147483647≤(fj k).2.1∧(fj k).2.2≤2147483647:=by
 have a:k=1∨k=2∨k=3∨k=4∨k=5∨k=6∨k=7∨k=8∨k=9∨k=10∨k=11∨k=12∨k=13∨k=14∨k=15∨k=16:=by omega
 rcases a with rfl|rfl|rfl|rfl|rfl|rfl|rfl|rfl|rfl|rfl|rfl|rfl|rfl|rfl|rfl|rfl
 ·decide
 ·decide
 ·decide
 ·decide
 ·decide
 ·decide
 ·decide
 ·decide
 ·decide
 ·decide
 ·decide
 ·decide
 ·decide
 ·decide
 ·decide
 ·decide
def dZ(d:Nat) (T:ac) (deep left:Nat):Bool:=okF d T&&wj (deep+dU d T≤31)&&wj (dN d T≤left)
def ko(d:Nat) (deep:Nat) (t:ac):Bool:=okF d t&&wj (deep+1+dU d t≤31)
def sumF(d:Nat) (ks:List ac):Nat:=(ks.map (dN d)).foldl (· + ·) 0
theorem Jg(d:Nat)(T:ac)(h:d=0→T.z=[]):okF d T=(bu T&&T.z.all (okF (d-1))):=by
 cases d with
 | zero=>rw[h Z];show bu T=(bu T&&tT);rw[Bool.and_true]
 | succ d=>rfl
theorem Gx(d:Nat)(T:ac)(h:d=0→T.z=[]):dU d T=(T.z.map (dU (d-1))).foldl Nat.max 0+1:=by
 cases d with
 | zero=>rw[h Z];rfl
 | succ d=>rfl
theorem yi(d:Nat)(T:ac)(h:d=0→T.z=[]):dN d T=sumF (d-1) T.z+1:=by
 cases d with
 | zero=>rw[h Z];rfl
 | succ d=>show (T.z.map (dN d)).foldl (· + ·) 1=_;rw[uS,Nat.add_comm];rfl
theorem max_le(f:ac→Nat)(m:Nat):∀(l:List ac) (a:Nat),(wj ((l.map f).foldl Nat.max a≤m))=(wj (a≤m)&&l.all fun t=>wj (f t≤m)):=by
 intro l
 induction l with
 | nil=>intro a;simp
 | cons x l b =>
  intro a;rw[List.map_cons,List.foldl_cons,b,List.all_cons];have:wj (Nat.max a (f x)≤m)=(wj (a≤m)&&wj (f x≤m)):=by rw[Kg];simp only[oB,J4];exact Nat.max_le
  rw[this,Bool.and_assoc]
theorem Gg(d:Nat)(T:ac)(deep left:Nat)(h:d=0→T.z=[]) :
  dZ d T deep left=(bu T&&wj (deep≤30)&&T.z.all (ko (d-1) deep)&&wj (sumF (d-1) T.z+1≤left)):=by
 unfold dZ;rw[Jg d T h,Gx d T h,yi d T h]
 by_cases b:deep≤30
 ·have e:wj (deep+((T.z.map (dU (d-1))).foldl Nat.max 0+1)≤31)=wj ((T.z.map (dU (d-1))).foldl Nat.max 0≤30-deep):=by
   rw[Kg];simp only[oB];omega
  rw[e,max_le];have c:wj (0≤30-deep)=true:=by simp
  have a:wj (deep≤30)=true:=by simpa using b
  rw[c,a,Bool.true_and,Bool.and_true];have f:T.z.all (ko (d-1) deep)=(T.z.all (okF (d-1))&&T.z.all fun t=>wj (dU (d-1) t≤30-deep)):=by
   induction T.z with
   | nil=>rfl
   | cons x l g =>
    rw[List.all_cons,List.all_cons,List.all_cons,g];unfold ko;have:wj (deep+1+dU (d-1) x≤31)=wj (dU (d-1) x≤30-deep):=by rw[Kg];simp only[oB];omega
    rw[this]
    cases okF (d-1) x<;>cases wj (dU (d-1) x≤30-deep)<;>simp
  rw[f];simp only[Bool.and_assoc]
 ·have i:wj (deep+((T.z.map (dU (d-1))).foldl Nat.max 0+1)≤31)=false:=by simp;omega
  have a:wj (deep≤30)=false:=by simpa using b
  rw[i,a];simp
theorem uV(d:Nat)(ks:List ac)(k:Nat)(t:ac)(h:ks[k]?=A t):sumF d (ks.take (k+1))=sumF d (ks.take k)+dN d t:=by
 unfold sumF;rw[Kj,h,List.map_append,List.foldl_append];rfl
theorem Ii(d:Nat)(ks:List ac)(k:Nat):sumF d (ks.take k)≤sumF d ks:=by
 have h:sumF d ks=sumF d (ks.take k)+sumF d (ks.drop k):=by
  unfold sumF
  conv=>lhs;rw[←List.take_append_drop k ks]
  rw[List.map_append,List.foldl_append,uS]
 omega
def kD(d:Nat) (T:ac) (deep left a:Nat) (w:J) (e:AJ) (w':J):Prop:=
 e=wg (xt (dZ d T deep left))∧w.grownBy w' (A a)∧∃x:Int,w'.heap[a]?=A (r7 #[I U x] 3 (0,0))∧(dZ d T deep left=tT→x=(left:Int)-dN d T)
def ED(d:Nat):Prop:=∀(T:ac) (v:tS) (deep left a B:Nat) (w:J),fN w B d T v→B≤a→B≤w.heap.size→j4 d T→aI w→3≠a→
 w.heap[a]?=A (r7 #[I U left] 3 (0,0))→1≤deep→deep≤31→left≤4096→vv va 123 #[v,I U deep,vo (A ⟨a,0,Y⟩)] w (kD d T deep left a w)
theorem below_of_grown{B g:Nat}{w W:J}(a:w.grownBy W (A g))(b:B≤g)(hB:B≤w.heap.size):Below B w W:=
 ⟨a.os,a.tape,a.output,a.size,fun i hi=>a.block i (JS hi hB) (by intro e;simp at e;omega)⟩
def Hn(w:J) (d:Nat) (ks:List ac) (deep left b n:Nat) (i:tS) (W:J):Prop:=
 ∃(a:J) (k m:Nat),a=W∧k≤n∧i=I U k∧w.grownBy a (A b)∧a.heap[b]?=A (r7 #[I U m] 3 (0,0))∧m+sumF d (ks.take k)+1=left∧(ks.take k).all (ko d deep)=tT
theorem ij{a b c:J}{row:Option Nat}(h:a.grownBy b row)(d:b.grownBy c row):a.grownBy c row:=
 ⟨d.os.trans h.os,d.tape.trans h.tape,d.output.trans h.output,JU h.size d.size,fun k f e=>(d.block k (JS f h.size) e).trans (h.block k f e)⟩
theorem right_stop{d:Nat}{ks:List ac}{k m deep left:Nat}{t:ac}(c:ks[k]?=A t)(hm:m+sumF d (ks.take k)+1=left)(h:dZ d t (deep+1) m=ur):(ks.all (ko d deep)&&wj (sumF d ks+1≤left))=false:=by
 by_cases a:ko d deep t=tT
 ·have f:m<dN d t:=by
   unfold dZ at h;unfold ko at a;rw[a,Bool.true_and]at h
   simpa using h
  have g:=uV d ks k t c;have i:=Ii d ks (k+1);have e:wj (sumF d ks+1≤left)=false:=by simp;omega
  rw[e,Bool.and_false]
 ·have b:ko d deep t=false:=by simpa using a
  have e:ks.all (ko d deep)=false:=by rw[List.all_eq_false];exact⟨t,J8 c,by simp[b]⟩
  rw[e,Bool.false_and]
theorem Gl{d:Nat}{ks:List ac}{k m deep:Nat}{t:ac}(b:ks[k]?=A t)(a:(ks.take k).all (ko d deep)=tT)(h:dZ d t (deep+1) m=tT):(ks.take (k+1)).all (ko d deep)=tT∧dN d t≤m:=by
 unfold dZ at h;rw[J4]at h;refine⟨?_,by simpa using h.2⟩;rw[Kj,b,List.all_append,a]
 simpa [ko]using h.1
theorem ep{d deep left b:Nat}{T:ac}{w W:J}{x:Int}(a:dZ d T deep left=ur)(c:w.grownBy W (A b))(e:W.heap[b]?=A (r7 #[I U x] 3 (0,0))) :
  kD d T deep left b w (wg (xt ur)) W:=⟨bN a.symm,c,x,e,fun h=>by rw[a]at h;cases h⟩
theorem vM{w:J}{a:Nat}{x:tS}{t:xD}(h:w.heap[a]?=A (r7 #[x] t (0,0)))(y:tS)(o:Obj):((w.setCell ⟨a,0,Y⟩ y).alloc o).heap[a]?=A (r7 #[y] t (0,0)):=by
 have b:=heap_set h 0 y;have c:a<(w.setCell ⟨a,0,Y⟩ y).heap.size:=(JL.1 b).1;rw[iF,oe (by omega)];exact b
theorem oZ(d:Nat)(T:ac)(v:tS)(deep left f B:Nat)(w:J)(D:fN w B d T v)(_hB:B≤w.heap.size)(r:w.heap[f]?=A (r7 #[I U left] 3 (0,0)))(E:left≤4096)
  (t:T.q=0∨16<T.q):vv va 123 #[v,I U deep,vo (A ⟨f,0,Y⟩)] w (kD d T deep left f w):=by
 obtain⟨_,s,rfl,g⟩:=D;obtain⟨p,n,c,rfl⟩:=g.q;have i:dZ d T deep left=false:=by
  have z:bu T=false:=by
   unfold bu;rcases t with h|h
   ·have e:wj (1≤T.q)=false:=by simp;omega
    rw[e];rfl
   ·have e:wj (T.q≤16)=false:=by simp;omega
    rw[e];simp
  unfold dZ;have:okF d T=false:=by
   cases d with
   | zero=>exact z
   | succ d=>show (bu T&&_)=ur;rw[z];rfl
  rw[this];rfl
 have u:=Hd i;have x:f<w.heap.size:=(JL.1 r).1;have F:(0:Int)≤left:=by omega
 have G:(left:Int)≤4096:=by omega
 have y:=Hd (fun W=>zd T.q W t);have j:Kr w (w.alloc (r7 #[I r8 T.q,r9 T.h,I U T.u,I U T.C,O p n c] 232)):=(JO _ w).alloc (JM _) _;obtain⟨H,K,L,M,N⟩:=cells5 (oc w (r7 #[I r8 T.q,r9 T.h,I U T.u,I U T.C,O p n c] 232));obtain⟨k,P⟩:=zz2 j r;clear t g i r j
 go_enter Tryz.func123,Tryz.ntmps123
 go_wp2_with fail
 refine JX (y.o _) ?_;rintro e w1 ⟨rfl,l⟩;have a:=Hd (k.o.trans (l.mono k.o.size));have q:=aa a.o P.o x;have m:f<w1.heap.size:=(JL.1 q).1;have b:Kr w1 (w1.alloc (r7 #[I U 0,I U 0,I U 0,.nilFunc] 253)):=(JO _ w1).alloc (JM _) _;obtain⟨C,Q,R⟩:=zz3 (aa b q m) q (a.o.trans (b.mono a.o.size));have c2:=Kq _ _ 0 _ _ _ C.o;have f2:=aB C.o 0;clear H K L M N l q b;go_wp2_with fail
 go_ret;exact ep u.o (grown_below (ec (aF a.o (A f)) 0 _) ((JO _ _).alloc (JM _) _)) (vM Q.o _ _)
theorem yA{L:Nat}{w:J}{kd:Nat}{fn:tS}(h:t8 L w kd fn):∃(g:FuncId) (caps:Array tS),fn=z6 (.func g) #[] caps∧(caps=#[]∨∃b:Nat,caps=#[vo (A ⟨b,0,Y⟩)])∧(∀(args:Array tS) (w:J),(callFunc g args).run va w=.ok (.enter g args) w)∧
  ∀(W:J) (d B:Nat) (ks:List ac) (v:tS),lU L w W→ax W B d ks v→B≤W.heap.size→ks.length≤20000→vv va g (#[v]++caps) W (aZ (gw kd ks) W):=by
 rcases h with ⟨g,a,e,c⟩|⟨b,a,c⟩
 ·exact⟨g,#[],a,wD Z,e,fun W d B ks v a1 a2 a3 a4=>by simpa using c W d B ks v a1 a2 a3 a4⟩
 ·exact⟨_,_,a,wF ⟨b,Z⟩,enters_of Tryz.func205 (by kernel_rfl) Z,fun W d B ks v a1 a2 a3 a4=>c W d B ks v a1 a2 a3 a4⟩
theorem cells4{w:J}{T:Nat}{a b c d:tS}{t:xD}(h:w.heap[T]?=A (r7 #[a,b,c,d] t (0,0))) :
  w.cell? ⟨T,0,Y⟩=A a∧w.cell? ⟨T,1,Y⟩=A b∧w.cell? ⟨T,2,Y⟩=A c∧w.cell? ⟨T,3,Y⟩=A d:=by
 simp[World.cell?,h]
theorem rr(d:Nat)(en:Hid (∀d',d=d'+1→ED d'))(T:ac)(v:tS)(deep left u B:Nat)(w:J)(hv:fN w B d T v)(ca:B≤u)(hB:B≤w.heap.size)(x:j4 d T)(ht:aI w)(cb:3≠u)
  (hl:w.heap[u]?=A (r7 #[I U left] 3 (0,0))) (gg:1≤deep) (gr:deep≤31) (gD:left≤4096)
  (H:1≤T.q) (K:T.q≤16):vv va 123 #[v,I U deep,vo (A ⟨u,0,Y⟩)] w (kD d T deep left u w):=by
 obtain⟨_,s,rfl,Q⟩:=hv;obtain⟨p,c,rfl,_,bt⟩:=Q.rows;have cR:T.z.length≤20000:=by
  cases d with
  | zero=>rw[Q.1];exact J0 _
  | succ d=>exact x.2.1
 have hz:d=0→T.z=[]:=fun h=>by subst h;exact Q.1
 have eo:u<w.heap.size:=(JL.1 hl).1;have gE:(0:Int)≤left:=by omega
 have gF:(left:Int)≤4096:=by omega
 have ft:(1:Int)≤deep:=by omega
 have fv:(deep:Int)≤31:=by omega
 have R:=Hd (Gg d T deep left hz);have cc:Hid (bu T=(textF (fj T.q).1 T.h.data.toList T.z.length&&(wj ((fj T.q).2.1≤T.u)&&wj (T.u≤(fj T.q).2.2))&&wj (0≤T.C)&&gw T.q T.z)):=by
  show bu T=_
  unfold bu;have e1:wj (1≤T.q)=true:=by simpa using H
  have E:wj (T.q≤16)=true:=by simpa using K
  rw[e1,E,zp _ H K,Cy _ H K,Bool.true_and,Bool.true_and]
 obtain⟨er,_,_⟩:=Ix T.q H K;have cf:=Hd (fun W=>Cn T.q W H K);unfold eI at cf;have cT:=Hd (fun W (hW:aI W)=>ym T.q T.h T.u T.C p T.z.length c (fj T.q).1 W hW x.h er);obtain⟨ch,et,cV,e0,HT,HZ⟩:=zz6 (yi d T hz) Q bt x ht hz;generalize (fj T.q).1=P at *;generalize (fj T.q).2.1=lo at *;generalize (fj T.q).2.2=hi at *;generalize textF P T.h.data.toList T.z.length=tx at *;have cW:Kr w (w.alloc (r7 #[I r8 T.q,r9 T.h,I U T.u,I U T.C,O p T.z.length c] 232)):=(JO _ w).alloc (JM _) _;have ck:=oc w (r7 #[I r8 T.q,r9 T.h,I U T.u,I U T.C,O p T.z.length c] 232);have e4:=Hd ck;obtain⟨b0,b1,b2,b3,b4⟩:=cells5 ck;obtain⟨c0,HL⟩:=zz2 cW hl;clear Q hl cW ck bt x ht hz H K
 go_enter Tryz.func123,Tryz.ntmps123
 go_wp2_with fail
 refine JX (cf.o _) ?_;rintro e w1 ⟨fn,rfl,cl,bb⟩;obtain⟨g,caps,rfl,S,fz,bb⟩:=yA bb;obtain⟨c1,cm⟩:=zz2 bb S;have cn:=aa cl e4.o (by simp);have c3:=Hd (c0.o.trans (cl.mono c0.o.size));have l1:=aa c3.o HL.o eo;have bB:u<w1.heap.size:=(JL.1 l1).1;have gH:w.heap.size<w1.heap.size:=(JL.1 cn).1;have c2:(w1.alloc (r7 #[I U P,I U lo,I U hi,z6 (.func g) #[] caps] 253)).cell? ⟨u,0,Y⟩=A (I U left):=by
  have q:Kr w1 (w1.alloc (r7 #[I U P,I U lo,I U hi,z6 (.func g) #[] caps] 253)):=(JO _ w1).alloc (JM _) _;exact Kq _ _ 0 _ _ _ (aa q l1 bB)
 have f2:(w1.alloc (r7 #[I U P,I U lo,I U hi,z6 (.func g) #[] caps] 253)).frozen? ⟨u,0,Y⟩=false:=by
  have q:Kr w1 (w1.alloc (r7 #[I U P,I U lo,I U hi,z6 (.func g) #[] caps] 253)):=(JO _ w1).alloc (JM _) _;exact aB (aa q l1 bB) 0
 obtain⟨y,j,V⟩:=zz3 (vM l1 (I U ((left:Int)-1)) (r7 #[I U P,I U lo,I U hi,z6 (.func g) #[] caps] 253)) (grown_below (ec (aF c3.o (A u)) 0 (I U ((left:Int)-1))) ((JO _ _).alloc (JM _) (r7 #[I U P,I U lo,I U hi,z6 (.func g) #[] caps] 253))) (grown_below (ec (aF (JO _ w1) (A u)) 0 (I U ((left:Int)-1))) ((JO _ _).alloc (JM _) (r7 #[I U P,I U lo,I U hi,z6 (.func g) #[] caps] 253)));have bd:Hid (((w1.setCell ⟨u,0,Y⟩ (I U ((left:Int)-1))).alloc (r7 #[I U P,I U lo,I U hi,z6 (.func g) #[] caps] 253)).heap[w1.heap.size]?=A (r7 #[I U P,I U lo,I U hi,z6 (.func g) #[] caps] 253 (0,0))):=by
  show _=_
  rw[iF,oj (by simp[World.setCell])]
 have z:Hid (lU (w.heap.size+1) w1 ((w1.setCell ⟨u,0,Y⟩ (I U ((left:Int)-1))).alloc (r7 #[I U P,I U lo,I U hi,z6 (.func g) #[] caps] 253))):=by
  show lU _ _ _
  exact⟨V.o.size,fun b h1 h2=>V.o.block b h2 (by intro e;simp at e;omega)⟩
 have bg:=Hd (ap V.o cn (by intro e;simp at e;omega));clear b0 b1 b2 b3 b4 cl l1 bb S cn;go_upto_region 3 with (fail)
 clear c2 f2;generalize ((w1.setCell ⟨u,0,Y⟩ (I U ((left:Int)-1))).alloc (r7 #[I U P,I U lo,I U hi,z6 (.func g) #[] caps] 253))=w2 at *;have c2:=Kq _ _ 0 _ _ _ y.o;obtain⟨b0,b1,b2,b3,b4⟩:=cells5 bg.o;obtain⟨m0,m1,m2,m3⟩:=cells4 bd.o;have cp:∀(h:(wj (deep≤30)&&wj (1≤left)&&bu T)=ur),dZ d T deep left=false:=fun h=>by
  rw[R.o]
  by_cases hle:1≤left
  ·have e:wj (1≤left)=true:=by simpa using hle
   rw[e,Bool.and_true]at h;rw[Bool.and_comm (bu T),h];simp
  ·have e:wj (sumF (d-1) T.z+1≤left)=false:=by simp;omega
   rw[e];simp
 rw[cc.o]at cp;have L:=Hd cp;clear cp
 by_cases F:deep≤30
 ·have e5:(deep:Int)≤30:=by omega
  by_cases e6:1≤left
  ·have gL:(1:Int)≤left:=by omega
   by_cases C:0≤T.C
   ·by_cases cq:lo≤T.u
    ·by_cases cr:T.u≤hi
     ·have c5:bu T=(tx&&gw T.q T.z):=by
       rw[cc.o];have e1:wj (lo≤T.u)=true:=by simpa using cq
       have E:wj (T.u≤hi)=true:=by simpa using cr
       have e3:wj (0≤T.C)=true:=by simpa using C
       rw[e1,E,e3];simp
      have X:=Hd c5;clear c5;clear cc L;have ad:=HT.o.u j.o (Ne.symm cb);go_wp2_with fail
      refine JX (cT.o w2 ad) ?_;rintro e w3 ⟨rfl,M⟩;have G:=Hd M;have l3:=aa M y.o (JL.1 y.o).1;have x3:=aa M bg.o (JL.1 bg.o).1;have c6:=aa M bd.o (JL.1 bd.o).1;have c7:=Hd (ad.C M);clear b0 b1 b2 b3 b4 c2 m0 m1 m2 m3 M ad;obtain⟨b0,b1,b2,b3,b4⟩:=cells5 x3;obtain⟨m0,m1,m2,m3⟩:=cells4 c6;obtain⟨bl,ct⟩:=zz2 l3 x3;clear l3 x3 c6
      cases tx
      ·have a:dZ d T deep left=false:=by
        rw[R.o,X.o];simp
       have f:=Hd a;clear a;go_wp2_with fail
       go_ret;exact ep f.o (grown_below j.o G.o) bl.o
      ·have l:=c1.o w3 d B T.z (O p T.z.length c) ⟨JU z.o.1 G.o.size,fun b h1 h2=>(G.o.block b (JS h2 z.o.1)).trans (z.o.2 b (by simpa using h1) h2)⟩
        ((et.o.C (below_of_grown j.o ca hB)).C (G.o.mono (JU hB j.o.size))) (JU (JU hB j.o.size) G.o.size) cR
       have D:=Hd l;have af:Hid (bu T=gw T.q T.z):=by show _=_;rw[X.o,Bool.true_and]
       clear l X;generalize gw T.q T.z=kk at *;rcases cm.o with rfl|⟨bq,rfl⟩
       all_goals
        go_wp2_with fail
        refine JX D.o ?_;rintro e w4 ⟨rfl,aq⟩;have c8:=Hd aq;have l4:=aa aq bl.o (JL.1 bl.o).1;have x4:=aa aq ct.o (JL.1 ct.o).1;have e7:=Hd (c7.o.C aq);clear b0 b1 b2 b3 b4 m0 m1 m2 m3 aq;obtain⟨b0,b1,b2,b3,b4⟩:=cells5 x4;have c9:=Hd l4;clear l4 x4;have ar:=Hd (grown_below (grown_below j.o G.o) c8.o)
        cases kk
        ·have a:dZ d T deep left=false:=by
          rw[R.o,af.o];simp
         have f:=Hd a;clear a;go_wp2_with fail
         go_ret;exact ep f.o ar.o c9.o
        ·have bR:Hid (dZ d T deep left=(T.z.all (ko (d-1) deep)&&wj (sumF (d-1) T.z+1≤left))):=by
          show _=_
          have e:wj (deep≤30)=true:=by simpa using F
          rw[R.o,af.o,e];simp
         clear R af D z bg bd y G c8 c7 bl ct cT cf c1;obtain⟨n,hn⟩:=zzy (T.z.length);have HN:=Hd hn;rw[hn]at cR b4 ⊢;clear hn;go_wp2_with fail
         clear b0 b1 b2 b3 b4
         go_loopw [77] (Hn w4 (d-1) T.z deep left u n) (fun i _=>n-(intOf i).toNat)
         case atStart=>exact⟨_,0,left-1,Z,J0 _,Z,aF (JO _ _) _,by rw[c9.o,show ((left:Int)-1)=((left-1:Nat):Int) by omega],by show left-1+0+1=left;omega,Z⟩
         case round =>
          obtain⟨W1,k,m,rfl,hk,rfl,N,a1,hm,a6⟩:=hrel;obtain⟨dd,e8,dg,bm⟩:=zz4 N a1 a6 hm;have cu:Below B w W1:=below_of_grown (ij ar.o N) ca hB;have bn:B≤W1.heap.size:=JU hB (ij ar.o N).size;have gM:(0:Int)≤k:=by omega
          by_cases b5:k<n
          ·obtain⟨t,ht⟩:∃t,T.z[k]?=A t:=⟨T.z[k]'(by rw[HN.o];exact b5),JR (by rw[HN.o];exact b5)⟩;obtain⟨hd,bk,off,rfl,e9,b6⟩:=cV.o k t ht;obtain⟨p',l',c',d0,d1,d2,d3,d4,ba⟩:=b6.node cu e9;have gN:(k:Int)<n:=by omega
           have q:Kr W1 (W1.alloc (r7 #[I r8 t.q,r9 t.h,I U t.u,I U t.C,O p' l' c'] 145)):=(JO _ W1).alloc (JM _) _;have b7:j4 (d-1) t:=by
            have h1:=e0.o;rw[hd]at h1;exact h1.2.2 t (J8 ht)
           have dn:=aa q a1 (JL.1 a1).1;have l:vv va 123 #[wP #[I r8 t.q,r9 t.h,I U t.u,I U t.C,O p' l' c'],I U ((deep:Int)+1),vo (A ⟨u,0,Y⟩)] _ (kD (d-1) t (deep+1) m u _):=
            en.o (d-1) hd t _ (deep+1) m u B _ (ba.C (q.mono bn)) ca (JU bn q.size) b7 ((e7.o.u N (Ne.symm cb)).C q) cb dn (by omega) (by omega) (by omega)
           obtain⟨D,cv,fm⟩:=zz3 l ht q;clear l dn b7 q ba b6 ht cu bn N a1 hm a6 hd;go_wp2_with fail
           refine JX D.o ?_;rintro e w5 ⟨rfl,ds,x5,b8,dt⟩;obtain⟨dv,ef,fr,cy,cA⟩:=zz5 (ij dd.o (ij (aF fm.o (A u)) ds)) b8 dt (right_stop (d:=d-1) (deep:=deep) (left:=left) cv.o bm.o) (Gl (d:=d-1) (m:=m) cv.o dg.o);clear ds b8 dt d0 d1 d2 d3 d4;generalize dZ (d-1) t (deep+1) m=r at *
           cases r
           ·have a:dZ d T deep left=false:=by
             rw[bR.o];exact cy.o (by first|rfl|trivial)
            have f:=Hd a;clear a;go_wp2_with fail
            go_ret;exact ep f.o (ij ar.o dv.o) ef.o
           ·go_wp2_with fail
            refine⟨⟨w5,k+1,m-dN (d-1) t,Z,by omega,by go_num,dv.o,?_,?_,(cA.o (by first|rfl|trivial)).1⟩,by simp[intOf];omega⟩
            ·rw[ef.o,fr.o (by first|rfl|trivial)]
             have:=(cA.o (by first|rfl|trivial)).2
             rw[show ((m:Int)-dN (d-1) t)=((m-dN (d-1) t:Nat):Int) by omega]
            ·have h1:=uV (d-1) T.z k t cv.o;have h2:=(cA.o (by first|rfl|trivial)).2
             have h3:=bm.o;omega
          ·obtain rfl:k=n:=by omega
           have cC:T.z.take k=T.z:=J5 (by rw[HN.o];exact JM _);have b9:dZ d T deep left=true:=by
            rw[bR.o];have h1:=dg.o;have h2:=bm.o;rw[cC]at h1 h2;rw[h1];simp;omega
           obtain⟨eg,fs⟩:=zz2 b9 cC;clear b9 cC hm a6 a1 N cu bn;go_wp2_with fail
           go_ret;refine⟨bN eg.o.symm,ij ar.o dd.o,_,e8.o,fun _=>?_⟩;have h2:=bm.o;rw[fs.o]at h2;rw[ch.o];omega
     ·have E:wj (T.u≤hi)=false:=by simpa using cr
      have a:=L.o (by rw[E];simp);have f:=Hd a;clear a E;have fI:hi<T.u:=by omega
      clear cr;go_wp2_with fail
      go_ret;exact ep f.o j.o y.o
    ·have E:wj (lo≤T.u)=false:=by simpa using cq
     have a:=L.o (by rw[E];simp);have f:=Hd a;clear a E;have fT:T.u<lo:=by omega
     clear cq;go_wp2_with fail
     go_ret;exact ep f.o j.o y.o
   ·have E:wj (0≤T.C)=false:=by simpa using C
    have a:=L.o (by rw[E];simp);have f:=Hd a;clear a E;have gf:T.C<0:=by omega
    clear C;go_wp2_with fail
    go_ret;exact ep f.o j.o y.o
  ·obtain rfl:left=0:=by omega
   have a:=L.o (by simp);have f:=Hd a;clear a;go_wp2_with fail
   go_ret;exact ep f.o j.o y.o
 ·have e5:(30:Int)<deep:=by omega
  have E:wj (deep≤30)=false:=by simpa using F
  have a:=L.o (by rw[E];simp);have f:=Hd a;clear a E F;go_wp2_with fail
  go_ret;exact ep f.o j.o y.o
theorem Cp:∀d,ED d:=by
 intro d
 induction d with
 | zero =>
  intro T v deep left f B w g a hB b l c i m n j
  by_cases k:1≤T.q∧T.q≤16
  ·exact rr 0 (Hd fun o h=>by omega) T v deep left f B w g a hB b l c i m n j k.1 k.2
  ·exact oZ 0 T v deep left f B w g hB i j (by omega)
 | succ d p =>
  intro T v deep left f B w g a hB b l c i m n j
  by_cases k:1≤T.q∧T.q≤16
  ·refine rr (d+1) (Hd fun o h=>?_) T v deep left f B w g a hB b l c i m n j k.1 k.2;have e:o=d:=by omega
   subst e;exact p
  ·exact oZ (d+1) T v deep left f B w g hB i j (by omega)
theorem Gs(d:Nat)(T:ac):jU d T=(T.q==1&&dZ d T 1 4096):=by
 unfold jU dZ;have e:wj (1+dU d T≤31)=wj (dU d T≤30):=by rw[Kg];simp only[oB];omega
 rw[e];simp only[Bool.and_assoc]
theorem oS(d:Nat)(T:ac)(v:tS)(B:Nat)(w:J)(q:fN w B d T v)(hB:B≤w.heap.size)(f:j4 d T)(j:aI w) :
  vv va 95 #[v] w (aZ (jU d T) w):=by
 have g:=q;obtain⟨_,s,rfl,h⟩:=q;obtain⟨p,n,c,rfl⟩:=h.q;obtain⟨t,u,i⟩:=eq w (r7 #[I r8 T.q,r9 T.h,I U T.u,I U T.C,O p n c] 145) (r7 #[I U (4096:Nat)] 3);obtain⟨D,E,F,G,H⟩:=cells5 t;have x:=Hd (Gs d T);have k:=j.lt;obtain⟨a,l⟩:=zz2 (Cp d T _ 1 4096 (w.heap.size+1) B _ (g.C (i.mono hB)) (by omega) (JU hB i.size) f (j.C i) (by omega) u (by omega) (by omega) (by omega)) i;clear t u i h g k j f;generalize jU d T=r at *
 go_enter Tryz.func95,Tryz.ntmps95
 cases y:((T.q:Int)==1)
 ·have b:(T.q==1)=false:=by simp at y ⊢;omega
  have m:=Hd b;clear b a;go_wp2_with fail
  go_ret;exact⟨bN (by rw[x.o,m.o];rfl),l.o⟩
 ·have b:(T.q==1)=true:=by simp at y ⊢;omega
  have m:=Hd b;clear b;go_wp2_with fail
  refine JX a.o ?_;rintro e W ⟨rfl,z,_⟩;have C:=Hd z;clear z;go_wp2_with fail
  go_ret;exact⟨bN (by rw[x.o,m.o];rfl),l.o.trans (below_of_grown C.o (J9 _) l.o.size)⟩
