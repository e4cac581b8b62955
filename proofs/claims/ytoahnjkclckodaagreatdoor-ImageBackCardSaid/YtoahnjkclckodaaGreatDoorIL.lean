/- Parts of one proof, joined; conditions stand in each theorem. -/
import Derived.Test.YtoahnjkclckodaaGreatDoorNR
import Derived.Test.YtoahnjkclckodaaGreatDoorIA
import Derived.Test.YtoahnjkclckodaaGreatDoorID
import Derived.Laws.StructEq
import Derived.StillTailTactics
import Derived.Test.YtoahnjkclckodaaGreatDoorIC
import Derived.Maps.AppendAt
import Derived.Test.YtoahnjkclckodaaGreatDoorIJ
open Go renaming World→J,Calls→vv,Value→tS
open Go.Proofs.Tryz renaming prog→va
open Go.Value renaming agg→wP,int→I,string→r9,func→z6,slice→O,bool→xt,pointer→vo
open Go.IntKind renaming u8→r8,i64→U
open Go.Obj renaming cells→r7
open Go.Ending renaming returned→wg
open Option renaming some→A,none→Y
open Decidable renaming decide→wj
namespace Go.Proofs.YtoahnjkclckodaaGreatDoor
set_option maxHeartbeats 2000000
set_option maxRecDepth 100000
open Go.RowKit
theorem GY(v:aE)(w:J)(c:v.h.size≤maxLen):vv va 100 #[wP #[I r8 v.q,I U v.u,r9 v.h]] w (aZ (!dV v) w):=by
 have d:Kr w (w.alloc (r7 #[I r8 v.q,I U v.u,r9 v.h] 88)):=(JO _ w).alloc (JM _) _;obtain⟨e,f⟩:=zz2 (AP v (w.alloc (r7 #[I r8 v.q,I U v.u,r9 v.h] 88)) c) d;clear d c
 go_enter Tryz.func100,Tryz.ntmps100
 go_wp2_with fail
 refine e.o.mono ?_;rintro g W2 ⟨rfl,a⟩;have b:=Hd (f.o.trans (a.mono f.o.size));clear a e;go_wp2_with fail
 go_ret;exact⟨Z,b.o⟩
theorem G5(l:List aE)(v:tS)(w:J)(E:bK.h w (fun b=>b<w.heap.size) l v) :
  vv va 132 #[v,z6 (.func 100) #[] #[]] w (fun e w'=>e=wg (I U (eK (ir (fun x=>!dV x) l 0)))∧Kr w w'):=by
 obtain⟨p,c,G⟩:=Rd.q E;have r:=Rd.sb E;subst G;obtain⟨n,H⟩:=zzy (l.length);have R:=Hd (fun W (T:Kr w W)=>Rd.sm E (fun _ h=>h) T);obtain⟨q,d⟩:∃q:aE→Bool,q=fun x=>!dV x:=⟨_,rfl⟩
 have K:Hid (∀x,q x = !dV x):=fun x=>by rw[d]
 rw[←d];rw[H]at R r ⊢;have L:=Hd H;have V:(n:Int)≤9223372036854775807:=by unfold maxLen at r;omega
 clear E H d r
 go_enter Tryz.func132,Tryz.ntmps132
 go_wp2
 go_loopw [8] (Dt w n l q) (fun i _=>n-(intOf i).toNat)
 case atStart=>exact⟨0,J0 _,Z,JO _ _,fun j z X=>by omega⟩
 case round =>
  obtain⟨k,hk,rfl,F,t⟩:=hrel;have ad:(0:Int)≤k:=by omega
  obtain⟨M,s⟩:=zz2 F t;clear t
  by_cases N:k<n
  ·have af:(k:Int)<n:=by omega
   obtain⟨e,he⟩:∃e,l[k]?=A e:=⟨_,JR (by rw[L.o];exact N)⟩;have f:=R.o wr F;have u:=Rd.X f he;rw[L.o]at u;obtain⟨b,off,cap,vs,P,_,_,_,_,y,a⟩:=u;injection P with e1 _ e3
   subst e1;subst e3;obtain⟨rfl,g⟩:=dX.1 y;have c0:wr.cell? ⟨b,off+k*3,Y⟩=A (I r8 e.q):=a 0 _ Z;have c1:wr.cell? ⟨b,off+k*3+1,Y⟩=A (I U e.u):=a 1 _ Z;have c2:wr.cell? ⟨b,off+k*3+2,Y⟩=A (r9 e.h):=a 2 _ Z;have S:=Hd (GY e wr g.2.2);have B:Hid (l[k]?=A e):=he;rw[←K.o e]at S;clear f y a he F g;go_wp2_with fail
   refine S.o.mono ?_;rintro e2 w1 ⟨rfl,C⟩;have D:=Hd (M.o.trans (C.mono M.o.size));clear C c0 c1 c2
   cases d:q e with
   | true =>
    have Q:=Hd (sh q l 0 k e B.o d s.o);clear d;go_wp2_with fail
    go_ret;exact⟨by rw[Q.o,Nat.zero_add];rfl,D.o⟩
   | false =>
    have HQ:=Hd d;clear d;go_wp2_with fail
    exact⟨⟨k+1,by omega,by go_num,D.o,fun j z X m=>by
     by_cases h:j=k
     ·subst h;rw[B.o]at m;injection m with m
      rw[←m];exact HQ.o
     ·exact s.o j z (by omega) m⟩,by simp[intOf];omega⟩
  ·have Q:Hid (ir q l 0=Y):=pW _ l 0 (fun j z m=>s.o j z (by
    have:=(J3.1 m).1;rw[L.o]at this
    omega) m)
   clear F;go_wp2_with fail
   go_ret;exact⟨by rw[Q.o];rfl,M.o⟩
theorem EU(l:List aE)(v:tS)(w:J)(g:bK.h w (fun b=>b<w.heap.size) l v) :
  vv va 99 #[v,z6 (.func 100) #[] #[]] w (aZ (!(l.all dV)) w):=by
 have d:=Hd (G5 l v w g);rw[←xc dV l 0];obtain⟨p,c,f⟩:=Rd.q g;obtain⟨n,i⟩:=zzy (l.length);rw[i]at f;subst f;clear g i
 cases hi:ir (fun x=>!dV x) l 0 with
 | none =>
  rw[hi]at d;have d:Hid (vv va 132 #[O p n c,z6 (.func 100) #[] #[]] w (fun e w'=>e=wg (I U (-1))∧Kr w w')):=d;clear hi
  go_enter Tryz.func99,Tryz.ntmps99
  go_wp2_with fail
  refine d.o.mono ?_;rintro e w1 ⟨rfl,a⟩;have h:=Hd a;clear a d;go_wp2_with fail
  go_ret;exact⟨Z,h.o⟩
 | some k =>
  rw[hi]at d;have d:Hid (vv va 132 #[O p n c,z6 (.func 100) #[] #[]] w (fun e w'=>e=wg (I U (k:Int))∧Kr w w')):=d;have j:(0:Int)≤k:=by omega
  clear hi
  go_enter Tryz.func99,Tryz.ntmps99
  go_wp2_with fail
  refine d.o.mono ?_;rintro e w1 ⟨rfl,a⟩;have h:=Hd a;clear a d;go_wp2_with fail
  go_ret;exact⟨Z,h.o⟩
theorem IX(f:ai)(v:tS)(w:J)(_hI:I64 f.u)(j:bK.h w (fun b=>b<w.heap.size) f.c v):vv va 74 #[I U f.u,v] w (aZ (kU f) w):=by
 have k:=Hd (EU f.c v w j);have d:=Rd.sb j;obtain⟨p,c,g⟩:=Rd.q j;obtain⟨n,l⟩:=zzy (f.c.length);rw[l]at g d;subst g;have q:kU f=(wj (0≤f.u)&&wj (f.u<32)&&wj (n≤6)&&f.c.all dV):=by rw[←l];rfl
 rw[q];obtain⟨ty,h⟩:=zzy (f.u);rw[h]at _hI ⊢;obtain⟨b,r⟩:=zzy (f.c.all dV);rw[r]at k ⊢;have s:(n:Int)≤9223372036854775807:=by unfold maxLen at d;omega
 clear j l q h r d;have m:Hid (Kr w w):=JO _ _
 by_cases y:0≤ty
 ·by_cases z:ty<32
  ·by_cases C:(n:Int)≤6
   ·have u:wj (0≤ty)=true:=by simpa using y
    have x:wj (ty<32)=true:=by simpa using z
    have a:wj (n≤6)=true:=by simp;omega
    rw[u,x,a,Bool.true_and,Bool.true_and,Bool.true_and];clear u x a
    go_enter Tryz.func74,Tryz.ntmps74
    go_wp2_with fail
    refine k.o.mono ?_;rintro e w1 ⟨rfl,i⟩;have B:=Hd i;clear i k;go_wp2_with fail
    go_ret;exact⟨by simp,B.o⟩
   ·have a:wj (n≤6)=false:=by simp;omega
    rw[a,Bool.and_false,Bool.false_and];clear a
    go_enter Tryz.func74,Tryz.ntmps74
    go_wp2_with fail
    go_ret;exact⟨Z,m.o⟩
  ·have a:wj (ty<32)=false:=by simp;omega
   rw[a,Bool.and_false,Bool.false_and,Bool.false_and];clear a
   go_enter Tryz.func74,Tryz.ntmps74
   go_wp2_with fail
   go_ret;exact⟨Z,m.o⟩
 ·have a:wj (0≤ty)=false:=by simp;omega
  rw[a,Bool.false_and,Bool.false_and,Bool.false_and];clear a
  go_enter Tryz.func74,Tryz.ntmps74
  go_wp2_with fail
  go_ret;exact⟨Z,m.o⟩
theorem AA(a b:aE)(w:J):(Op.equalIn 10000 88 (wP #[I r8 a.q,I U a.u,r9 a.h]) (wP #[I r8 b.q,I U b.u,r9 b.h])).run va w=.ok (lk a b) w:=by
 have d:Tryz.prog.underlying 88=A (.struct (Tryz.prog.fieldsOf 88)):=by kernel_rfl
 rw[show (10000:Nat)=9999+1 from rfl,run_equalIn_agg w 9999 88 _ _ d (by kernel_rfl)];simp only[Program.fieldsOf,Tryz.underlying88];unfold lk
 go_simp
 have e:(a.h.data==b.h.data)=wj (a.h.toList=b.h.toList):=by
  rw[J1,J1]
  by_cases h:a.h.data=b.h.data
  ·simp[h]
  ·have c:¬a.h.data.toList=b.h.data.toList:=fun k=>h (by rw[←Array.toArray_toList (xs:=a.h.data),k])
   simp[h,c]
 rw[e]
 by_cases f:a.q=b.q<;>by_cases c:a.u=b.u<;>by_cases g:a.h.toList=b.h.toList<;>simp[f,c,g]
theorem zP{a b:List aE}(c:a.length=b.length)(h:∀(j:Nat) x y,j<a.length→a[j]?=A x→b[j]?=A y→lk x y=true):iK a b=true:=by
 unfold iK;rw[J4,Kh];refine⟨by simpa using c,fun p d=>?_⟩;obtain⟨i,hi⟩:=List.getElem?_of_mem d;rw[List.getElem?_zip_eq_some]at hi;exact h i _ _ (J3.1 hi.1).1 hi.1 hi.2
theorem Cv{a b:List aE}(c:a.length≠b.length):iK a b=false:=by
 unfold iK;have:(a.length==b.length)=false:=by simpa using c
 rw[this];rfl
theorem Bm{a b:List aE}{k:Nat}{x y:aE}(c:a[k]?=A x)(d:b[k]?=A y)(h:lk x y=false):iK a b=false:=by
 unfold iK;rw[Bool.and_eq_false_iff]
 right
 rw[List.all_eq_false];exact⟨(x,y),J8 (List.getElem?_zip_eq_some.2 ⟨c,d⟩),by simp[h]⟩
def JB(w:J) (n:Nat) (a b:List aE) (i:tS) (W:J):Prop:=∃(c:J) (k:Nat),c=W∧k≤n∧i=I U (k:Int)∧Kr w c∧∀(j:Nat) x y,j<k→a[j]?=A x→b[j]?=A y→lk x y=true
theorem B7(a b:List aE)(u v:tS)(w:J)(hu:bK.h w (fun b=>b<w.heap.size) a u)(F:bK.h w (fun b=>b<w.heap.size) b v):vv va 104 #[u,v] w (aZ (iK a b) w):=by
 obtain⟨p,c,X⟩:=Rd.q hu;obtain⟨q,c',ad⟩:=Rd.q F;have t:=Rd.sb hu;have z:=Rd.sb F;subst X;subst ad;obtain⟨n,G⟩:=zzy (a.length);obtain⟨m,hm⟩:=zzy (b.length);have HU:=Hd (fun W (hW:Kr w W)=>Rd.sm hu (fun _ h=>h) hW);have HV:=Hd (fun W (hW:Kr w W)=>Rd.sm F (fun _ h=>h) hW);rw[G]at HU t ⊢;rw[hm]at HV z ⊢;have ba:(n:Int)≤9223372036854775807:=by unfold maxLen at t;omega
 have bb:(m:Int)≤9223372036854775807:=by unfold maxLen at z;omega
 by_cases H:n=m
 ·subst H;obtain⟨V,HM⟩:=zz2 G hm;clear hu F G t hm z
  go_enter Tryz.func104,Tryz.ntmps104
  go_wp2
  go_loopw [13] (JB w n a b) (fun i _=>n-(intOf i).toNat)
  case atStart=>exact⟨_,0,Z,J0 _,Z,JO _ _,fun j _ _ h=>absurd h (Nat.not_lt_zero _)⟩
  case round =>
   obtain⟨f,k,rfl,hk,rfl,E,K⟩:=hrel;have L:=Hd K;clear K
   by_cases M:k<n
   ·obtain⟨x,N⟩:∃x,a[k]?=A x:=⟨_,JR (by rw[V.o];exact M)⟩;obtain⟨y,P⟩:∃y,b[k]?=A y:=⟨_,JR (by rw[HM.o];exact M)⟩;have Q:=Rd.X (HU.o f E) N;rw[V.o]at Q;obtain⟨b1,off,cap,vs,af,_,_,_,_,R,e⟩:=Q;injection af with e1 _ e3
    subst e1;subst e3;have C:=Rd.X (HV.o f E) P;rw[HM.o]at C;obtain⟨b2,g,a6,bd,S,_,_,_,_,D,d⟩:=C;injection S with aq _ ar
    subst aq;subst ar;obtain⟨rfl,_⟩:=dX.1 R;obtain⟨rfl,_⟩:=dX.1 D;have d0:f.cell? ⟨b1,off+k*3,Y⟩=A (I r8 x.q):=e 0 _ Z;have d1:f.cell? ⟨b1,off+k*3+1,Y⟩=A (I U x.u):=e 1 _ Z;have d2:f.cell? ⟨b1,off+k*3+2,Y⟩=A (r9 x.h):=e 2 _ Z;have e0:f.cell? ⟨b2,g+k*3,Y⟩=A (I r8 y.q):=d 0 _ Z;have e1:f.cell? ⟨b2,g+k*3+1,Y⟩=A (I U y.u):=d 1 _ Z;have e2:f.cell? ⟨b2,g+k*3+2,Y⟩=A (r9 y.h):=d 2 _ Z;have T:Kr f f.drew:=(JO _ f).drew;have B:=Hd (E.trans (T.mono E.size));have bg:(0:Int)≤k:=by omega
    have bk:(k:Int)<n:=by omega
    obtain⟨HX,HY⟩:=zz2 N P;have a1:=AA x y;obtain⟨s,hs⟩:=zzy (lk x y);rw[hs]at a1;have HS:=Hd hs;clear R D e d N P T E hs
    go_wp2
    go_still_tail 8,(by kernel_rfl)
    change wpList _ _ _ _ _ f.drew;generalize f.drew=W2 at *;clear d0 d1 d2 e0 e1 e2
    cases s with
    | true =>
     go_wp2_with fail
     refine⟨⟨_,k+1,Z,by omega,by go_num,B.o,fun j x' y' hj l r=>?_⟩,by simp[intOf];omega⟩
     by_cases h:j=k
     ·subst h;rw[HX.o]at l;rw[HY.o]at r;injection l with l
      injection r with r
      rw[←l,←r];exact HS.o
     ·exact L.o j x' y' (by omega) l r
    | false =>
     go_wp2_with fail
     go_ret;exact⟨by rw[Bm HX.o HY.o HS.o];rfl,B.o⟩
   ·obtain rfl:k=n:=by omega
    have B:=Hd E;clear E
    go_wp2
    go_ret;exact⟨by rw[zP (V.o.trans HM.o.symm) (fun j x y hj N P=>L.o j x y (by rw[V.o]at hj;exact hj) N P)];rfl,B.o⟩
 ·have bl:(n:Int)≠m:=by omega
  have hf:iK a b=false:=Cv (by rw[G,hm];exact H);rw[hf];have h0:Hid (Kr w w):=JO _ _;clear hu F G t hm z hf
  go_enter Tryz.func104,Tryz.ntmps104
  go_wp2_with fail
  go_ret;exact⟨Z,h0.o⟩
theorem o0{W b W2:J}{g:Nat}(a:Kr W b)(h:b.grownBy W2 (A g))(c:W.heap.size≤g):Kr W W2:=
 ⟨h.os.trans a.os,h.tape.trans a.tape,h.output.trans a.output,JU a.size h.size,fun i hi=>(h.block i (JS hi a.size) (fun e=>by injection e with e;omega)).trans (a.block i hi)⟩
theorem GQ{α:Type}{r:Rd α}{w:J}{F:Nat→Prop}{xs:List α}{b off n c:Nat}(h:r.h w F xs (O (A ⟨b,off,Y⟩) n c))(x:xs.length=n)(m:xs≠[]):∃us:List tS,r.z w F xs us∧∀(j:Nat) u,us[j]?=A u→w.cell? ⟨b,off+j,Y⟩=A u:=by
 rcases h with ⟨h,_⟩|⟨b',i,cap,_,_,_,_,_,e,o⟩
 ·exact absurd h m
 ·injection e with e _ _
  injection e with e
  injection e with p q
  subst p;subst q;have key:∀k≤xs.length,∃us:List tS,r.z w F (xs.take k) us∧∀(j:Nat) u,us[j]?=A u→w.cell? ⟨b,off+j,Y⟩=A u:=by
   intro k
   induction k with
   | zero=>intro _;exact⟨[],by simpa using Rd.tv,fun j u a=>by simp at a⟩
   | succ k s =>
    intro y;obtain⟨us,d,f⟩:=s (by omega);have l:xs[k]?=A (xs[k]'(by omega)):=JR (by omega);obtain⟨vs,t,v⟩:=o k _ l;have e:xs.take (k+1)=xs.take k++[xs[k]'(by omega)]:=by rw[Kj,l];rfl
    refine⟨us++vs,by rw[e];exact Rd.th d t,fun j u a=>?_⟩;have z:us.length=k*r.n:=by rw[d.1,List.length_take,Nat.min_eq_left (by omega)]
    by_cases g:j<us.length
    ·rw[Kl g]at a;exact f j u a
    ·rw[Kd (by omega)]at a;have:=v _ _ a
     rwa [show off+k*r.n+(j-us.length)=off+j by omega]at this
  obtain⟨us,d,f⟩:=key xs.length (JM _);rw[List.take_length]at d;exact⟨us,d,f⟩
theorem Fz{α:Type}{r:Rd α}{w:J}{F:Nat→Prop}{xs:List α}{us:List tS}(h:r.z w F xs us)(b:0<r.n):∀u∈us,u.oneCell'=true:=by
 intro u hu;obtain⟨j,c⟩:=List.getElem?_of_mem hu;have a:=(J3.1 c).1;rw[h.1]at a;have e:j / r.n<xs.length:=(Nat.div_lt_iff_lt_mul b).2 a;obtain⟨vs,d,f⟩:=h.2 (j / r.n) _ (JR e);have hm:j % r.n<vs.length:=by rw[r.len d];exact Nat.mod_lt _ b
 have:=f (j % r.n) _ (JR hm);rw[Nat.mul_comm,Nat.div_add_mod,c]at this;injection this with this
 rw[this];exact r.one d _ (List.getElem_mem hm)
theorem Bz(l:List aE)(v:tS)(W:J)(B:bK.h W (fun b=>b<W.heap.size) l v)(hn:l.length≤1000000) :
  vv va 105 #[v] W fun e W'=>∃D,e=wg D∧Kr W W'∧bK.h W' (aW W W') l D:=by
 obtain⟨p,c,N⟩:=Rd.q B;subst N
 cases p with
 | none =>
  have E:l=[]:=by
   rcases B with ⟨h,_⟩|⟨_,_,_,_,_,_,_,_,e,_⟩
   ·exact h
   ·cases e
  subst E;have hb:Hid (Kr W W):=JO _ _;have hq:∀(c:Nat) (W:J),(binOp .eql 45 (O Y 0 c) (O Y 0 0)).run va W=.ok (xt true) W:=fun c W=>Lib.run_eql_slice_nil_nil W 0 c Tryz.underlying45
  clear B hn
  go_enter Tryz.func105,Tryz.ntmps105
  go_wp2_with fail
  go_ret;exact⟨_,Z,hb.o,Rd.tk⟩
 | some a =>
  obtain⟨n,m⟩:=zzy (l.length);have hq:∀(a:Addr) (n c:Nat) (W:J),(binOp .eql 45 (O (A a) n c) (O Y 0 0)).run va W=.ok (xt false) W:=fun a n c W=>Lib.run_eql_slice_some_nil W a n c Tryz.underlying45
  obtain⟨ti,P,Q,R,S⟩:=info_parts ri;obtain⟨us,q,f⟩:∃us:List tS,bK.z W (fun b=>b<W.heap.size) l us∧∀(j:Nat) u,us[j]?=A u→W.cell? (a.add j)=A u:=by
   by_cases E:l=[]
   ·subst E;exact⟨[],Rd.tv,fun j u C=>by simp at C⟩
   ·rcases id B with ⟨h,_⟩|⟨b',aq,cap,_,_,_,_,_,e,_⟩
    ·exact absurd h E
    ·injection e with e _ _
     injection e with e
     subst e;obtain⟨us,h1,h2⟩:=GQ B Z E;exact⟨us,h1,fun j u C=>by rw[Addr.add_mid];exact h2 j u C⟩
  have w:=Fz q (by decide);have hlen:us.length=n*3:=by rw[q.1,m];rfl
  rw[m]at hn ⊢;obtain⟨z,s⟩:=zzx (W.alloc (r7 #[] 88));have t:Kr W z:=by rw[s];exact (JO _ W).alloc (JM _) _
  have F:z.heap[W.heap.size]?=A (r7 #[] 88 (0,0)):=by rw[s];exact oc W _
  have k:z.ownsRow W.heap.size 88 3 (O (A ⟨W.heap.size,0,Y⟩) 0 0) 0 []:=⟨Z,Or.inr ⟨_,0,#[],Z,JM _,F,JM _,J0 _,Z,Z⟩⟩;have T:Hid (∀j u,us[j]?=A u→z.cell? (a.add j)=A u):=fun j u C=>(t.cell (World.block_lt_of_cell? _ _ (f j u C))).trans (f j u C)
  obtain⟨G,V,X,H,K,L⟩:=zz6 k t s hlen w q;have ad:Hid (W.heap.size≤z.heap.size):=t.size;have af:=Hd m;clear B m q f w hlen s t F k
  go_enter Tryz.func105,Tryz.ntmps105
  go_wp2_with (at_builtin;go_must (change wpList _ _ _ _ _ (W.alloc (r7 #[] 88));rw[←X.o];refine wpList_append_own_at _ Z (.tmp 5) (.tmp 6) 45 Z W.heap.size 88 ti _ 3 32 Tryz.underlying45 P Q R S Z (by decide) (O (A ⟨W.heap.size,0,Y⟩) 0 0) 0 [] Z G.o a n c us Z H.o T.o K.o (by unfold maxLen;omega) (by omega) ad.o ?_);intro v9 W2 d y _ _)
  have M:=o0 V.o y (JM _);have HO:Hid (∃D,wg v9=wg D∧Kr W W2∧bK.h W2 (aW W W2) l D):=by
   refine⟨v9,Z,M,Rd.row_own (r:=bK) (e:=88) (us:=us) (base:=0) ?_ ?_ (fun g hg=>aP d g hg)⟩
   ·rw[af.o];rw[Nat.zero_add,List.nil_append]at d;exact ownsRow_base d (J0 _)
   ·exact⟨L.o.1,fun i x hx=>by
     obtain⟨vs,p1,p2⟩:=L.o.2 i x hx;obtain⟨q1,q2⟩:=dX.1 p1
     exact⟨vs,dX.2 ⟨q1,q2⟩,p2⟩⟩
  clear M d y;go_wp2_with fail
  go_ret;exact HO.o
theorem Ap(f:ai)(v:tS)(W:J)(P:I64 f.id∧I64 f.u)(D:bK.h W (fun b=>b<W.heap.size) f.c v)(hn:f.c.length≤1000000) :
  vv va 76 #[wP #[I U f.id,I U f.u,v]] W fun e W'=>∃E F G,e=wg (wP #[E,F,G])∧Kr W W'∧aG.at_ W' (aW W W') f [E,F,G]:=by
 obtain⟨p,c,Q⟩:=Rd.q D;obtain⟨m,hm⟩:=zzy (f.c.length);rw[hm]at Q;subst Q;obtain⟨q,a⟩:=zzx ((W.alloc (r7 #[I U f.id,I U f.u,O p m c] 47)).alloc (r7 #[I U 0,I U 0,O Y 0 0] 47));obtain⟨j,k,_⟩:=bc W (r7 #[I U f.id,I U f.u,O p m c] 47) (r7 #[I U 0,I U 0,O Y 0 0] 47);rw[←a]at j k;have h:Kr W q:=by rw[a];exact ((JO _ W).alloc (JM _) _).alloc (by rw[o3];omega) _
 have s:q.heap.size=W.heap.size+2:=by rw[a];simp
 obtain⟨R,i,l,n,t,S,u⟩:=zz7 (Bz f.c _ q (Rd.sI (fun x (H:x<W.heap.size)=>JS H h.size) (Rd.sv (fun x H o K=>(h.block x H).trans K) D)) hn) j k h a P s;have HM:=Hd hm;clear h j k a D s P hm
 go_enter Tryz.func76,Tryz.ntmps76
 go_upto_region 1 with fail
 change Code.wp _ _ _ _ ((W.alloc (r7 #[I U f.id,I U f.u,O p m c] 47)).alloc (r7 #[I U 0,I U 0,O Y 0 0] 47));rw[←t.o];clear t;obtain⟨T,X,x2,_⟩:=aL i.o;go_wp2_with fail
 refine R.o.mono ?_;rintro e W2 ⟨v',rfl,d,g⟩;obtain⟨p',c',w⟩:=Rd.q g;rw[HM.o]at w;subst w;have ad:=d.size;have y:=aa d i.o (JL.1 i.o).1;have z:=aa d l.o (JL.1 l.o).1;obtain⟨L,B,M⟩:=zz3 y z (n.o.trans (d.mono n.o.size));have C:Hid (∀V,(∀b,aW q W2 b→V.heap[b]?=W2.heap[b]?)→W2.heap.size≤V.heap.size→aG.at_ V (aW W V) f [I U f.id,I U f.u,O p' m c']):=fun V hV N =>bW.2 ⟨S.o.1,S.o.2,_,Z,Rd.sI (fun b r=>⟨JU (by have:=u.o;omega) r.1,JS r.2 N⟩) (Rd.sv (fun b r o K=>(hV b r).trans K) g)⟩
 clear g d y z T X x2 R i l n;obtain⟨T,X,x2,_,_,f2⟩:=aL L.o;obtain⟨E,F,G,g0,g1,g2⟩:=aL B.o;go_wp2_with fail
 have hA:(W2.setCell ⟨W.heap.size,2,Y⟩ (O p' m c')).heap[W.heap.size+1]?=A (r7 #[I U 0,I U 0,O Y 0 0] 47 (0,0)):=(oA _ _ _ _ (by show W.heap.size+1≠W.heap.size;omega)).trans B.o;refine fx Tryz.results76 (by simp[go_sem]) (by simp[go_sem]) Z (pL hA _ _ _) ⟨_,_,_,Z,?_,?_⟩
 ·exact (((M.o.setCell (p:=⟨W.heap.size,2,Y⟩) (JM _) _).setCell (p:=⟨W.heap.size+1,0,Y⟩) (J9 _) _).setCell (p:=⟨W.heap.size+1,1,Y⟩) (J9 _) _).setCell (p:=⟨W.heap.size+1,2,Y⟩) (J9 _) _
 ·refine C.o _ (fun b r=>?_) (by simp[World.setCell]);have h1:=r.1;have h2:=u.o;rw[oA _ _ _ _ (by show b≠W.heap.size+1;omega),oA _ _ _ _ (by show b≠W.heap.size+1;omega),oA _ _ _ _ (by show b≠W.heap.size+1;omega),oA _ _ _ _ (by show b≠W.heap.size;omega)]
def j5(f g:ai):Bool:=g.u==f.u&&iK g.c f.c
theorem xI{α:Type}(q:α→Bool):∀(l:List α) (m:Nat),(ir q l m).isSome=l.any q
 | [],_=>rfl
 | x::l,m=>by
  unfold ir;rw[List.any_cons]
  cases a:q x with
  | true=>simp
  | false=>simp only[Ka,oF,Bool.false_or];exact xI q l (m+1)
def tB(w:J) (a T2:Nat) (f:ai):Prop:=w.cell? ⟨a,0,Y⟩=A (I U f.u)∧∃v,w.cell? ⟨T2,0,Y⟩=A v∧bK.h w (fun b=>b<w.heap.size) f.c v
theorem tB.C{w w':J}{d T2:Nat}{f:ai}(h:tB w d T2 f)(a:Kr w w'):tB w' d T2 f:=by
 obtain⟨e,v,g,i⟩:=h;exact⟨js a e,v,js a g,Rd.sI (fun b (c:b<w.heap.size)=>JS c a.size) (Rd.sv (fun x j o k=>(a.block x j).trans k) i)⟩
theorem Eu(f g:ai)(s:tS)(D T2:Nat)(w:J)(E:tB w D T2 f)(u:bK.h w (fun b=>b<w.heap.size) g.c s) :
  vv va 103 #[wP #[I U g.id,I U g.u,s],vo (A ⟨D,0,Y⟩),vo (A ⟨T2,0,Y⟩)] w (aZ (j5 f g) w):=by
 obtain⟨p,c,j⟩:=Rd.q u;obtain⟨m,hm⟩:=zzy (g.c.length);rw[hm]at j;subst j;obtain⟨w1,h⟩:=zzx (w.alloc (r7 #[I U g.id,I U g.u,O p m c] 47));have l:Kr w w1:=by rw[h];exact (JO _ w).alloc (JM _) _
 have r:w1.heap[w.heap.size]?=A (r7 #[I U g.id,I U g.u,O p m c] 47 (0,0)):=by rw[h];exact oc w _
 obtain⟨K,v,L,y⟩:=E.C l;obtain⟨q,d,j⟩:=Rd.q y;have z:=Hd (B7 g.c f.c _ _ w1 (Rd.sI (fun b (i:b<w.heap.size)=>JS i l.size) (Rd.sv (fun x r o G=>(l.block x r).trans G) u)) y);obtain⟨k,F⟩:=zzy (f.c.length);rw[F]at j;subst j;obtain⟨B,a⟩:=zz2 l h;obtain⟨M,H,x2,_⟩:=aL r;clear E u hm l h r y F
 by_cases t:g.u=f.u
 ·have n:j5 f g=iK g.c f.c:=by unfold j5;rw[t];simp
  rw[n];rw[t]at H a ⊢;clear n t
  go_enter Tryz.func103,Tryz.ntmps103
  go_upto_region 1 with fail
  change Code.wp _ _ _ _ (w.alloc (r7 #[I U g.id,I U f.u,O p m c] 47));rw[←a.o];clear a;go_wp2_with fail
  refine z.o.mono ?_;rintro e N ⟨rfl,i⟩;have C:=Hd (B.o.trans (i.mono B.o.size));clear i z;go_wp2_with fail
  go_ret;exact⟨Z,C.o⟩
 ·have n:j5 f g=false:=by unfold j5;simp[t]
  rw[n];clear n z
  go_enter Tryz.func103,Tryz.ntmps103
  go_upto_region 1 with fail
  change Code.wp _ _ _ _ (w.alloc (r7 #[I U g.id,I U g.u,O p m c] 47));rw[←a.o];clear a;go_wp2_with fail
  go_ret;exact⟨Z,B.o⟩
theorem EE(f:ai)(l:List ai)(v:tS)(M T2:Nat)(w:J)(ha:tB w M T2 f)(L:aG.h w (fun b=>b<w.heap.size) l v) :
  vv va 102 #[v,z6 (.func 103) #[] #[vo (A ⟨M,0,Y⟩),vo (A ⟨T2,0,Y⟩)]] w (fun e w'=>e=wg (I U (eK (ir (j5 f) l 0)))∧Kr w w'):=by
 obtain⟨p,c,N⟩:=Rd.q L;have t:=Rd.sb L;subst N;obtain⟨n,P⟩:=zzy (l.length);have HV:=Hd (fun W (Q:Kr w W)=>Rd.sm L (fun _ h=>h) Q);have HA:=Hd (fun W (Q:Kr w W)=>ha.C Q);obtain⟨q,d⟩:∃q:ai→Bool,q=j5 f:=⟨_,rfl⟩;have R:Hid (∀x,q x=j5 f x):=fun x=>by rw[d]
 rw[←d];rw[P]at HV t ⊢;have S:=Hd P;have ad:(n:Int)≤9223372036854775807:=by unfold maxLen at t;omega
 clear L P d t ha
 go_enter Tryz.func102,Tryz.ntmps102
 go_wp2
 go_loopw [8] (Dt w n l q) (fun i _=>n-(intOf i).toNat)
 case atStart=>exact⟨0,J0 _,Z,JO _ _,fun j z hj=>by omega⟩
 case round =>
  obtain⟨k,hk,rfl,B,C⟩:=hrel;have af:(0:Int)≤k:=by omega
  obtain⟨T,u⟩:=zz2 B C;clear C
  by_cases V:k<n
  ·have aq:(k:Int)<n:=by omega
   obtain⟨e,he⟩:∃e,l[k]?=A e:=⟨_,JR (by rw[S.o];exact V)⟩;have g:=HV.o wr B;have D:=Rd.X g he;rw[S.o]at D;obtain⟨b,off,cap,vs,X,_,_,_,_,E,a⟩:=D;injection X with e1 _ e3
   subst e1;subst e3;obtain⟨_,_,sl,rfl,y⟩:=bW.1 E;obtain⟨p6,c6,r⟩:=Rd.q y;have HK:=Hd (Eu f e _ M T2 wr (HA.o wr B) (Rd.sI (fun b (h:b<w.heap.size)=>JS h B.size) y));obtain⟨m6,F⟩:=zzy (e.c.length);rw[F]at r;subst r;have c0:wr.cell? ⟨b,off+k*3,Y⟩=A (I U e.id):=a 0 _ Z;have c1:wr.cell? ⟨b,off+k*3+1,Y⟩=A (I U e.u):=a 1 _ Z;have c2:wr.cell? ⟨b,off+k*3+2,Y⟩=A (O p6 m6 c6):=a 2 _ Z;have G:Hid (l[k]?=A e):=he;rw[←R.o e]at HK;clear g E a he B y F;go_wp2_with fail
   refine HK.o.mono ?_;rintro e2 w1 ⟨rfl,H⟩;have K:=Hd (T.o.trans (H.mono T.o.size));clear H c0 c1 c2
   cases d:q e with
   | true =>
    have HH:=Hd (sh q l 0 k e G.o d u.o);clear d;go_wp2_with fail
    go_ret;exact⟨by rw[HH.o,Nat.zero_add];rfl,K.o⟩
   | false =>
    have HQ:=Hd d;clear d;go_wp2_with fail
    exact⟨⟨k+1,by omega,by go_num,K.o,fun j z hj s=>by
     by_cases h:j=k
     ·subst h;rw[G.o]at s;injection s with s
      rw[←s];exact HQ.o
     ·exact u.o j z (by omega) s⟩,by simp[intOf];omega⟩
  ·have HH:Hid (ir q l 0=Y):=pW _ l 0 (fun j z s=>u.o j z (by
    have:=(J3.1 s).1;rw[S.o]at this
    omega) s)
   clear B;go_wp2_with fail
   go_ret;exact⟨by rw[HH.o];rfl,T.o⟩
theorem GR(f:ai)(l:List ai)(R:Nat)(v u:tS)(w:J)(D:w.cell? ⟨R,0,Y⟩=A v)(z:aG.h w (fun b=>b<w.heap.size) l v)(hu:bK.h w (fun b=>b<w.heap.size) f.c u) :
  vv va 75 #[vo (A ⟨R,0,Y⟩),I U f.u,u] w (fun e w'=>e=wg (I U (eK (ir (j5 f) l 0)))∧Kr w w'):=by
 have K:∀(fn:Fn) (first cap:Array tS) (w:J),(Instr.makeFunc fn first cap).run va w=.ok (z6 fn first cap) w:=fun _ _ _ _=>rfl
 obtain⟨p,c,E⟩:=Rd.q z;obtain⟨q,d,j⟩:=Rd.q hu;obtain⟨w1,a⟩:=zzx ((w.alloc (r7 #[I U f.u] 3)).alloc (r7 #[u] 45));obtain⟨k,B,_⟩:=bc w (r7 #[I U f.u] 3) (r7 #[u] 45);rw[←a]at k B;have t:Kr w w1:=by rw[a];exact ((JO _ w).alloc (JM _) _).alloc (by rw[o3];omega) _
 have i:∀{α:Type} {r:Rd α} {xs:List α} {s:tS},r.h w (fun b=>b<w.heap.size) xs s→r.h w1 (fun b=>b<w1.heap.size) xs s:=fun h=>Rd.sI (fun b (g:b<w.heap.size)=>JS g t.size) (Rd.sv (fun x k o L=>(t.block x k).trans L) h)
 have F:=Hd (EE f l v w.heap.size (w.heap.size+1) w1 ⟨by simp[World.cell?,k],u,by simp[World.cell?,B],i hu⟩ (i z));have M:=js t D;obtain⟨n,G⟩:=zzy (l.length);obtain⟨m,hm⟩:=zzy (f.c.length);rw[G]at E;rw[hm]at j;subst E;subst j;obtain⟨H,y⟩:=zz2 t a;clear D z hu a k B t i G hm
 go_enter Tryz.func75,Tryz.ntmps75
 go_upto_region 1 with fail
 change Code.wp _ _ _ _ ((w.alloc (r7 #[I U f.u] 3)).alloc (r7 #[O q m d] 45));rw[←y.o];clear y;go_wp2_with fail
 refine F.o.mono ?_;rintro e N ⟨rfl,g⟩;have C:=Hd (H.o.trans (g.mono H.o.size));clear g F;go_wp2_with fail
 go_ret;exact⟨Z,C.o⟩
