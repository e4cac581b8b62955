/- Parts of one proof, joined; conditions stand in each theorem. -/
import Derived.Test.YtoahnjkclckodaaGreatDoorNR
import Derived.Test.YtoahnjkclckodaaGreatDoorIA
import Derived.Test.YtoahnjkclckodaaGreatDoorID
import Derived.Laws.StructEq
import Derived.StillTailTactics
import Derived.Test.YtoahnjkclckodaaGreatDoorIC
import Derived.Maps.AppendAt
import Derived.Test.YtoahnjkclckodaaGreatDoorIJ
open Go renaming World→J,Calls→wg,Value→tT
open Go.Proofs.Tryz renaming prog→vo
open Go.Value renaming agg→xk,int→I,string→tS,func→z7,slice→O,bool→xv,pointer→vv
open Go.IntKind renaming u8→tF,i64→U
open Go.Obj renaming cells→r9
open Go.Ending renaming returned→wj
open Option renaming some→A,none→Y
open Decidable renaming decide→xn
namespace Go.Proofs.YtoahnjkclckodaaGreatDoor
set_option maxHeartbeats 2000000
set_option maxRecDepth 100000
open Go.RowKit
theorem De(v:bj)(w:J)(c:v.h.size≤maxLen):wg vo 100 #[xk #[I tF v.q,I U v.u,tS v.h]] w (aV (!eR v) w):=by
 have d:Gl w (w.alloc (r9 #[I tF v.q,I U v.u,tS v.h] 88)):=(Fz _ w).alloc (Fy _) _;obtain⟨e,f⟩:=zz2 (xU v (w.alloc (r9 #[I tF v.q,I U v.u,tS v.h] 88)) c) d;clear d c
 go_enter Tryz.func100,Tryz.ntmps100
 go_wp2_with fail
 refine e.o.mono ?_;rintro g W2 ⟨rfl,a⟩;have b:=Hd (f.o.trans (a.mono f.o.size));clear a e;go_wp2_with fail
 go_ret;exact⟨Z,b.o⟩
theorem Di(l:List bj)(v:tT)(w:J)(E:bL.h w (fun b=>b<w.heap.size) l v) :
  wg vo 132 #[v,z7 (.func 100) #[] #[]] w (fun e w'=>e=wj (I U (ek (gG (fun x=>!eR x) l 0)))∧Gl w w'):=by
 obtain⟨p,c,G⟩:=Rd.q E;have r:=Rd.N E;subst G;obtain⟨n,H⟩:=zzy (l.length);have R:=Hd (fun W (T:Gl w W)=>Rd.sm E (fun _ h=>h) T);obtain⟨q,d⟩:∃q:bj→Bool,q=fun x=>!eR x:=⟨_,rfl⟩
 have K:Hid (∀x,q x = !eR x):=fun x=>by rw[d]
 rw[←d];rw[H]at R r ⊢;have L:=Hd H;have V:(n:Int)≤9223372036854775807:=by unfold maxLen at r;omega
 clear E H d r
 go_enter Tryz.func132,Tryz.ntmps132
 go_wp2
 go_loopw [8] (Al w n l q) (fun i _=>n-(intOf i).toNat)
 case atStart=>exact⟨0,FR _,Z,Fz _ _,fun j z X=>by omega⟩
 case round =>
  obtain⟨k,hk,rfl,F,t⟩:=hrel;have ad:(0:Int)≤k:=by omega
  obtain⟨M,s⟩:=zz2 F t;clear t
  by_cases N:k<n
  ·have af:(k:Int)<n:=by omega
   obtain⟨e,he⟩:∃e,l[k]?=A e:=⟨_,FD (by rw[L.o];exact N)⟩;have f:=R.o wr F;have u:=Rd.K f he;rw[L.o]at u;obtain⟨b,off,cap,vs,P,_,_,_,_,y,a⟩:=u;injection P with e1 _ e3
   subst e1;subst e3;obtain⟨rfl,g⟩:=eh.1 y;have c0:wr.cell? ⟨b,off+k*3,Y⟩=A (I tF e.q):=a 0 _ Z;have c1:wr.cell? ⟨b,off+k*3+1,Y⟩=A (I U e.u):=a 1 _ Z;have c2:wr.cell? ⟨b,off+k*3+2,Y⟩=A (tS e.h):=a 2 _ Z;have S:=Hd (De e wr g.2.2);have B:Hid (l[k]?=A e):=he;rw[←K.o e]at S;clear f y a he F g;go_wp2_with fail
   refine S.o.mono ?_;rintro e2 w1 ⟨rfl,C⟩;have D:=Hd (M.o.trans (C.mono M.o.size));clear C c0 c1 c2
   cases d:q e with
   | true =>
    have Q:=Hd (qm q l 0 k e B.o d s.o);clear d;go_wp2_with fail
    go_ret;exact⟨by rw[Q.o,Nat.zero_add];rfl,D.o⟩
   | false =>
    have HQ:=Hd d;clear d;go_wp2_with fail
    exact⟨⟨k+1,by omega,by go_num,D.o,fun j z X m=>by
     by_cases h:j=k
     ·subst h;rw[B.o]at m;injection m with m
      rw[←m];exact HQ.o
     ·exact s.o j z (by omega) m⟩,by simp[intOf];omega⟩
  ·have Q:Hid (gG q l 0=Y):=oa _ l 0 (fun j z m=>s.o j z (by
    have:=(FU.1 m).1;rw[L.o]at this
    omega) m)
   clear F;go_wp2_with fail
   go_ret;exact⟨by rw[Q.o];rfl,M.o⟩
theorem Bz(l:List bj)(v:tT)(w:J)(g:bL.h w (fun b=>b<w.heap.size) l v) :
  wg vo 99 #[v,z7 (.func 100) #[] #[]] w (aV (!(l.all eR)) w):=by
 have d:=Hd (Di l v w g);rw[←uh eR l 0];obtain⟨p,c,f⟩:=Rd.q g;obtain⟨n,i⟩:=zzy (l.length);rw[i]at f;subst f;clear g i
 cases hi:gG (fun x=>!eR x) l 0 with
 | none =>
  rw[hi]at d;have d:Hid (wg vo 132 #[O p n c,z7 (.func 100) #[] #[]] w (fun e w'=>e=wj (I U (-1))∧Gl w w')):=d;clear hi
  go_enter Tryz.func99,Tryz.ntmps99
  go_wp2_with fail
  refine d.o.mono ?_;rintro e w1 ⟨rfl,a⟩;have h:=Hd a;clear a d;go_wp2_with fail
  go_ret;exact⟨Z,h.o⟩
 | some k =>
  rw[hi]at d;have d:Hid (wg vo 132 #[O p n c,z7 (.func 100) #[] #[]] w (fun e w'=>e=wj (I U (k:Int))∧Gl w w')):=d;have j:(0:Int)≤k:=by omega
  clear hi
  go_enter Tryz.func99,Tryz.ntmps99
  go_wp2_with fail
  refine d.o.mono ?_;rintro e w1 ⟨rfl,a⟩;have h:=Hd a;clear a d;go_wp2_with fail
  go_ret;exact⟨Z,h.o⟩
theorem Ez(f:am)(v:tT)(w:J)(_hI:I64 f.u)(j:bL.h w (fun b=>b<w.heap.size) f.a v):wg vo 74 #[I U f.u,v] w (aV (lN f) w):=by
 have k:=Hd (Bz f.a v w j);have d:=Rd.N j;obtain⟨p,c,g⟩:=Rd.q j;obtain⟨n,l⟩:=zzy (f.a.length);rw[l]at g d;subst g;have q:lN f=(xn (0≤f.u)&&xn (f.u<32)&&xn (n≤6)&&f.a.all eR):=by rw[←l];rfl
 rw[q];obtain⟨ty,h⟩:=zzy (f.u);rw[h]at _hI ⊢;obtain⟨b,r⟩:=zzy (f.a.all eR);rw[r]at k ⊢;have s:(n:Int)≤9223372036854775807:=by unfold maxLen at d;omega
 clear j l q h r d;have m:Hid (Gl w w):=Fz _ _
 by_cases y:0≤ty
 ·by_cases z:ty<32
  ·by_cases C:(n:Int)≤6
   ·have u:xn (0≤ty)=true:=by simpa using y
    have x:xn (ty<32)=true:=by simpa using z
    have a:xn (n≤6)=true:=by simp;omega
    rw[u,x,a,Bool.true_and,Bool.true_and,Bool.true_and];clear u x a
    go_enter Tryz.func74,Tryz.ntmps74
    go_wp2_with fail
    refine k.o.mono ?_;rintro e w1 ⟨rfl,i⟩;have B:=Hd i;clear i k;go_wp2_with fail
    go_ret;exact⟨by simp,B.o⟩
   ·have a:xn (n≤6)=false:=by simp;omega
    rw[a,Bool.and_false,Bool.false_and];clear a
    go_enter Tryz.func74,Tryz.ntmps74
    go_wp2_with fail
    go_ret;exact⟨Z,m.o⟩
  ·have a:xn (ty<32)=false:=by simp;omega
   rw[a,Bool.and_false,Bool.false_and,Bool.false_and];clear a
   go_enter Tryz.func74,Tryz.ntmps74
   go_wp2_with fail
   go_ret;exact⟨Z,m.o⟩
 ·have a:xn (0≤ty)=false:=by simp;omega
  rw[a,Bool.false_and,Bool.false_and,Bool.false_and];clear a
  go_enter Tryz.func74,Tryz.ntmps74
  go_wp2_with fail
  go_ret;exact⟨Z,m.o⟩
theorem xK(a b:bj)(w:J):(Op.equalIn 10000 88 (xk #[I tF a.q,I U a.u,tS a.h]) (xk #[I tF b.q,I U b.u,tS b.h])).run vo w=.ok (kz a b) w:=by
 have d:Tryz.prog.underlying 88=A (.struct (Tryz.prog.fieldsOf 88)):=by kernel_rfl
 rw[show (10000:Nat)=9999+1 from rfl,run_equalIn_agg w 9999 88 _ _ d (by kernel_rfl)];simp only[Program.fieldsOf,Tryz.underlying88];unfold kz
 go_simp
 have e:(a.h.data==b.h.data)=xn (a.h.toList=b.h.toList):=by
  rw[FS,FS]
  by_cases h:a.h.data=b.h.data
  ·simp[h]
  ·have c:¬a.h.data.toList=b.h.data.toList:=fun k=>h (by rw[←Array.toArray_toList (xs:=a.h.data),k])
   simp[h,c]
 rw[e]
 by_cases f:a.q=b.q<;>by_cases c:a.u=b.u<;>by_cases g:a.h.toList=b.h.toList<;>simp[f,c,g]
theorem wU{a b:List bj}(c:a.length=b.length)(h:∀(j:Nat) x y,j<a.length→a[j]?=A x→b[j]?=A y→kz x y=true):ic a b=true:=by
 unfold ic;rw[FV,Gb];refine⟨by simpa using c,fun p d=>?_⟩;obtain⟨i,hi⟩:=List.getElem?_of_mem d;rw[List.getElem?_zip_eq_some]at hi;exact h i _ _ (FU.1 hi.1).1 hi.1 hi.2
theorem zx{a b:List bj}(c:a.length≠b.length):ic a b=false:=by
 unfold ic;have:(a.length==b.length)=false:=by simpa using c
 rw[this];rfl
theorem yq{a b:List bj}{k:Nat}{x y:bj}(c:a[k]?=A x)(d:b[k]?=A y)(h:kz x y=false):ic a b=false:=by
 unfold ic;rw[Bool.and_eq_false_iff]
 right
 rw[List.all_eq_false];exact⟨(x,y),FZ (List.getElem?_zip_eq_some.2 ⟨c,d⟩),by simp[h]⟩
def Fi(w:J) (n:Nat) (a b:List bj) (i:tT) (W:J):Prop:=∃(c:J) (k:Nat),c=W∧k≤n∧i=I U (k:Int)∧Gl w c∧∀(j:Nat) x y,j<k→a[j]?=A x→b[j]?=A y→kz x y=true
theorem zc(a b:List bj)(u v:tT)(w:J)(hu:bL.h w (fun b=>b<w.heap.size) a u)(F:bL.h w (fun b=>b<w.heap.size) b v):wg vo 104 #[u,v] w (aV (ic a b) w):=by
 obtain⟨p,c,X⟩:=Rd.q hu;obtain⟨q,c',ad⟩:=Rd.q F;have t:=Rd.N hu;have z:=Rd.N F;subst X;subst ad;obtain⟨n,G⟩:=zzy (a.length);obtain⟨m,hm⟩:=zzy (b.length);have HU:=Hd (fun W (hW:Gl w W)=>Rd.sm hu (fun _ h=>h) hW);have HV:=Hd (fun W (hW:Gl w W)=>Rd.sm F (fun _ h=>h) hW);rw[G]at HU t ⊢;rw[hm]at HV z ⊢;have ba:(n:Int)≤9223372036854775807:=by unfold maxLen at t;omega
 have bb:(m:Int)≤9223372036854775807:=by unfold maxLen at z;omega
 by_cases H:n=m
 ·subst H;obtain⟨V,HM⟩:=zz2 G hm;clear hu F G t hm z
  go_enter Tryz.func104,Tryz.ntmps104
  go_wp2
  go_loopw [13] (Fi w n a b) (fun i _=>n-(intOf i).toNat)
  case atStart=>exact⟨_,0,Z,FR _,Z,Fz _ _,fun j _ _ h=>absurd h (Nat.not_lt_zero _)⟩
  case round =>
   obtain⟨f,k,rfl,hk,rfl,E,K⟩:=hrel;have L:=Hd K;clear K
   by_cases M:k<n
   ·obtain⟨x,N⟩:∃x,a[k]?=A x:=⟨_,FD (by rw[V.o];exact M)⟩;obtain⟨y,P⟩:∃y,b[k]?=A y:=⟨_,FD (by rw[HM.o];exact M)⟩;have Q:=Rd.K (HU.o f E) N;rw[V.o]at Q;obtain⟨b1,off,cap,vs,af,_,_,_,_,R,e⟩:=Q;injection af with e1 _ e3
    subst e1;subst e3;have C:=Rd.K (HV.o f E) P;rw[HM.o]at C;obtain⟨b2,g,a6,bd,S,_,_,_,_,D,d⟩:=C;injection S with aq _ ar
    subst aq;subst ar;obtain⟨rfl,_⟩:=eh.1 R;obtain⟨rfl,_⟩:=eh.1 D;have d0:f.cell? ⟨b1,off+k*3,Y⟩=A (I tF x.q):=e 0 _ Z;have d1:f.cell? ⟨b1,off+k*3+1,Y⟩=A (I U x.u):=e 1 _ Z;have d2:f.cell? ⟨b1,off+k*3+2,Y⟩=A (tS x.h):=e 2 _ Z;have e0:f.cell? ⟨b2,g+k*3,Y⟩=A (I tF y.q):=d 0 _ Z;have e1:f.cell? ⟨b2,g+k*3+1,Y⟩=A (I U y.u):=d 1 _ Z;have e2:f.cell? ⟨b2,g+k*3+2,Y⟩=A (tS y.h):=d 2 _ Z;have T:Gl f f.drew:=(Fz _ f).drew;have B:=Hd (E.trans (T.mono E.size));have bk:(0:Int)≤k:=by omega
    have bl:(k:Int)<n:=by omega
    obtain⟨HX,HY⟩:=zz2 N P;have a1:=xK x y;obtain⟨s,hs⟩:=zzy (kz x y);rw[hs]at a1;have HS:=Hd hs;clear R D e d N P T E hs
    go_wp2
    go_still_tail 8,(by kernel_rfl)
    change wpList _ _ _ _ _ f.drew;generalize f.drew=W2 at *;clear d0 d1 d2 e0 e1 e2
    cases s with
    | true =>
     go_wp2_with fail
     refine⟨⟨_,k+1,Z,by omega,by go_num,B.o,fun j x' y' hj l r=>?_⟩,by simp[intOf];omega⟩
     by_cases h:j=k
     ·subst h;rw[HX.o]at l;rw[HY.o]at r;injection l with l
      injection r with r
      rw[←l,←r];exact HS.o
     ·exact L.o j x' y' (by omega) l r
    | false =>
     go_wp2_with fail
     go_ret;exact⟨by rw[yq HX.o HY.o HS.o];rfl,B.o⟩
   ·obtain rfl:k=n:=by omega
    have B:=Hd E;clear E
    go_wp2
    go_ret;exact⟨by rw[wU (V.o.trans HM.o.symm) (fun j x y hj N P=>L.o j x y (by rw[V.o]at hj;exact hj) N P)];rfl,B.o⟩
 ·have bm:(n:Int)≠m:=by omega
  have hf:ic a b=false:=zx (by rw[G,hm];exact H);rw[hf];have h0:Hid (Gl w w):=Fz _ _;clear hu F G t hm z hf
  go_enter Tryz.func104,Tryz.ntmps104
  go_wp2_with fail
  go_ret;exact⟨Z,h0.o⟩
theorem nj{W b W2:J}{g:Nat}(a:Gl W b)(h:b.grownBy W2 (A g))(c:W.heap.size≤g):Gl W W2:=
 ⟨h.os.trans a.os,h.tape.trans a.tape,h.output.trans a.output,FH a.size h.size,fun i hi=>(h.block i (FG hi a.size) (fun e=>by injection e with e;omega)).trans (a.block i hi)⟩
theorem Da{α:Type}{r:Rd α}{w:J}{F:Nat→Prop}{xs:List α}{b off n c:Nat}(h:r.h w F xs (O (A ⟨b,off,Y⟩) n c))(x:xs.length=n)(m:xs≠[]):∃us:List tT,r.z w F xs us∧∀(j:Nat) u,us[j]?=A u→w.cell? ⟨b,off+j,Y⟩=A u:=by
 rcases h with ⟨h,_⟩|⟨b',i,cap,_,_,_,_,_,e,o⟩
 ·exact absurd h m
 ·injection e with e _ _
  injection e with e
  injection e with p q
  subst p;subst q;have key:∀k≤xs.length,∃us:List tT,r.z w F (xs.take k) us∧∀(j:Nat) u,us[j]?=A u→w.cell? ⟨b,off+j,Y⟩=A u:=by
   intro k
   induction k with
   | zero=>intro _;exact⟨[],by simpa using Rd.tk,fun j u a=>by simp at a⟩
   | succ k s =>
    intro y;obtain⟨us,d,f⟩:=s (by omega);have l:xs[k]?=A (xs[k]'(by omega)):=FD (by omega);obtain⟨vs,t,v⟩:=o k _ l;have e:xs.take (k+1)=xs.take k++[xs[k]'(by omega)]:=by rw[Gd,l];rfl
    refine⟨us++vs,by rw[e];exact Rd.sI d t,fun j u a=>?_⟩;have z:us.length=k*r.n:=by rw[d.1,List.length_take,Nat.min_eq_left (by omega)]
    by_cases g:j<us.length
    ·rw[Gf g]at a;exact f j u a
    ·rw[F7 (by omega)]at a;have:=v _ _ a
     rwa [show off+k*r.n+(j-us.length)=off+j by omega]at this
  obtain⟨us,d,f⟩:=key xs.length (Fy _);rw[List.take_length]at d;exact⟨us,d,f⟩
theorem BV{α:Type}{r:Rd α}{w:J}{F:Nat→Prop}{xs:List α}{us:List tT}(h:r.z w F xs us)(b:0<r.n):∀u∈us,u.oneCell'=true:=by
 intro u hu;obtain⟨j,c⟩:=List.getElem?_of_mem hu;have a:=(FU.1 c).1;rw[h.1]at a;have e:j / r.n<xs.length:=(Nat.div_lt_iff_lt_mul b).2 a;obtain⟨vs,d,f⟩:=h.2 (j / r.n) _ (FD e);have hm:j % r.n<vs.length:=by rw[r.len d];exact Nat.mod_lt _ b
 have:=f (j % r.n) _ (FD hm);rw[Nat.mul_comm,Nat.div_add_mod,c]at this;injection this with this
 rw[this];exact r.one d _ (List.getElem_mem hm)
theorem yC(l:List bj)(v:tT)(W:J)(B:bL.h W (fun b=>b<W.heap.size) l v)(hn:l.length≤1000000) :
  wg vo 105 #[v] W fun e W'=>∃D,e=wj D∧Gl W W'∧bL.h W' (aP W W') l D:=by
 obtain⟨p,c,N⟩:=Rd.q B;subst N
 cases p with
 | none =>
  have E:l=[]:=by
   rcases B with ⟨h,_⟩|⟨_,_,_,_,_,_,_,_,e,_⟩
   ·exact h
   ·cases e
  subst E;have hb:Hid (Gl W W):=Fz _ _;have hq:∀(c:Nat) (W:J),(binOp .eql 45 (O Y 0 c) (O Y 0 0)).run vo W=.ok (xv true) W:=fun c W=>Lib.run_eql_slice_nil_nil W 0 c Tryz.underlying45
  clear B hn
  go_enter Tryz.func105,Tryz.ntmps105
  go_wp2_with fail
  go_ret;exact⟨_,Z,hb.o,Rd.th⟩
 | some a =>
  obtain⟨n,m⟩:=zzy (l.length);have hq:∀(a:Addr) (n c:Nat) (W:J),(binOp .eql 45 (O (A a) n c) (O Y 0 0)).run vo W=.ok (xv false) W:=fun a n c W=>Lib.run_eql_slice_some_nil W a n c Tryz.underlying45
  obtain⟨ti,P,Q,R,S⟩:=info_parts pz;obtain⟨us,q,f⟩:∃us:List tT,bL.z W (fun b=>b<W.heap.size) l us∧∀(j:Nat) u,us[j]?=A u→W.cell? (a.add j)=A u:=by
   by_cases E:l=[]
   ·subst E;exact⟨[],Rd.tk,fun j u C=>by simp at C⟩
   ·rcases id B with ⟨h,_⟩|⟨b',aq,cap,_,_,_,_,_,e,_⟩
    ·exact absurd h E
    ·injection e with e _ _
     injection e with e
     subst e;obtain⟨us,h1,h2⟩:=Da B Z E;exact⟨us,h1,fun j u C=>by rw[Addr.add_mid];exact h2 j u C⟩
  have w:=BV q (by decide);have hlen:us.length=n*3:=by rw[q.1,m];rfl
  rw[m]at hn ⊢;obtain⟨z,s⟩:=zzx (W.alloc (r9 #[] 88));have t:Gl W z:=by rw[s];exact (Fz _ W).alloc (Fy _) _
  have F:z.heap[W.heap.size]?=A (r9 #[] 88 (0,0)):=by rw[s];exact oA W _
  have k:z.ownsRow W.heap.size 88 3 (O (A ⟨W.heap.size,0,Y⟩) 0 0) 0 []:=⟨Z,Or.inr ⟨_,0,#[],Z,Fy _,F,Fy _,FR _,Z,Z⟩⟩;have T:Hid (∀j u,us[j]?=A u→z.cell? (a.add j)=A u):=fun j u C=>(t.cell (World.block_lt_of_cell? _ _ (f j u C))).trans (f j u C)
  obtain⟨G,V,X,H,K,L⟩:=zz6 k t s hlen w q;have ad:Hid (W.heap.size≤z.heap.size):=t.size;have af:=Hd m;clear B m q f w hlen s t F k
  go_enter Tryz.func105,Tryz.ntmps105
  go_wp2_with (at_builtin;go_must (change wpList _ _ _ _ _ (W.alloc (r9 #[] 88));rw[←X.o];refine wpList_append_own_at _ Z (.tmp 5) (.tmp 6) 45 Z W.heap.size 88 ti _ 3 32 Tryz.underlying45 P Q R S Z (by decide) (O (A ⟨W.heap.size,0,Y⟩) 0 0) 0 [] Z G.o a n c us Z H.o T.o K.o (by unfold maxLen;omega) (by omega) ad.o ?_);intro v9 W2 d y _ _)
  have M:=nj V.o y (Fy _);have HO:Hid (∃D,wj v9=wj D∧Gl W W2∧bL.h W2 (aP W W2) l D):=by
   refine⟨v9,Z,M,Rd.row_own (r:=bL) (e:=88) (us:=us) (base:=0) ?_ ?_ (fun g hg=>aL d g hg)⟩
   ·rw[af.o];rw[Nat.zero_add,List.nil_append]at d;exact ownsRow_base d (FR _)
   ·exact⟨L.o.1,fun i x hx=>by
     obtain⟨vs,p1,p2⟩:=L.o.2 i x hx;obtain⟨q1,q2⟩:=eh.1 p1
     exact⟨vs,eh.2 ⟨q1,q2⟩,p2⟩⟩
  clear M d y;go_wp2_with fail
  go_ret;exact HO.o
theorem xA(f:am)(v:tT)(W:J)(P:I64 f.id∧I64 f.u)(D:bL.h W (fun b=>b<W.heap.size) f.a v)(hn:f.a.length≤1000000) :
  wg vo 76 #[xk #[I U f.id,I U f.u,v]] W fun e W'=>∃E F G,e=wj (xk #[E,F,G])∧Gl W W'∧aC.at_ W' (aP W W') f [E,F,G]:=by
 obtain⟨p,c,Q⟩:=Rd.q D;obtain⟨m,hm⟩:=zzy (f.a.length);rw[hm]at Q;subst Q;obtain⟨q,a⟩:=zzx ((W.alloc (r9 #[I U f.id,I U f.u,O p m c] 47)).alloc (r9 #[I U 0,I U 0,O Y 0 0] 47));obtain⟨j,k,_⟩:=aW W (r9 #[I U f.id,I U f.u,O p m c] 47) (r9 #[I U 0,I U 0,O Y 0 0] 47);rw[←a]at j k;have h:Gl W q:=by rw[a];exact ((Fz _ W).alloc (Fy _) _).alloc (by rw[o5];omega) _
 have s:q.heap.size=W.heap.size+2:=by rw[a];simp
 obtain⟨R,i,l,n,t,S,u⟩:=zz7 (yC f.a _ q (Rd.sv (fun x (H:x<W.heap.size)=>FG H h.size) (Rd.sb (fun x H o K=>(h.block x H).trans K) D)) hn) j k h a P s;have HM:=Hd hm;clear h j k a D s P hm
 go_enter Tryz.func76,Tryz.ntmps76
 go_upto_region 1 with fail
 change Code.wp _ _ _ _ ((W.alloc (r9 #[I U f.id,I U f.u,O p m c] 47)).alloc (r9 #[I U 0,I U 0,O Y 0 0] 47));rw[←t.o];clear t;obtain⟨T,X,x2,_⟩:=aE i.o;go_wp2_with fail
 refine R.o.mono ?_;rintro e W2 ⟨v',rfl,d,g⟩;obtain⟨p',c',w⟩:=Rd.q g;rw[HM.o]at w;subst w;have ad:=d.size;have y:=aa d i.o (Fx.1 i.o).1;have z:=aa d l.o (Fx.1 l.o).1;obtain⟨L,B,M⟩:=zz3 y z (n.o.trans (d.mono n.o.size));have C:Hid (∀V,(∀b,aP q W2 b→V.heap[b]?=W2.heap[b]?)→W2.heap.size≤V.heap.size→aC.at_ V (aP W V) f [I U f.id,I U f.u,O p' m c']):=fun V hV N =>bY.2 ⟨S.o.1,S.o.2,_,Z,Rd.sv (fun b r=>⟨FH (by have:=u.o;omega) r.1,FG r.2 N⟩) (Rd.sb (fun b r o K=>(hV b r).trans K) g)⟩
 clear g d y z T X x2 R i l n;obtain⟨T,X,x2,_,_,f2⟩:=aE L.o;obtain⟨E,F,G,g0,g1,g2⟩:=aE B.o;go_wp2_with fail
 have hA:(W2.setCell ⟨W.heap.size,2,Y⟩ (O p' m c')).heap[W.heap.size+1]?=A (r9 #[I U 0,I U 0,O Y 0 0] 47 (0,0)):=(oF _ _ _ _ (by show W.heap.size+1≠W.heap.size;omega)).trans B.o;refine eU Tryz.results76 (by simp[go_sem]) (by simp[go_sem]) Z (nP hA _ _ _) ⟨_,_,_,Z,?_,?_⟩
 ·exact (((M.o.setCell (p:=⟨W.heap.size,2,Y⟩) (Fy _) _).setCell (p:=⟨W.heap.size+1,0,Y⟩) (F3 _) _).setCell (p:=⟨W.heap.size+1,1,Y⟩) (F3 _) _).setCell (p:=⟨W.heap.size+1,2,Y⟩) (F3 _) _
 ·refine C.o _ (fun b r=>?_) (by simp[World.setCell]);have h1:=r.1;have h2:=u.o;rw[oF _ _ _ _ (by show b≠W.heap.size+1;omega),oF _ _ _ _ (by show b≠W.heap.size+1;omega),oF _ _ _ _ (by show b≠W.heap.size+1;omega),oF _ _ _ _ (by show b≠W.heap.size;omega)]
def jy(f g:am):Bool:=g.u==f.u&&ic g.a f.a
theorem uC{α:Type}(q:α→Bool):∀(l:List α) (m:Nat),(gG q l m).isSome=l.any q
 | [],_=>rfl
 | x::l,m=>by
  unfold gG;rw[List.any_cons]
  cases a:q x with
  | true=>simp
  | false=>simp only[F4,o1,Bool.false_or];exact uC q l (m+1)
def q8(w:J) (a T2:Nat) (f:am):Prop:=w.cell? ⟨a,0,Y⟩=A (I U f.u)∧∃v,w.cell? ⟨T2,0,Y⟩=A v∧bL.h w (fun b=>b<w.heap.size) f.a v
theorem q8.C{w w':J}{d T2:Nat}{f:am}(h:q8 w d T2 f)(a:Gl w w'):q8 w' d T2 f:=by
 obtain⟨e,v,g,i⟩:=h;exact⟨iY a e,v,iY a g,Rd.sv (fun b (c:b<w.heap.size)=>FG c a.size) (Rd.sb (fun x j o k=>(a.block x j).trans k) i)⟩
theorem A9(f g:am)(s:tT)(D T2:Nat)(w:J)(E:q8 w D T2 f)(u:bL.h w (fun b=>b<w.heap.size) g.a s) :
  wg vo 103 #[xk #[I U g.id,I U g.u,s],vv (A ⟨D,0,Y⟩),vv (A ⟨T2,0,Y⟩)] w (aV (jy f g) w):=by
 obtain⟨p,c,j⟩:=Rd.q u;obtain⟨m,hm⟩:=zzy (g.a.length);rw[hm]at j;subst j;obtain⟨w1,h⟩:=zzx (w.alloc (r9 #[I U g.id,I U g.u,O p m c] 47));have l:Gl w w1:=by rw[h];exact (Fz _ w).alloc (Fy _) _
 have r:w1.heap[w.heap.size]?=A (r9 #[I U g.id,I U g.u,O p m c] 47 (0,0)):=by rw[h];exact oA w _
 obtain⟨K,v,L,y⟩:=E.C l;obtain⟨q,d,j⟩:=Rd.q y;have z:=Hd (zc g.a f.a _ _ w1 (Rd.sv (fun b (i:b<w.heap.size)=>FG i l.size) (Rd.sb (fun x r o G=>(l.block x r).trans G) u)) y);obtain⟨k,F⟩:=zzy (f.a.length);rw[F]at j;subst j;obtain⟨B,a⟩:=zz2 l h;obtain⟨M,H,x2,_⟩:=aE r;clear E u hm l h r y F
 by_cases t:g.u=f.u
 ·have n:jy f g=ic g.a f.a:=by unfold jy;rw[t];simp
  rw[n];rw[t]at H a ⊢;clear n t
  go_enter Tryz.func103,Tryz.ntmps103
  go_upto_region 1 with fail
  change Code.wp _ _ _ _ (w.alloc (r9 #[I U g.id,I U f.u,O p m c] 47));rw[←a.o];clear a;go_wp2_with fail
  refine z.o.mono ?_;rintro e N ⟨rfl,i⟩;have C:=Hd (B.o.trans (i.mono B.o.size));clear i z;go_wp2_with fail
  go_ret;exact⟨Z,C.o⟩
 ·have n:jy f g=false:=by unfold jy;simp[t]
  rw[n];clear n z
  go_enter Tryz.func103,Tryz.ntmps103
  go_upto_region 1 with fail
  change Code.wp _ _ _ _ (w.alloc (r9 #[I U g.id,I U g.u,O p m c] 47));rw[←a.o];clear a;go_wp2_with fail
  go_ret;exact⟨Z,B.o⟩
theorem Bi(f:am)(l:List am)(v:tT)(M T2:Nat)(w:J)(ha:q8 w M T2 f)(L:aC.h w (fun b=>b<w.heap.size) l v) :
  wg vo 102 #[v,z7 (.func 103) #[] #[vv (A ⟨M,0,Y⟩),vv (A ⟨T2,0,Y⟩)]] w (fun e w'=>e=wj (I U (ek (gG (jy f) l 0)))∧Gl w w'):=by
 obtain⟨p,c,N⟩:=Rd.q L;have t:=Rd.N L;subst N;obtain⟨n,P⟩:=zzy (l.length);have HV:=Hd (fun W (Q:Gl w W)=>Rd.sm L (fun _ h=>h) Q);have HA:=Hd (fun W (Q:Gl w W)=>ha.C Q);obtain⟨q,d⟩:∃q:am→Bool,q=jy f:=⟨_,rfl⟩;have R:Hid (∀x,q x=jy f x):=fun x=>by rw[d]
 rw[←d];rw[P]at HV t ⊢;have S:=Hd P;have ad:(n:Int)≤9223372036854775807:=by unfold maxLen at t;omega
 clear L P d t ha
 go_enter Tryz.func102,Tryz.ntmps102
 go_wp2
 go_loopw [8] (Al w n l q) (fun i _=>n-(intOf i).toNat)
 case atStart=>exact⟨0,FR _,Z,Fz _ _,fun j z hj=>by omega⟩
 case round =>
  obtain⟨k,hk,rfl,B,C⟩:=hrel;have af:(0:Int)≤k:=by omega
  obtain⟨T,u⟩:=zz2 B C;clear C
  by_cases V:k<n
  ·have aq:(k:Int)<n:=by omega
   obtain⟨e,he⟩:∃e,l[k]?=A e:=⟨_,FD (by rw[S.o];exact V)⟩;have g:=HV.o wr B;have D:=Rd.K g he;rw[S.o]at D;obtain⟨b,off,cap,vs,X,_,_,_,_,E,a⟩:=D;injection X with e1 _ e3
   subst e1;subst e3;obtain⟨_,_,sl,rfl,y⟩:=bY.1 E;obtain⟨p6,c6,r⟩:=Rd.q y;have HK:=Hd (A9 f e _ M T2 wr (HA.o wr B) (Rd.sv (fun b (h:b<w.heap.size)=>FG h B.size) y));obtain⟨m6,F⟩:=zzy (e.a.length);rw[F]at r;subst r;have c0:wr.cell? ⟨b,off+k*3,Y⟩=A (I U e.id):=a 0 _ Z;have c1:wr.cell? ⟨b,off+k*3+1,Y⟩=A (I U e.u):=a 1 _ Z;have c2:wr.cell? ⟨b,off+k*3+2,Y⟩=A (O p6 m6 c6):=a 2 _ Z;have G:Hid (l[k]?=A e):=he;rw[←R.o e]at HK;clear g E a he B y F;go_wp2_with fail
   refine HK.o.mono ?_;rintro e2 w1 ⟨rfl,H⟩;have K:=Hd (T.o.trans (H.mono T.o.size));clear H c0 c1 c2
   cases d:q e with
   | true =>
    have HH:=Hd (qm q l 0 k e G.o d u.o);clear d;go_wp2_with fail
    go_ret;exact⟨by rw[HH.o,Nat.zero_add];rfl,K.o⟩
   | false =>
    have HQ:=Hd d;clear d;go_wp2_with fail
    exact⟨⟨k+1,by omega,by go_num,K.o,fun j z hj s=>by
     by_cases h:j=k
     ·subst h;rw[G.o]at s;injection s with s
      rw[←s];exact HQ.o
     ·exact u.o j z (by omega) s⟩,by simp[intOf];omega⟩
  ·have HH:Hid (gG q l 0=Y):=oa _ l 0 (fun j z s=>u.o j z (by
    have:=(FU.1 s).1;rw[S.o]at this
    omega) s)
   clear B;go_wp2_with fail
   go_ret;exact⟨by rw[HH.o];rfl,T.o⟩
theorem Db(f:am)(l:List am)(R:Nat)(v u:tT)(w:J)(D:w.cell? ⟨R,0,Y⟩=A v)(z:aC.h w (fun b=>b<w.heap.size) l v)(hu:bL.h w (fun b=>b<w.heap.size) f.a u) :
  wg vo 75 #[vv (A ⟨R,0,Y⟩),I U f.u,u] w (fun e w'=>e=wj (I U (ek (gG (jy f) l 0)))∧Gl w w'):=by
 have K:∀(fn:Fn) (first cap:Array tT) (w:J),(Instr.makeFunc fn first cap).run vo w=.ok (z7 fn first cap) w:=fun _ _ _ _=>rfl
 obtain⟨p,c,E⟩:=Rd.q z;obtain⟨q,d,j⟩:=Rd.q hu;obtain⟨w1,a⟩:=zzx ((w.alloc (r9 #[I U f.u] 3)).alloc (r9 #[u] 45));obtain⟨k,B,_⟩:=aW w (r9 #[I U f.u] 3) (r9 #[u] 45);rw[←a]at k B;have t:Gl w w1:=by rw[a];exact ((Fz _ w).alloc (Fy _) _).alloc (by rw[o5];omega) _
 have i:∀{α:Type} {r:Rd α} {xs:List α} {s:tT},r.h w (fun b=>b<w.heap.size) xs s→r.h w1 (fun b=>b<w1.heap.size) xs s:=fun h=>Rd.sv (fun b (g:b<w.heap.size)=>FG g t.size) (Rd.sb (fun x k o L=>(t.block x k).trans L) h)
 have F:=Hd (Bi f l v w.heap.size (w.heap.size+1) w1 ⟨by simp[World.cell?,k],u,by simp[World.cell?,B],i hu⟩ (i z));have M:=iY t D;obtain⟨n,G⟩:=zzy (l.length);obtain⟨m,hm⟩:=zzy (f.a.length);rw[G]at E;rw[hm]at j;subst E;subst j;obtain⟨H,y⟩:=zz2 t a;clear D z hu a k B t i G hm
 go_enter Tryz.func75,Tryz.ntmps75
 go_upto_region 1 with fail
 change Code.wp _ _ _ _ ((w.alloc (r9 #[I U f.u] 3)).alloc (r9 #[O q m d] 45));rw[←y.o];clear y;go_wp2_with fail
 refine F.o.mono ?_;rintro e N ⟨rfl,g⟩;have C:=Hd (H.o.trans (g.mono H.o.size));clear g F;go_wp2_with fail
 go_ret;exact⟨Z,C.o⟩
