/- Parts of one proof, joined; conditions stand in each theorem. -/
import Derived.Test.YtoahnjkclckodaaGreatDoorIB
import Derived.Test.YtoahnjkclckodaaGreatDoorNA
import Derived.Test.YtoahnjkclckodaaGreatDoorNB
open Go renaming World→J,Calls→wg,Value→tT
open Go.Proofs.Tryz renaming prog→vo
open Go.Value renaming pointer→vv,int→I,string→tS,bool→xv,slice→O,agg→xk
open Option renaming some→A,none→Y
open Go.Ending renaming returned→wj
open Go.Obj renaming cells→r9
open Go.IntKind renaming u8→tF,i64→U
open Or renaming inl→wD,inr→wP
namespace Go.Proofs.YtoahnjkclckodaaGreatDoor
set_option maxHeartbeats 1000000
set_option maxRecDepth 100000
open Go.RowKit
section
variable {W:J} {R g:Nat} {s:WSt}
theorem uB{s s1 s2:WSt}{n:Int}(a:aD 1 s=(1,s1))(b:aD 8 s1=(n,s2)):cE s=(if s2.2 then .zero else ⟨1,n,⟨#[]⟩⟩,s2):=by
 unfold cE;simp only[a,b,o4]
theorem sO{s s1 s2:WSt}{t:ByteArray}(a:aD 1 s=(2,s1))(b:ez s1=(t,s2)):cE s=(if s2.2 then .zero else ⟨2,0,t⟩,s2):=by
 unfold cE;simp only[a,b,show ¬(2:Int)=1 by decide,o1,o4]
theorem ut{s s1:WSt}{k:Int}(c:aD 1 s=(k,s1))(a:k≠1)(b:k≠2):cE s=(.zero,s1.1,true):=by
 unfold cE;simp only[c,a,b,o1,o4]
theorem lU(h:bv W R g s){k:Int}{s1 s2:WSt}{v:bj}(h1:aD 1 s=(k,s1))(p:(∃n,k=1∧v=⟨1,n,⟨#[]⟩⟩∧aD 8 s1=(n,s2))∨(∃t,k=2∧v=⟨2,0,t⟩∧ez s1=(t,s2))∨(k≠1∧k≠2∧v=⟨k,0,⟨#[]⟩⟩∧s2=(s1.1,true))) :
  wg vo 81 #[vv (A ⟨R,0,Y⟩)] W fun e W'=>e=wj (jL (if s2.2 then .zero else v))∧bg W R g s2 W':=by
 obtain⟨⟨vk,vn,vt⟩,T⟩:∃x:bj,(if s2.2=true then bj.zero else v)=x:=⟨_,rfl⟩;rw[T];have bm:=Hd T;clear T;obtain⟨V,u⟩:=zzx (W.alloc (r9 #[I tF 0,I U 0,tS ⟨#[]⟩] 88));have F:Gl W V:=by rw[u];exact (Fz _ W).alloc (Fy _) _
 have aq:V.heap[W.heap.size]?=A (r9 #[I tF 0,I U 0,tS ⟨#[]⟩] 88 (0,0)):=by rw[u];exact oA W _
 have X:=h.C F;have HK:=Hd (eX X);have r:=xW X;rw[h1]at r;dsimp only at r;obtain⟨r,bn,bq,ar,H,HC⟩:=zz6 r F aq u h p;have bR:=h.lt;have bt:=h.lt2;have a6:V.heap.size=W.heap.size+1:=by rw[u];simp
 have G:=Hd a6;clear h h1 p F aq X u a6
 go_enter Tryz.func81,Tryz.ntmps81
 go_upto_region 1 with fail
 change Code.wp _ _ _ _ (W.alloc (r9 #[I tF 0,I U 0,tS ⟨#[]⟩] 88));rw[←ar.o];clear ar;go_wp2_with fail
 refine HK.o.mono ?_;rintro e w1 ⟨rfl,rfl⟩;go_wp2_with fail
 refine r.o.mono ?_;rintro e f ⟨rfl,K⟩;obtain⟨E,L⟩:=zzx (f.alloc (r9 #[I tF k,I U 0,tS ⟨#[]⟩] 88));have M:Gl f E:=by rw[L];exact (Fz _ f).alloc (Fy _) _
 have ad:E.heap[f.heap.size]?=A (r9 #[I tF k,I U 0,tS ⟨#[]⟩] 88 (0,0)):=by rw[L];exact oA f _
 have b0:=K.1.size;have b1:=M.size;have bB:f.heap.size<E.heap.size:=(Fx.1 ad).1;have P:bg V R g s1 E:=K.C M;have ba:E.heap[W.heap.size]?=A (r9 #[I tF 0,I U 0,tS ⟨#[]⟩] 88 (0,0)):=(M.block _ (by have:=G.o;omega)).trans (an K.1 bq.o (by intro e;injection e with e;omega))
 obtain⟨b,N,af,bb⟩:=zz4 P ad ba L;have b2:W.heap.size<f.heap.size:=by have:=G.o;omega
 clear K M ad P ba L HK r;go_upto_region 4 with fail
 change Code.wp _ _ _ _ (f.alloc (r9 #[I tF k,I U 0,tS ⟨#[]⟩] 88));rw[←bb.o];clear bb;obtain⟨x0,x1,x2,f0,f1,f2⟩:=aE N.o;have w:Hid (∀(w4:J),bg V R g s2 w4→f.heap.size≠R→w4.heap[W.heap.size]?=A (r9 #[I tF 0,I U 0,tS ⟨#[]⟩] 88 (0,0))→wg vo 110 #[vv (A ⟨R,0,Y⟩),jL v] w4 fun e q=>e=wj (jL ⟨vk,vn,vt⟩)∧q.heap[W.heap.size]?=A (r9 #[I tF 0,I U 0,tS ⟨#[]⟩] 88 (0,0))∧∀(x y z:tT),bg W R g s2 (((q.setCell ⟨W.heap.size,0,Y⟩ x).setCell ⟨W.heap.size,1,Y⟩ y).setCell ⟨W.heap.size,2,Y⟩ z)∧(((q.setCell ⟨W.heap.size,0,Y⟩ x).setCell ⟨W.heap.size,1,Y⟩ y).setCell ⟨W.heap.size,2,Y⟩ z).heap[W.heap.size]?=A (r9 #[x,y,z] 88 (0,0)) ):=fun w4 h4 _ hz=>(rq h4.2 v).mono fun e q h5=>by
   have bd:=aa h5.2 hz (Fx.1 hz).1;have ht:bg W R g s2 q:=bg.ahead bn.o (h4.C h5.2);exact⟨by rw[←bm.o];exact h5.1,bd,fun x y z=>⟨((ht.far H.o (Fy _) 0 x).far H.o (Fy _) 1 y).far H.o (Fy _) 2 z,nP bd x y z⟩⟩
 rcases HC.o with ⟨n,rfl,rfl,hn⟩|⟨t,rfl,rfl,ht⟩|⟨bk,bl,rfl,rfl⟩
 ·have B:=kX b.o.2;rw[hn]at B;have B:=Hd B;clear hn HC;go_wp2_with fail
  refine B.o.mono ?_;rintro e w4 ⟨rfl,a⟩;have i:=an a.1 N.o (by intro e;injection e with e;omega)
  have C:=an a.1 af.o (by intro e;injection e with e;omega)
  have c:(w4.setCell ⟨f.heap.size,1,Y⟩ (I U n)).heap[f.heap.size]?=A (r9 #[I tF 1,I U n,tS ⟨#[]⟩] 88 (0,0)):=by rw[heap_set i 1];rfl
  have f4:=ax i 1;have q4:=(aE i).2.1;have p:=w.o (w4.setCell ⟨f.heap.size,1,Y⟩ (I U n)) ⟨bo (ia b.o.1 a.1) (by have:=G.o;omega) 1 _,a.2.set (by omega) (by omega) 1 _⟩ (by omega) ((oF _ _ _ _ (by show W.heap.size≠f.heap.size;omega)).trans C);obtain⟨q,d⟩:=zzx (w4.setCell ⟨f.heap.size,1,Y⟩ (I U n));rw[←d]at c p;obtain⟨j,l,D⟩:=zz3 d p c;clear x0 x1 x2 f0 f1 f2 B a i C c p d;go_upto_region 10 with fail
  rw[←j.o];clear j;obtain⟨x0,x1,x2,f0,f1,f2⟩:=aE D.o;go_wp2_with fail
  refine l.o.mono ?_;rintro e w6 ⟨rfl,m,Q⟩;obtain⟨y0,y1,y2,a0,a1,a2⟩:=aE m;have S:=Hd Q;unfold jL;clear Q l m;go_wp2_with fail
  exact eU Tryz.results81 (by simp[go_sem]) (by simp[go_sem]) Z (S.o _ _ _).2 ⟨Z,(S.o _ _ _).1⟩
 ·have B:=qD b.o.2;rw[ht]at B;have B:=Hd B;clear ht HC;go_wp2_with fail
  refine B.o.mono ?_;rintro e w4 ⟨rfl,a⟩;have i:=an a.1 N.o (by intro e;injection e with e;omega)
  have C:=an a.1 af.o (by intro e;injection e with e;omega)
  have c:(w4.setCell ⟨f.heap.size,2,Y⟩ (tS t)).heap[f.heap.size]?=A (r9 #[I tF 2,I U 0,tS t] 88 (0,0)):=by rw[heap_set i 2];rfl
  have f4:=ax i 2;have q4:=(aE i).2.2.1;have p:=w.o (w4.setCell ⟨f.heap.size,2,Y⟩ (tS t)) ⟨bo (ia b.o.1 a.1) (by have:=G.o;omega) 2 _,a.2.set (by omega) (by omega) 2 _⟩ (by omega) ((oF _ _ _ _ (by show W.heap.size≠f.heap.size;omega)).trans C);obtain⟨q,d⟩:=zzx (w4.setCell ⟨f.heap.size,2,Y⟩ (tS t));rw[←d]at c p;obtain⟨j,l,D⟩:=zz3 d p c;clear x0 x1 x2 f0 f1 f2 B a i C c p d;go_upto_region 10 with fail
  rw[←j.o];clear j;obtain⟨x0,x1,x2,f0,f1,f2⟩:=aE D.o;go_wp2_with fail
  refine l.o.mono ?_;rintro e w6 ⟨rfl,m,Q⟩;obtain⟨y0,y1,y2,a0,a1,a2⟩:=aE m;have S:=Hd Q;unfold jL;clear Q l m;go_wp2_with fail
  exact eU Tryz.results81 (by simp[go_sem]) (by simp[go_sem]) Z (S.o _ _ _).2 ⟨Z,(S.o _ _ _).1⟩
 ·obtain⟨_,_,_,c1,_,g1,_⟩:=b.o.2.z;have p:=w.o (E.setCell ⟨R,1,Y⟩ (xv true)) ⟨dO b.o.1 1 _,b.o.2.q true⟩ (by omega) ((oF _ _ _ _ (by show W.heap.size≠R;omega)).trans af.o);have c:(E.setCell ⟨R,1,Y⟩ (xv true)).heap[f.heap.size]?=A (r9 #[I tF k,I U 0,tS ⟨#[]⟩] 88 (0,0)):=(oF _ _ _ _ (by show f.heap.size≠R;omega)).trans N.o;obtain⟨q,d⟩:=zzx (E.setCell ⟨R,1,Y⟩ (xv true));rw[←d]at c p;obtain⟨j,l,D⟩:=zz3 d p c;have F:(k==1)=false:=by simpa using bk
  have b3:(k==2)=false:=by simpa using bl
  clear c p d HC bk bl;go_upto_region 10 with fail
  rw[←j.o];clear j x0 x1 x2 f0 f1 f2;obtain⟨x0,x1,x2,f0,f1,f2⟩:=aE D.o;go_wp2_with fail
  refine l.o.mono ?_;rintro e w6 ⟨rfl,m,Q⟩;obtain⟨y0,y1,y2,a0,a1,a2⟩:=aE m;have S:=Hd Q;unfold jL;clear Q l m;go_wp2_with fail
  exact eU Tryz.results81 (by simp[go_sem]) (by simp[go_sem]) Z (S.o _ _ _).2 ⟨Z,(S.o _ _ _).1⟩
theorem xc(h:bv W R g s):wg vo 81 #[vv (A ⟨R,0,Y⟩)] W fun e W'=>e=wj (jL (cE s).1)∧bg W R g (cE s).2 W':=by
 obtain⟨⟨k,s1⟩,c⟩:∃x,aD 1 s=x:=⟨_,rfl⟩
 by_cases a:k=1
 ·subst a;obtain⟨⟨n,s2⟩,d⟩:∃x,aD 8 s1=x:=⟨_,rfl⟩;rw[uB c d];exact lU h c (wD ⟨n,Z,Z,d⟩)
 ·by_cases b:k=2
  ·subst b;obtain⟨⟨t,s2⟩,d⟩:∃x,ez s1=x:=⟨_,rfl⟩;rw[sO c d];exact lU h c (wP (wD ⟨t,Z,Z,d⟩))
  ·rw[ut c a b];exact lU h c (v:=⟨k,0,⟨#[]⟩⟩) (s2:=(s1.1,true)) (wP (wP ⟨a,b,Z,Z⟩))
end
def aC:Rd am:=(Rd.int.X (Rd.int.X bL.list)).as fun f=>(f.id,f.u,f.a)
def dA:Rd jz:=(Rd.int.X Rd.int.list).as fun t=>(t.a,t.b)
def bH:Rd fZ:=(Rd.int.X (Rd.int.X (aC.list.X bL.list))).as fun r=>(r.h,r.u,r.a,r.b)
def dX:Rd fo:=(Rd.int.X (Rd.int.X bH)).as fun s=>(s.id,s.b,s.a)
def bG:Rd aQ:=((Rd.str.X (Rd.int.X (aC.list.X dA.list))).X (dX.list.X Rd.int)).as fun m=>((m.c,m.d,m.a,m.e),m.g,m.f)
def aP(w w':J) (b:Nat):Prop:=w.heap.size≤b∧b<w'.heap.size
def lc(W W':J) (v a:tT) (n:Nat):Prop:=
 (∃g cap,v=O (A ⟨g,0,Y⟩) n cap∧a=O (A ⟨g,0,Y⟩) (n+1) cap∧W.grownBy W' (A g))∨(∃cap,a=O (A ⟨W.heap.size,0,Y⟩) (n+1) cap∧Gl W W')
def sq{α:Type} (w:J) (R g:Nat) (E:TypeId) (r:Rd α) (res:List α×WSt) (e:Ending) (w':J):Prop:=
 ∃v,e=wj v∧bg w R g res.2 w'∧aw w' (fun b=>aP w w' b∧v.ownBlock≠A b) E r res.1 v∧∀b,v.ownBlock=A b→w.heap.size≤b
theorem count_le(s:WSt):(bp s).1≤65536:=by
 unfold bp
 split
 ·exact FR _
 ·rename_i h
  simp only[Bool.or_eq_true,oX,not_or]at h
  show (aD 4 s).1.toNat≤65536
  omega
theorem qy{α:Type}{r:Rd α}{E:TypeId}{w v w4 C W2:J}{R g:Nat}{V st y:WSt}{xs:List α}{x:α}{vs us:List tT}{p:Option Addr}{m c:Nat}{v9:tT}(X:xs.length=m)(S:bv w R g V)(d:bg w R g st v)(a:bg v R g y w4)(t:Gl w4 C)(i:lc C W2 (O p m c) v9 m)
  (D:r.z v (fun b=>aP w v b∧(O p m c).ownBlock≠A b) xs us) (j:∀b,(O p m c).ownBlock=A b→w.heap.size≤b) (hx:r.at_ w4 (fun b=>aP v w4 b) x vs) (z:W2.ownsRow 0 E r.n v9 (m+1) (us++vs)) (F:∀b,(O p m c).ownBlock=A b→b<v.heap.size) :
  bg w R g y W2∧∃k cap,v9=O (A ⟨k,0,Y⟩) (m+1) cap∧aw W2 (fun b=>aP w W2 b∧v9.ownBlock≠A b) E r (xs++[x]) v9∧∀b,v9.ownBlock=A b→w.heap.size≤b:=by
 have hR:=S.lt;have ad:=S.lt2;have af:=d.1.size;have aq:=a.1.size;have u:=t.size;have f:Chg (fun b=>(O p m c).ownBlock=A b) w4 W2:=by
  rcases i with ⟨g1,cap,e,_,i⟩|⟨cap,_,i⟩
  ·have l:Chg (fun b=>(O p m c).ownBlock=A b) w4 C:=Chg.t t;exact⟨i.os.trans l.os,i.tape.trans l.a,i.output.trans l.c,FH u i.size,fun b G q=>(i.block b (by omega) (fun H=>q (by injection H with H;rw[e,←H];rfl))).trans (l.q b G q)⟩
  ·exact Chg.t (t.trans (i.mono u))
 obtain⟨k,cap,K,B⟩:∃k cap,v9=O (A ⟨k,0,Y⟩) (m+1) cap∧((O p m c).ownBlock=A k∨w4.heap.size≤k):=by
  rcases i with ⟨g1,cap,e,L,_⟩|⟨cap,L,_⟩
  ·exact⟨g1,cap,L,wD (by rw[e];rfl)⟩
  ·exact⟨_,cap,L,wP u⟩
 subst K;have M:=f.u
 refine⟨⟨⟨f.os.trans (ia d.1 a.1).os,f.a.trans (ia d.1 a.1).tape,f.c.trans (ia d.1 a.1).output,by omega,fun b G q=>(f.q b (by omega) (fun e=>by have:=j b e;omega)).trans ((ia d.1 a.1).block b G q)⟩,
  a.2.t (f.q R (by omega) (fun e=>by have:=j R e;omega)) (f.q g (by omega) (fun e=>by have:=j g e;omega)) M⟩,k,cap,Z,⟨us++vs,by rw[FT,X];exact z,?_⟩,fun b e=>?_⟩
 ·have N:r.z w4 (fun b=>aP w w4 b∧(O p m c).ownBlock≠A b) xs us:=Rd.tE (fun b h=>⟨⟨h.1.1,by have:=h.1.2;omega⟩,h.2⟩) (Rd.tv (fun b h o P=>(a.1.block b h.1.2 (fun e=>by injection e with e;have:=h.1.1;omega)).trans P) D)
  have Q:r.at_ w4 (fun b=>aP w w4 b∧(O p m c).ownBlock≠A b) x vs:=r.D (fun b h=>⟨⟨by have:=h.1;omega,h.2⟩,fun e=>by have:=F b e;have:=h.1;omega⟩) hx;refine Rd.tE (fun b h=>⟨⟨h.1.1,by have:=h.1.2;omega⟩,fun e=>?_⟩) (Rd.tv (fun b h o P=>(f.q b h.1.2 h.2).trans P) (Rd.sI N Q));injection e with e
  have e:k=b:=e;subst e;rcases B with T|T
  ·exact h.2 T
  ·have:=h.1.2;omega
 ·injection e with e
  have e:k=b:=e;subst e;rcases B with h|h
  ·exact j _ h
  ·omega
theorem pz:(Tryz.prog.info? 88).map (fun i=>(i.zero,i.size,i.bytes))=A (A (xk #[I tF 0,I U 0,tS ⟨#[]⟩]),3,32):=by kernel_rfl
section
variable {W:J} {R g:Nat} {s:WSt}
theorem qd(h:bv W R g s)(p:Option Addr)(n c:Nat):wg vo 108 #[vv (A ⟨R,0,Y⟩),O p n c] W fun e W'=>e=wj (if s.2 then O Y 0 0 else O p n c)∧W=W':=by
 obtain⟨_,_,_,a,_⟩:=h.z;obtain⟨l,b⟩:=s;dsimp only at a ⊢;clear h
 cases b with
 | true =>
  go_enter Tryz.func108,Tryz.ntmps108
  go_wp2_with fail
  go_ret;exact⟨Z,Z⟩
 | false =>
  go_enter Tryz.func108,Tryz.ntmps108
  go_wp2_with fail
  go_ret;exact⟨Z,Z⟩
theorem AX(s:WSt):jF (cE s).1:=by
 obtain⟨⟨k,s1⟩,c⟩:∃x,aD 1 s=x:=⟨_,rfl⟩;have d:jF bj.zero:=⟨⟨by decide,by decide⟩,⟨by decide,by decide⟩,FR _⟩
 by_cases a:k=1
 ·subst a;rw[uB c Z];dsimp only
  split
  ·exact d
  ·exact⟨(by decide:(0:Int)≤1∧(1:Int)<256),gk _,FR _⟩
 ·by_cases b:k=2
  ·subst b;rw[sO c Z];dsimp only
   split
   ·exact d
   ·refine⟨(by decide:(0:Int)≤2∧(2:Int)<256),(by decide:(-9223372036854775808:Int)≤0∧(0:Int)<9223372036854775808),?_⟩;have e:=count_le s1;have f:(aT (bp s1).1 (bp s1).2).1.length≤(bp s1).1:=by
     unfold aT
     split
     ·exact FR _
     ·exact List.length_take_le _ _
    show (aT (bp s1).1 (bp s1).2).1.toArray.size≤maxLen
    rw[List.size_toArray];unfold maxLen;omega
  ·rw[ut c a b];exact d
theorem vG(h:bv W R g s):wg vo 81 #[vv (A ⟨R,0,Y⟩)] W fun e W'=>∃a b c,e=wj (xk #[a,b,c])∧(∀u∈[a,b,c],u.oneCell'=true)∧bg W R g (cE s).2 W'∧bL.at_ W' (aP W W') (cE s).1 [a,b,c]:=by
 refine (xc h).mono ?_;rintro e W' ⟨rfl,d⟩;exact⟨_,_,_,Z,by simp[Value.oneCell'],d,eh.2 ⟨Z,AX s⟩⟩
def Bm(w:J) (R g:Nat) (all:List bj×WSt) (v i:tT) (W:J):Prop:=
 ∃(a:J) (k:Nat) (xs:List bj) (st:WSt),a=W∧i=I U k∧(xs++(cK cE k st).1,(cK cE k st).2)=all∧xs.length+k≤65536∧bg w R g st a∧aw a (fun b=>aP w a b∧v.ownBlock≠A b) 88 bL xs v∧∀b,v.ownBlock=A b→w.heap.size≤b
theorem sn(h:bv W R g s):wg vo 80 #[vv (A ⟨R,0,Y⟩),Value.func (.func 81) #[vv (A ⟨R,0,Y⟩)] #[]] W (sq W R g 88 bL (eE cE s)):=by
 have X:=lM h;have hn:(bp s).1≤65536:=count_le s;unfold eE;obtain⟨⟨n,s1⟩,N⟩:∃x,bp s=x:=⟨_,rfl⟩;rw[N]at X hn ⊢;dsimp only at X hn ⊢;obtain⟨all,w⟩:=zzy (cK cE n s1);rw[w];obtain⟨res,d⟩:∃x:List bj×WSt,(if all.2.2=true then [] else all.1,all.2)=x:=⟨_,rfl⟩;rw[d];obtain⟨ad,X,af,HR⟩:=zz4 d X w h;have hR:=h.lt;obtain⟨ti,bq,bt,bB,bR⟩:=info_parts pz;clear h N w d
 go_enter Tryz.func80,Tryz.ntmps80
 go_wp2_with fail
 refine X.o.mono ?_;rintro e w2 ⟨rfl,q⟩;have b0:=Hd q;clear q X;go_wp2_with fail
 go_loopw [5,6] (Bm W R g all) (fun _ i _=>(intOf i).toNat)
 case atStart=>exact⟨_,n,[],s1,Z,Z,by rw[←af.o];rfl,by simpa using hn,b0.o,aw.nil,fun b h=>by cases h⟩
 case round =>
  obtain⟨W1,k,xs,st,rfl,rfl,heq,hle,q,t,z⟩:=hrel;obtain⟨_,_,_,c1,_⟩:=q.2.z;obtain⟨l,H⟩:=st;dsimp only at c1;obtain⟨p,c,rfl⟩:=t.q;obtain⟨m,hm⟩:=zzy (xs.length);rw[hm]at hle t z ⊢;obtain⟨HM,HEq,M,B,f⟩:=zz5 hm heq t z q;have N:=q.1.size;clear q t z heq hm
  by_cases K:k=0∨H=true
  ·have hend:(xs,((l,H):WSt))=all:=by
    rw[←HEq.o]
    cases k with
    | zero=>simp[cK]
    | succ k =>
     rcases K with h|rfl
     ·omega
     ·simp[cK]
   have d:((if H=true then [] else xs),((l,H):WSt))=res:=by rw[←ad.o,←hend]
   obtain⟨C,P⟩:=zz2 d (qd f.o.2 p m c);have b1:k=0∧H=false∨H=true:=by
    rcases K with h|h
    ·cases H
     ·exact wD ⟨h,Z⟩
     ·exact wP Z
    ·exact wP h
   have aq:0<k∨k=0:=by omega
   clear hend d K;rcases b1 with ⟨rfl,rfl⟩|rfl
   ·go_wp2_with fail
    refine P.o.mono ?_;rintro e w4 ⟨rfl,rfl⟩;go_wp2_with fail
    go_ret;rw[←C.o];exact⟨_,Z,f.o,M.o,B.o⟩
   ·rcases aq with aq|rfl
    ·have ar:(0:Int)<k:=by omega
     go_wp2_with fail
     refine P.o.mono ?_;rintro e w4 ⟨rfl,rfl⟩;go_wp2_with fail
     go_ret;rw[←C.o];exact⟨_,Z,f.o,aw.nil,fun b h=>by cases h⟩
    ·go_wp2_with fail
     refine P.o.mono ?_;rintro e w4 ⟨rfl,rfl⟩;go_wp2_with fail
     go_ret;rw[←C.o];exact⟨_,Z,f.o,aw.nil,fun b h=>by cases h⟩
  ·obtain⟨k',rfl⟩:∃k',k=k'+1:=⟨k-1,by omega⟩;obtain rfl:H=false:=by cases H<;>simp_all
   have ar:(0:Int)<((k'+1:Nat):Int):=by omega
   have D:=vG f.o.2;have E:(xs++(cE (l,false)).1::(cK cE k' (cE (l,false)).2).1,(cK cE k' (cE (l,false)).2).2)=all:=by rw[←HEq.o];simp[cK]
   obtain⟨⟨x,b2⟩,hx⟩:∃y,cE (l,false)=y:=⟨_,rfl⟩;rw[hx]at D E;obtain⟨a1,a6⟩:=zz2 D E;clear D E hx K;go_wp2_with fail
   refine a1.o.mono ?_;rintro e w4 ⟨y0,y1,y2,rfl,ba,u,bb⟩;obtain⟨bk,b3⟩:=zz2 u bb;obtain⟨us,a,bl⟩:=M.o;rw[HM.o]at a;have F:w4.ownsRow 0 88 3 (O p m c) m us:=cO a fun b hb=>u.1.block b (aL a b hb).2 (fun e=>by injection e with e;have:=B.o b hb;omega)
   obtain⟨b4,b5,Q⟩:=zz3 bl (fun b hb=>(aL a b hb).2) F;have b9:=u.1.size;have G:=i5 w4 [y0,y1,y2] 88;obtain⟨b6,b7⟩:=zz2 G ba;clear u bb a bl F G c1 ba;go_wp2_with (at_builtin;go_must (refine cj _ Z (.tmp 23) (.tmp 26) 45 Z 0 88 ti _ 3 32 Tryz.underlying45 bq bt bB bR Z (by decide) (O p m c) m us Z (Q.o.alloc _) ⟨w4.heap.size,0,Y⟩ 1 1 [y0,y1,y2] Z Z b6.o b7.o (by unfold maxLen;omega) (by omega) (by omega) (by decide) ?_);intro v9 W2 j v;obtain⟨S,L⟩:=zz2 j v;clear j v)
   obtain⟨w5,bm⟩:=zzx (w4.alloc (r9 #[y0,y1,y2] 88));have b8:Gl w4 w5:=by rw[bm];exact (Fz _ w4).alloc (Fy _) _
   have T:lc w5 W2 (O p m c) v9 m:=by rw[bm];exact L.o
   obtain⟨bn,gg,cap,rfl,V,j⟩:=qy (r:=bL) (x:=x) (vs:=[y0,y1,y2]) HM.o HR.o f.o bk.o b8 T b4.o B.o b3.o S.o b5.o;refine⟨⟨W2,k',xs++[x],b2,Z,by go_num,?_,?_,bn,V,j⟩,by simp[intOf]⟩
   ·rw[←a6.o];simp
   ·rw[FT,HM.o,Gi];omega
end
