/- Parts of one proof, joined; conditions stand in each theorem. -/
import Derived.Test.YtoahnjkclckodaaGreatDoorIB
import Derived.Test.YtoahnjkclckodaaGreatDoorNA
import Derived.Test.YtoahnjkclckodaaGreatDoorNB
open Go renaming World→J,Calls→vv,Value→tS
open Go.Proofs.Tryz renaming prog→va
open Go.Value renaming pointer→vo,int→I,string→r9,bool→xt,slice→O,agg→wP
open Option renaming some→A,none→Y
open Go.Ending renaming returned→wg
open Go.Obj renaming cells→r7
open Go.IntKind renaming u8→r8,i64→U
open Or renaming inl→wD,inr→wF
namespace Go.Proofs.YtoahnjkclckodaaGreatDoor
set_option maxHeartbeats 1000000
set_option maxRecDepth 100000
open Go.RowKit
section
variable {W:J} {R g:Nat} {s:WSt}
theorem xG{s s1 s2:WSt}{n:Int}(a:aw 1 s=(1,s1))(b:aw 8 s1=(n,s2)):bP s=(if s2.2 then .zero else ⟨1,n,⟨#[]⟩⟩,s2):=by
 unfold bP;simp only[a,b,oX]
theorem vh{s s1 s2:WSt}{t:ByteArray}(a:aw 1 s=(2,s1))(b:dO s1=(t,s2)):bP s=(if s2.2 then .zero else ⟨2,0,t⟩,s2):=by
 unfold bP;simp only[a,b,show ¬(2:Int)=1 by decide,oF,oX]
theorem xu{s s1:WSt}{k:Int}(c:aw 1 s=(k,s1))(a:k≠1)(b:k≠2):bP s=(.zero,s1.1,true):=by
 unfold bP;simp only[c,a,b,oF,oX]
theorem mO(h:bF W R g s){k:Int}{s1 s2:WSt}{v:aE}(h1:aw 1 s=(k,s1))(p:(∃n,k=1∧v=⟨1,n,⟨#[]⟩⟩∧aw 8 s1=(n,s2))∨(∃t,k=2∧v=⟨2,0,t⟩∧dO s1=(t,s2))∨(k≠1∧k≠2∧v=⟨k,0,⟨#[]⟩⟩∧s2=(s1.1,true))) :
  vv va 81 #[vo (A ⟨R,0,Y⟩)] W fun e W'=>e=wg (kh (if s2.2 then .zero else v))∧bv W R g s2 W':=by
 obtain⟨⟨vk,vn,vt⟩,T⟩:∃x:aE,(if s2.2=true then aE.zero else v)=x:=⟨_,rfl⟩;rw[T];have bl:=Hd T;clear T;obtain⟨V,u⟩:=zzx (W.alloc (r7 #[I r8 0,I U 0,r9 ⟨#[]⟩] 88));have F:Kr W V:=by rw[u];exact (JO _ W).alloc (JM _) _
 have aq:V.heap[W.heap.size]?=A (r7 #[I r8 0,I U 0,r9 ⟨#[]⟩] 88 (0,0)):=by rw[u];exact oc W _
 have X:=h.C F;have HK:=Hd (fB X);have r:=AT X;rw[h1]at r;dsimp only at r;obtain⟨r,bm,bn,ar,H,HC⟩:=zz6 r F aq u h p;have bB:=h.lt;have bq:=h.lt2;have a6:V.heap.size=W.heap.size+1:=by rw[u];simp
 have G:=Hd a6;clear h h1 p F aq X u a6
 go_enter Tryz.func81,Tryz.ntmps81
 go_upto_region 1 with fail
 change Code.wp _ _ _ _ (W.alloc (r7 #[I r8 0,I U 0,r9 ⟨#[]⟩] 88));rw[←ar.o];clear ar;go_wp2_with fail
 refine HK.o.mono ?_;rintro e w1 ⟨rfl,rfl⟩;go_wp2_with fail
 refine r.o.mono ?_;rintro e f ⟨rfl,K⟩;obtain⟨E,L⟩:=zzx (f.alloc (r7 #[I r8 k,I U 0,r9 ⟨#[]⟩] 88));have M:Kr f E:=by rw[L];exact (JO _ f).alloc (JM _) _
 have ad:E.heap[f.heap.size]?=A (r7 #[I r8 k,I U 0,r9 ⟨#[]⟩] 88 (0,0)):=by rw[L];exact oc f _
 have bR:=K.1.size;have b0:=M.size;have bt:f.heap.size<E.heap.size:=(JL.1 ad).1;have P:bv V R g s1 E:=K.C M;have ba:E.heap[W.heap.size]?=A (r7 #[I r8 0,I U 0,r9 ⟨#[]⟩] 88 (0,0)):=(M.block _ (by have:=G.o;omega)).trans (ap K.1 bn.o (by intro e;injection e with e;omega))
 obtain⟨b,N,af,bb⟩:=zz4 P ad ba L;have b1:W.heap.size<f.heap.size:=by have:=G.o;omega
 clear K M ad P ba L HK r;go_upto_region 4 with fail
 change Code.wp _ _ _ _ (f.alloc (r7 #[I r8 k,I U 0,r9 ⟨#[]⟩] 88));rw[←bb.o];clear bb;obtain⟨x0,x1,x2,f0,f1,f2⟩:=aL N.o;have w:Hid (∀(w4:J),bv V R g s2 w4→f.heap.size≠R→w4.heap[W.heap.size]?=A (r7 #[I r8 0,I U 0,r9 ⟨#[]⟩] 88 (0,0))→vv va 110 #[vo (A ⟨R,0,Y⟩),kh v] w4 fun e q=>e=wg (kh ⟨vk,vn,vt⟩)∧q.heap[W.heap.size]?=A (r7 #[I r8 0,I U 0,r9 ⟨#[]⟩] 88 (0,0))∧∀(x y z:tS),bv W R g s2 (((q.setCell ⟨W.heap.size,0,Y⟩ x).setCell ⟨W.heap.size,1,Y⟩ y).setCell ⟨W.heap.size,2,Y⟩ z)∧(((q.setCell ⟨W.heap.size,0,Y⟩ x).setCell ⟨W.heap.size,1,Y⟩ y).setCell ⟨W.heap.size,2,Y⟩ z).heap[W.heap.size]?=A (r7 #[x,y,z] 88 (0,0)) ):=fun w4 h4 _ hz=>(tY h4.2 v).mono fun e q h5=>by
   have bd:=aa h5.2 hz (JL.1 hz).1;have ht:bv W R g s2 q:=bv.ahead bm.o (h4.C h5.2);exact⟨by rw[←bl.o];exact h5.1,bd,fun x y z=>⟨((ht.far H.o (JM _) 0 x).far H.o (JM _) 1 y).far H.o (JM _) 2 z,pL bd x y z⟩⟩
 rcases HC.o with ⟨n,rfl,rfl,hn⟩|⟨t,rfl,rfl,ht⟩|⟨bg,bk,rfl,rfl⟩
 ·have B:=lT b.o.2;rw[hn]at B;have B:=Hd B;clear hn HC;go_wp2_with fail
  refine B.o.mono ?_;rintro e w4 ⟨rfl,a⟩;have i:=ap a.1 N.o (by intro e;injection e with e;omega)
  have C:=ap a.1 af.o (by intro e;injection e with e;omega)
  have c:(w4.setCell ⟨f.heap.size,1,Y⟩ (I U n)).heap[f.heap.size]?=A (r7 #[I r8 1,I U n,r9 ⟨#[]⟩] 88 (0,0)):=by rw[heap_set i 1];rfl
  have f4:=aB i 1;have q4:=(aL i).2.1;have p:=w.o (w4.setCell ⟨f.heap.size,1,Y⟩ (I U n)) ⟨bz (iH b.o.1 a.1) (by have:=G.o;omega) 1 _,a.2.set (by omega) (by omega) 1 _⟩ (by omega) ((oA _ _ _ _ (by show W.heap.size≠f.heap.size;omega)).trans C);obtain⟨q,d⟩:=zzx (w4.setCell ⟨f.heap.size,1,Y⟩ (I U n));rw[←d]at c p;obtain⟨j,l,D⟩:=zz3 d p c;clear x0 x1 x2 f0 f1 f2 B a i C c p d;go_upto_region 10 with fail
  rw[←j.o];clear j;obtain⟨x0,x1,x2,f0,f1,f2⟩:=aL D.o;go_wp2_with fail
  refine l.o.mono ?_;rintro e w6 ⟨rfl,m,Q⟩;obtain⟨y0,y1,y2,a0,a1,a2⟩:=aL m;have S:=Hd Q;unfold kh;clear Q l m;go_wp2_with fail
  exact fx Tryz.results81 (by simp[go_sem]) (by simp[go_sem]) Z (S.o _ _ _).2 ⟨Z,(S.o _ _ _).1⟩
 ·have B:=sM b.o.2;rw[ht]at B;have B:=Hd B;clear ht HC;go_wp2_with fail
  refine B.o.mono ?_;rintro e w4 ⟨rfl,a⟩;have i:=ap a.1 N.o (by intro e;injection e with e;omega)
  have C:=ap a.1 af.o (by intro e;injection e with e;omega)
  have c:(w4.setCell ⟨f.heap.size,2,Y⟩ (r9 t)).heap[f.heap.size]?=A (r7 #[I r8 2,I U 0,r9 t] 88 (0,0)):=by rw[heap_set i 2];rfl
  have f4:=aB i 2;have q4:=(aL i).2.2.1;have p:=w.o (w4.setCell ⟨f.heap.size,2,Y⟩ (r9 t)) ⟨bz (iH b.o.1 a.1) (by have:=G.o;omega) 2 _,a.2.set (by omega) (by omega) 2 _⟩ (by omega) ((oA _ _ _ _ (by show W.heap.size≠f.heap.size;omega)).trans C);obtain⟨q,d⟩:=zzx (w4.setCell ⟨f.heap.size,2,Y⟩ (r9 t));rw[←d]at c p;obtain⟨j,l,D⟩:=zz3 d p c;clear x0 x1 x2 f0 f1 f2 B a i C c p d;go_upto_region 10 with fail
  rw[←j.o];clear j;obtain⟨x0,x1,x2,f0,f1,f2⟩:=aL D.o;go_wp2_with fail
  refine l.o.mono ?_;rintro e w6 ⟨rfl,m,Q⟩;obtain⟨y0,y1,y2,a0,a1,a2⟩:=aL m;have S:=Hd Q;unfold kh;clear Q l m;go_wp2_with fail
  exact fx Tryz.results81 (by simp[go_sem]) (by simp[go_sem]) Z (S.o _ _ _).2 ⟨Z,(S.o _ _ _).1⟩
 ·obtain⟨_,_,_,c1,_,g1,_⟩:=b.o.2.z;have p:=w.o (E.setCell ⟨R,1,Y⟩ (xt true)) ⟨ec b.o.1 1 _,b.o.2.q true⟩ (by omega) ((oA _ _ _ _ (by show W.heap.size≠R;omega)).trans af.o);have c:(E.setCell ⟨R,1,Y⟩ (xt true)).heap[f.heap.size]?=A (r7 #[I r8 k,I U 0,r9 ⟨#[]⟩] 88 (0,0)):=(oA _ _ _ _ (by show f.heap.size≠R;omega)).trans N.o;obtain⟨q,d⟩:=zzx (E.setCell ⟨R,1,Y⟩ (xt true));rw[←d]at c p;obtain⟨j,l,D⟩:=zz3 d p c;have F:(k==1)=false:=by simpa using bg
  have b2:(k==2)=false:=by simpa using bk
  clear c p d HC bg bk;go_upto_region 10 with fail
  rw[←j.o];clear j x0 x1 x2 f0 f1 f2;obtain⟨x0,x1,x2,f0,f1,f2⟩:=aL D.o;go_wp2_with fail
  refine l.o.mono ?_;rintro e w6 ⟨rfl,m,Q⟩;obtain⟨y0,y1,y2,a0,a1,a2⟩:=aL m;have S:=Hd Q;unfold kh;clear Q l m;go_wp2_with fail
  exact fx Tryz.results81 (by simp[go_sem]) (by simp[go_sem]) Z (S.o _ _ _).2 ⟨Z,(S.o _ _ _).1⟩
theorem zW(h:bF W R g s):vv va 81 #[vo (A ⟨R,0,Y⟩)] W fun e W'=>e=wg (kh (bP s).1)∧bv W R g (bP s).2 W':=by
 obtain⟨⟨k,s1⟩,c⟩:∃x,aw 1 s=x:=⟨_,rfl⟩
 by_cases a:k=1
 ·subst a;obtain⟨⟨n,s2⟩,d⟩:∃x,aw 8 s1=x:=⟨_,rfl⟩;rw[xG c d];exact mO h c (wD ⟨n,Z,Z,d⟩)
 ·by_cases b:k=2
  ·subst b;obtain⟨⟨t,s2⟩,d⟩:∃x,dO s1=x:=⟨_,rfl⟩;rw[vh c d];exact mO h c (wF (wD ⟨t,Z,Z,d⟩))
  ·rw[xu c a b];exact mO h c (v:=⟨k,0,⟨#[]⟩⟩) (s2:=(s1.1,true)) (wF (wF ⟨a,b,Z,Z⟩))
end
def aG:Rd ai:=(Rd.int.rv (Rd.int.rv bK.list)).as fun f=>(f.id,f.u,f.c)
def dx:Rd io:=(Rd.int.rv Rd.int.list).as fun t=>(t.a,t.b)
def bJ:Rd eb:=(Rd.int.rv (Rd.int.rv (aG.list.rv bK.list))).as fun r=>(r.h,r.u,r.a,r.b)
def ea:Rd dM:=(Rd.int.rv (Rd.int.rv bJ)).as fun s=>(s.id,s.b,s.a)
def bG:Rd au:=((Rd.str.rv (Rd.int.rv (aG.list.rv dx.list))).rv (ea.list.rv Rd.int)).as fun m=>((m.c,m.g,m.a,m.d),m.e,m.h)
def aW(w w':J) (b:Nat):Prop:=w.heap.size≤b∧b<w'.heap.size
def lW(W W':J) (v a:tS) (n:Nat):Prop:=
 (∃g cap,v=O (A ⟨g,0,Y⟩) n cap∧a=O (A ⟨g,0,Y⟩) (n+1) cap∧W.grownBy W' (A g))∨(∃cap,a=O (A ⟨W.heap.size,0,Y⟩) (n+1) cap∧Kr W W')
def uH{α:Type} (w:J) (R g:Nat) (E:TypeId) (r:Rd α) (res:List α×WSt) (e:Ending) (w':J):Prop:=
 ∃v,e=wg v∧bv w R g res.2 w'∧aA w' (fun b=>aW w w' b∧v.ownBlock≠A b) E r res.1 v∧∀b,v.ownBlock=A b→w.heap.size≤b
theorem count_le(s:WSt):(bf s).1≤65536:=by
 unfold bf
 split
 ·exact J0 _
 ·rename_i h
  simp only[Bool.or_eq_true,oB,not_or]at h
  show (aw 4 s).1.toNat≤65536
  omega
theorem sB{α:Type}{r:Rd α}{E:TypeId}{w v w4 C W2:J}{R g:Nat}{V st y:WSt}{xs:List α}{x:α}{vs us:List tS}{p:Option Addr}{m c:Nat}{v9:tS}(X:xs.length=m)(S:bF w R g V)(d:bv w R g st v)(a:bv v R g y w4)(t:Kr w4 C)(i:lW C W2 (O p m c) v9 m)
  (D:r.z v (fun b=>aW w v b∧(O p m c).ownBlock≠A b) xs us) (j:∀b,(O p m c).ownBlock=A b→w.heap.size≤b) (hx:r.at_ w4 (fun b=>aW v w4 b) x vs) (z:W2.ownsRow 0 E r.n v9 (m+1) (us++vs)) (F:∀b,(O p m c).ownBlock=A b→b<v.heap.size) :
  bv w R g y W2∧∃k cap,v9=O (A ⟨k,0,Y⟩) (m+1) cap∧aA W2 (fun b=>aW w W2 b∧v9.ownBlock≠A b) E r (xs++[x]) v9∧∀b,v9.ownBlock=A b→w.heap.size≤b:=by
 have hR:=S.lt;have ad:=S.lt2;have af:=d.1.size;have aq:=a.1.size;have u:=t.size;have f:Chg (fun b=>(O p m c).ownBlock=A b) w4 W2:=by
  rcases i with ⟨g1,cap,e,_,i⟩|⟨cap,_,i⟩
  ·have l:Chg (fun b=>(O p m c).ownBlock=A b) w4 C:=Chg.u t;exact⟨i.os.trans l.os,i.tape.trans l.a,i.output.trans l.c,JU u i.size,fun b G q=>(i.block b (by omega) (fun H=>q (by injection H with H;rw[e,←H];rfl))).trans (l.q b G q)⟩
  ·exact Chg.u (t.trans (i.mono u))
 obtain⟨k,cap,K,B⟩:∃k cap,v9=O (A ⟨k,0,Y⟩) (m+1) cap∧((O p m c).ownBlock=A k∨w4.heap.size≤k):=by
  rcases i with ⟨g1,cap,e,L,_⟩|⟨cap,L,_⟩
  ·exact⟨g1,cap,L,wD (by rw[e];rfl)⟩
  ·exact⟨_,cap,L,wF u⟩
 subst K;have M:=f.z
 refine⟨⟨⟨f.os.trans (iH d.1 a.1).os,f.a.trans (iH d.1 a.1).tape,f.c.trans (iH d.1 a.1).output,by omega,fun b G q=>(f.q b (by omega) (fun e=>by have:=j b e;omega)).trans ((iH d.1 a.1).block b G q)⟩,
  a.2.K (f.q R (by omega) (fun e=>by have:=j R e;omega)) (f.q g (by omega) (fun e=>by have:=j g e;omega)) M⟩,k,cap,Z,⟨us++vs,by rw[J2,X];exact z,?_⟩,fun b e=>?_⟩
 ·have N:r.z w4 (fun b=>aW w w4 b∧(O p m c).ownBlock≠A b) xs us:=Rd.tF (fun b h=>⟨⟨h.1.1,by have:=h.1.2;omega⟩,h.2⟩) (Rd.tE (fun b h o P=>(a.1.block b h.1.2 (fun e=>by injection e with e;have:=h.1.1;omega)).trans P) D)
  have Q:r.at_ w4 (fun b=>aW w w4 b∧(O p m c).ownBlock≠A b) x vs:=r.N (fun b h=>⟨⟨by have:=h.1;omega,h.2⟩,fun e=>by have:=F b e;have:=h.1;omega⟩) hx;refine Rd.tF (fun b h=>⟨⟨h.1.1,by have:=h.1.2;omega⟩,fun e=>?_⟩) (Rd.tE (fun b h o P=>(f.q b h.1.2 h.2).trans P) (Rd.th N Q));injection e with e
  have e:k=b:=e;subst e;rcases B with T|T
  ·exact h.2 T
  ·have:=h.1.2;omega
 ·injection e with e
  have e:k=b:=e;subst e;rcases B with h|h
  ·exact j _ h
  ·omega
theorem ri:(Tryz.prog.info? 88).map (fun i=>(i.zero,i.size,i.bytes))=A (A (wP #[I r8 0,I U 0,r9 ⟨#[]⟩]),3,32):=by kernel_rfl
section
variable {W:J} {R g:Nat} {s:WSt}
theorem rT(h:bF W R g s)(p:Option Addr)(n c:Nat):vv va 108 #[vo (A ⟨R,0,Y⟩),O p n c] W fun e W'=>e=wg (if s.2 then O Y 0 0 else O p n c)∧W=W':=by
 obtain⟨_,_,_,a,_⟩:=h.z;obtain⟨l,b⟩:=s;dsimp only at a ⊢;clear h
 cases b with
 | true =>
  go_enter Tryz.func108,Tryz.ntmps108
  go_wp2_with fail
  go_ret;exact⟨Z,Z⟩
 | false =>
  go_enter Tryz.func108,Tryz.ntmps108
  go_wp2_with fail
  go_ret;exact⟨Z,Z⟩
theorem El(s:WSt):gy (bP s).1:=by
 obtain⟨⟨k,s1⟩,c⟩:∃x,aw 1 s=x:=⟨_,rfl⟩;have d:gy aE.zero:=⟨⟨by decide,by decide⟩,⟨by decide,by decide⟩,J0 _⟩
 by_cases a:k=1
 ·subst a;rw[xG c Z];dsimp only
  split
  ·exact d
  ·exact⟨(by decide:(0:Int)≤1∧(1:Int)<256),gu _,J0 _⟩
 ·by_cases b:k=2
  ·subst b;rw[vh c Z];dsimp only
   split
   ·exact d
   ·refine⟨(by decide:(0:Int)≤2∧(2:Int)<256),(by decide:(-9223372036854775808:Int)≤0∧(0:Int)<9223372036854775808),?_⟩;have e:=count_le s1;have f:(aT (bf s1).1 (bf s1).2).1.length≤(bf s1).1:=by
     unfold aT
     split
     ·exact J0 _
     ·exact List.length_take_le _ _
    show (aT (bf s1).1 (bf s1).2).1.toArray.size≤maxLen
    rw[List.size_toArray];unfold maxLen;omega
  ·rw[xu c a b];exact d
theorem yP(h:bF W R g s):vv va 81 #[vo (A ⟨R,0,Y⟩)] W fun e W'=>∃a b c,e=wg (wP #[a,b,c])∧(∀u∈[a,b,c],u.oneCell'=true)∧bv W R g (bP s).2 W'∧bK.at_ W' (aW W W') (bP s).1 [a,b,c]:=by
 refine (zW h).mono ?_;rintro e W' ⟨rfl,d⟩;exact⟨_,_,_,Z,by simp[Value.oneCell'],d,dX.2 ⟨Z,El s⟩⟩
def EG(w:J) (R g:Nat) (all:List aE×WSt) (v i:tS) (W:J):Prop:=
 ∃(a:J) (k:Nat) (xs:List aE) (st:WSt),a=W∧i=I U k∧(xs++(bQ bP k st).1,(bQ bP k st).2)=all∧xs.length+k≤65536∧bv w R g st a∧aA a (fun b=>aW w a b∧v.ownBlock≠A b) 88 bK xs v∧∀b,v.ownBlock=A b→w.heap.size≤b
theorem uF(h:bF W R g s):vv va 80 #[vo (A ⟨R,0,Y⟩),Value.func (.func 81) #[vo (A ⟨R,0,Y⟩)] #[]] W (uH W R g 88 bK (dp bP s)):=by
 have X:=mH h;have hn:(bf s).1≤65536:=count_le s;unfold dp;obtain⟨⟨n,s1⟩,N⟩:∃x,bf s=x:=⟨_,rfl⟩;rw[N]at X hn ⊢;dsimp only at X hn ⊢;obtain⟨all,w⟩:=zzy (bQ bP n s1);rw[w];obtain⟨res,d⟩:∃x:List aE×WSt,(if all.2.2=true then [] else all.1,all.2)=x:=⟨_,rfl⟩;rw[d];obtain⟨ad,X,af,HR⟩:=zz4 d X w h;have hR:=h.lt;obtain⟨ti,bn,bq,bt,bB⟩:=info_parts ri;clear h N w d
 go_enter Tryz.func80,Tryz.ntmps80
 go_wp2_with fail
 refine X.o.mono ?_;rintro e w2 ⟨rfl,q⟩;have bR:=Hd q;clear q X;go_wp2_with fail
 go_loopw [5,6] (EG W R g all) (fun _ i _=>(intOf i).toNat)
 case atStart=>exact⟨_,n,[],s1,Z,Z,by rw[←af.o];rfl,by simpa using hn,bR.o,aA.nil,fun b h=>by cases h⟩
 case round =>
  obtain⟨W1,k,xs,st,rfl,rfl,heq,hle,q,t,z⟩:=hrel;obtain⟨_,_,_,c1,_⟩:=q.2.z;obtain⟨l,H⟩:=st;dsimp only at c1;obtain⟨p,c,rfl⟩:=t.q;obtain⟨m,hm⟩:=zzy (xs.length);rw[hm]at hle t z ⊢;obtain⟨HM,HEq,M,B,f⟩:=zz5 hm heq t z q;have N:=q.1.size;clear q t z heq hm
  by_cases K:k=0∨H=true
  ·have hend:(xs,((l,H):WSt))=all:=by
    rw[←HEq.o]
    cases k with
    | zero=>simp[bQ]
    | succ k =>
     rcases K with h|rfl
     ·omega
     ·simp[bQ]
   have d:((if H=true then [] else xs),((l,H):WSt))=res:=by rw[←ad.o,←hend]
   obtain⟨C,P⟩:=zz2 d (rT f.o.2 p m c);have b0:k=0∧H=false∨H=true:=by
    rcases K with h|h
    ·cases H
     ·exact wD ⟨h,Z⟩
     ·exact wF Z
    ·exact wF h
   have aq:0<k∨k=0:=by omega
   clear hend d K;rcases b0 with ⟨rfl,rfl⟩|rfl
   ·go_wp2_with fail
    refine P.o.mono ?_;rintro e w4 ⟨rfl,rfl⟩;go_wp2_with fail
    go_ret;rw[←C.o];exact⟨_,Z,f.o,M.o,B.o⟩
   ·rcases aq with aq|rfl
    ·have ar:(0:Int)<k:=by omega
     go_wp2_with fail
     refine P.o.mono ?_;rintro e w4 ⟨rfl,rfl⟩;go_wp2_with fail
     go_ret;rw[←C.o];exact⟨_,Z,f.o,aA.nil,fun b h=>by cases h⟩
    ·go_wp2_with fail
     refine P.o.mono ?_;rintro e w4 ⟨rfl,rfl⟩;go_wp2_with fail
     go_ret;rw[←C.o];exact⟨_,Z,f.o,aA.nil,fun b h=>by cases h⟩
  ·obtain⟨k',rfl⟩:∃k',k=k'+1:=⟨k-1,by omega⟩;obtain rfl:H=false:=by cases H<;>simp_all
   have ar:(0:Int)<((k'+1:Nat):Int):=by omega
   have D:=yP f.o.2;have E:(xs++(bP (l,false)).1::(bQ bP k' (bP (l,false)).2).1,(bQ bP k' (bP (l,false)).2).2)=all:=by rw[←HEq.o];simp[bQ]
   obtain⟨⟨x,b1⟩,hx⟩:∃y,bP (l,false)=y:=⟨_,rfl⟩;rw[hx]at D E;obtain⟨a1,a6⟩:=zz2 D E;clear D E hx K;go_wp2_with fail
   refine a1.o.mono ?_;rintro e w4 ⟨y0,y1,y2,rfl,ba,u,bb⟩;obtain⟨bg,b2⟩:=zz2 u bb;obtain⟨us,a,bk⟩:=M.o;rw[HM.o]at a;have F:w4.ownsRow 0 88 3 (O p m c) m us:=dj a fun b hb=>u.1.block b (aP a b hb).2 (fun e=>by injection e with e;have:=B.o b hb;omega)
   obtain⟨b3,b4,Q⟩:=zz3 bk (fun b hb=>(aP a b hb).2) F;have b8:=u.1.size;have G:=jx w4 [y0,y1,y2] 88;obtain⟨b5,b6⟩:=zz2 G ba;clear u bb a bk F G c1 ba;go_wp2_with (at_builtin;go_must (refine bS _ Z (.tmp 23) (.tmp 26) 45 Z 0 88 ti _ 3 32 Tryz.underlying45 bn bq bt bB Z (by decide) (O p m c) m us Z (Q.o.alloc _) ⟨w4.heap.size,0,Y⟩ 1 1 [y0,y1,y2] Z Z b5.o b6.o (by unfold maxLen;omega) (by omega) (by omega) (by decide) ?_);intro v9 W2 j v;obtain⟨S,L⟩:=zz2 j v;clear j v)
   obtain⟨w5,bl⟩:=zzx (w4.alloc (r7 #[y0,y1,y2] 88));have b7:Kr w4 w5:=by rw[bl];exact (JO _ w4).alloc (JM _) _
   have T:lW w5 W2 (O p m c) v9 m:=by rw[bl];exact L.o
   obtain⟨bm,gg,cap,rfl,V,j⟩:=sB (r:=bK) (x:=x) (vs:=[y0,y1,y2]) HM.o HR.o f.o bg.o b7 T b3.o B.o b2.o S.o b4.o;refine⟨⟨W2,k',xs++[x],b1,Z,by go_num,?_,?_,bm,V,j⟩,by simp[intOf]⟩
   ·rw[←a6.o];simp
   ·rw[J2,HM.o,Ko];omega
end
