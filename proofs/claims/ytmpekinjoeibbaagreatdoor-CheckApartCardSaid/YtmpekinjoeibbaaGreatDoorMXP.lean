/- The parser: a source's program, or its fault; by contract. Condition: the library's table of blanks lies as laid. -/
import Derived.Test.YtmpekinjoeibbaaGreatDoorMXN
import Derived.Test.YtmpekinjoeibbaaGreatDoorMZK
import Derived.Test.YtmpekinjoeibbaaGreatDoorMJ
import Derived.RegionTactic
open Go renaming World→p7,Value→r3,undef→tT
open Or renaming inl→tE,inr→tS
open Go.Ending renaming returned→tF
open Go.Value renaming tuple→wF,agg→s3,int→I,string→p9,slice→O,pointer→tv,bool→ur
open Go.IntKind renaming u8→J,i64→Y
open Option renaming some→A,none→V
open Go.Obj renaming cells→p8
open Go.World renaming cell?→xj,setCell→xD
namespace Go.Proofs.YtmpekinjoeibbaaGreatDoor
set_option maxHeartbeats 4000000
set_option maxRecDepth 100000
open Go.RowKit
def tG(s:ByteArray):ah:=.mk 1 ⟨#[]⟩ 0 0 (kQ (fC s)).1
def tH(ts:List Tok) (R:List ah×PS) (a:ah):ah×Int×Int:=
 if R.2.2=true then (fB,202,atM ts R.2)
 else match dpM 30 a with
  | some p=>(fB,203,p)
  | none=>if iO 30 a=true then (a,0,0) else (fB,204,0)
def fV(s:ByteArray):ah×Int×Int:=
 if 16384<s.size then (fB,3,0)
 else match (aG s 0).2 with
  | some (er,pl)=>(fB,er,pl)
  | none=>tH (fC s) (kQ (fC s)) (tG s)
def dt(W:p7) (L d:Nat) (a:List ah) (v:r3):Prop:=∃(rows:List (List r3)) (b:Nat→Nat→Prop),W.ownsRow L 64 5 v a.length rows.flatten∧cy W L d a a.length v.ownBlock rows b
theorem dt.C{W W':p7}{L d:Nat}{g:List ah}{v:r3}(h:dt W L d g v)(f:FS W W'):dt W' L d g v:=by
 obtain⟨rows,j,k,l,r2,m,r4,n,o⟩:=h;refine⟨rows,j,ownsRow_below k f,l,r2,fun i T p q=>?_,fun i b e=>⟨(r4 i b e).1,EY (r4 i b e).2.1 f.size,(r4 i b e).2.2⟩,n,o⟩;obtain⟨a,s,b,c⟩:=m i T p q;exact⟨a,s,b,c.C (fun b e=>(r4 i b e).2.1) f⟩
theorem dt.t{W W':p7}{L d:Nat}{j:List ah}{v:r3}(h:dt W L d j v)(p:W.heap.size≤W'.heap.size)(k:∀b,L≤b→b<W.heap.size→W'.heap[b]?=W.heap[b]?):dt W' L d j v:=by
 obtain⟨rows,q,⟨r,f⟩,t,r2,u,r4,w,y⟩:=h;refine⟨rows,q,⟨r,?_⟩,t,r2,fun i T z B=>?_,fun i b e=>⟨(r4 i b e).1,EY (r4 i b e).2.1 p,(r4 i b e).2.2⟩,w,y⟩
 ·rcases f with f|⟨g,cap,cur,C,l,m,D⟩
  ·exact tE f
  ·exact tS ⟨g,cap,cur,C,l,(k g l (ES.1 m).1).trans m,D⟩
 ·obtain⟨a,s,b,c⟩:=u i T z B;exact⟨a,s,b,c.t fun x o n E=>(k x (r4 i x n).1 (r4 i x n).2.1).trans E⟩
theorem dt.low{W:p7}{L a d:Nat}{c:List ah}{v:r3}(h:dt W L d c v)(e:a≤L):dt W a d c v:=by
 obtain⟨rows,g,j,k,r2,l,r4,m,n⟩:=h;exact⟨rows,g,ownsRow_base j e,k,r2,l,fun i b f=>⟨EZ e (r4 i b f).1,(r4 i b f).2⟩,m,n⟩
def rH(w:p7) (r:ah×Int×Int) (e:Ending) (w':p7):Prop:=
 ∃(a:r3),e=tF (wF #[s3 #[I J r.1.b,p9 r.1.h,I Y r.1.q,I Y r.1.t,a],s3 #[I Y r.2.1,I Y r.2.2]])∧FS w w'∧OwnAt w' 30 r.1.u a (bG w.heap.size w'.heap.size)∧Fits r.1∧(∀d,dH d r.1)∧dt w' w.heap.size 29 r.1.u a
def uM(w:p7) (P L cap:Nat) (ts:List Tok) (R:List ah×PS) (b:Nat) (W:p7):Prop:=
 ∃(g:Nat) (a:List ah) (σ:PS) (d:Nat) (rows:List (List r3)) (c:Nat→Nat→Prop) (o:r3),ml ts g a σ=R∧(σ.2=true∨ts.length-σ.1+1≤g)∧a.length≤σ.1+(if σ.2=true then 1 else 0)∧
  ax w P L cap ts σ.1 σ.2 W∧W.heap[b]?=A (p8 #[I J 1,p9 ⟨#[]⟩,I Y 0,I Y 0,o] 64 (0,0))∧
  W.ownsRow (b+1) 64 5 o a.length rows.flatten∧cy W (b+1) d a a.length o.ownBlock rows c
theorem sd{W:p7}:∀{n d:Nat} {a:List ah} {b:r3} {F:Nat→Prop},OwnAt W d a b F→(∀t∈a,dpM n t=V)→OwnAt W n a b F:=by
 intro n
 induction n with
 | zero =>
  intro d a b F h c;have f:a=[]:=by
   cases a with
   | nil=>rfl
   | cons t r=>have:=c t (List.mem_cons_self ..);cases this
  subst f;exact⟨Z,h.nil⟩
 | succ n j =>
  intro d a b F h c
  cases d with
  | zero=>exact tE h
  | succ d =>
   rcases h with h|⟨g,cap,cs,k,l,m,o,p,q,u,v,w,x,y⟩
   ·exact tE h
   ·refine tS ⟨g,cap,cs,k,l,m,o,p,q,u,v,fun i T e=>?_,x,y⟩;obtain⟨z,s,B,C⟩:=w i T e;refine⟨z,s,B,j C fun t D=>?_⟩;have:=c T (Fv e);unfold dpM at this;rw[List.findSome?_eq_none_iff]at this;exact this t D
theorem dt.depth{W:p7}{L d n:Nat}{e:List ah}{v:r3}(h:dt W L d e v)(g:∀t∈e,dpM (n+1) t=V):dt W L n e v:=by
 obtain⟨rows,j,k,l,r2,m,r4⟩:=h;refine⟨rows,j,k,l,r2,fun i T o f=>?_,r4⟩;obtain⟨a,s,b,c⟩:=m i T o f;refine⟨a,s,b,sd c fun t p=>?_⟩;have:=g T (Fv f);unfold dpM at this;rw[List.findSome?_eq_none_iff]at this;exact this t p
theorem dt.y{W:p7}{L d:Nat}{e:List ah}{v:r3}(h:dt W L d e v):dt W L (d+1) e v:=by
 obtain⟨rows,f,g,j,r2,k,r4⟩:=h;exact⟨rows,f,g,j,r2,fun i T l m=>by obtain⟨a,s,b,c⟩:=k i T l m;exact⟨a,s,b,c.y⟩,r4⟩
theorem Ap(W:p7)(L d:Nat):dt W L d [] (O V 0 0):=⟨[],fun _ _=>False,World.ownsRow_nil _ _ _ _,kS _ _ _ _⟩
theorem zN:Fits fB:=fg (by omega) (by show (0:Nat)≤16384;omega) (by omega) (by omega)
theorem mQ(a:List ah):Fits (.mk 1 ⟨#[]⟩ 0 0 a):=fg (by omega) (by show (0:Nat)≤16384;omega) (by omega) (by omega)
theorem qQ{w W0 W:p7}{P L cap k:Nat}{bad:Bool}{ts:List Tok}(a:FS w W0)(b:ax W0 P L cap ts k bad W)(d:w.heap.size≤P):FS w W:=
 ⟨b.1.os.trans a.os,b.1.tape.trans a.tape,b.1.output.trans a.output,EZ a.size b.1.size,fun i c=>(b.1.block i (EY c a.size) (fun e=>by injection e with e;omega)).trans (a.block i c)⟩
theorem kx{w W:p7}{a:Act}{v0 v1 v2 v3 v4 c d:r3}{R:Ending→p7→Prop}(h:a.tmps.getD 2 tT=tv (A ⟨w.heap.size,0,V⟩))(i:a.tmps.getD 3 tT=tv (A ⟨w.heap.size+1,0,V⟩))(j:a.defers=[])
  (e:W.heap[w.heap.size]?=A (p8 #[v0,v1,v2,v3,v4] 64 (0,0))) (b:W.heap[w.heap.size+1]?=A (p8 #[c,d] 29 (0,0))) (k:R (tF (wF #[s3 #[v0,v1,v2,v3,v4],s3 #[c,d]])) W):bodyPost Tryz.prog Tryz.f9 R .ret a W:=by
 obtain⟨c0,c1,c2,l,c4⟩:=cells5 e;have d0:W.cell? ⟨w.heap.size+1,0,V⟩=A c:=by simp[xj,b]
 have d1:W.cell? ⟨w.heap.size+1,1,V⟩=A d:=by simp[xj,b]
 have f:a.tmps[2]?.getD tT=tv (A ⟨w.heap.size,0,V⟩):=by simpa using h
 have g:a.tmps[3]?.getD tT=tv (A ⟨w.heap.size+1,0,V⟩):=by simpa using i
 refine bodyPost_ret (v:=wF #[s3 #[v0,v1,v2,v3,v4],s3 #[c,d]]) ?_ j k;simp[results,Tryz.results9,go_sem,f,g,c0,c1,c2,l,c4,d0,d1]
theorem AV{W:p7}{b:Nat}{c0 c1:r3}{t:TypeId}(h:W.heap[b]?=A (p8 #[c0,c1] t (0,0)))(v0 v1:r3) :
  ((W.setCell ⟨b,0,V⟩ v0).setCell ⟨b,1,V⟩ v1).heap[b]?=A (p8 #[v0,v1] t (0,0)):=by
 rw[heap_set (heap_set h 0 v0) 1 v1];rfl
theorem dQ{W:p7}{b:Nat}{c0 c1:r3}{t:TypeId}(h:W.heap[b]?=A (p8 #[c0,c1] t (0,0))):W.cell? ⟨b,0,V⟩=A c0∧W.cell? ⟨b,1,V⟩=A c1∧W.frozen? ⟨b,0,V⟩=false∧W.frozen? ⟨b,1,V⟩=false:=by refine⟨by simp[xj,h],by simp[xj,h],by simp[World.frozen?,h],by simp[World.frozen?,h]⟩
theorem iP{w W:p7}{v0 v1 v2 v3 v4 a0 a1:r3}{d q1 e f g h i:r3}(j:FS w W)(a:W.heap[w.heap.size]?=A (p8 #[d,q1,e,f,g] 64 (0,0)))(c:W.heap[w.heap.size+1]?=A (p8 #[h,i] 29 (0,0))) :
  FS w (((set5 W w.heap.size v0 v1 v2 v3 v4).setCell ⟨w.heap.size+1,0,V⟩ a0).setCell ⟨w.heap.size+1,1,V⟩ a1)∧
  (((set5 W w.heap.size v0 v1 v2 v3 v4).setCell ⟨w.heap.size+1,0,V⟩ a0).setCell ⟨w.heap.size+1,1,V⟩ a1).heap[w.heap.size]?=A (p8 #[v0,v1,v2,v3,v4] 64 (0,0))∧
  (((set5 W w.heap.size v0 v1 v2 v3 v4).setCell ⟨w.heap.size+1,0,V⟩ a0).setCell ⟨w.heap.size+1,1,V⟩ a1).heap[w.heap.size+1]?=A (p8 #[a0,a1] 29 (0,0))∧
  (∀b,w.heap.size+2≤b→(((set5 W w.heap.size v0 v1 v2 v3 v4).setCell ⟨w.heap.size+1,0,V⟩ a0).setCell ⟨w.heap.size+1,1,V⟩ a1).heap[b]?=W.heap[b]?)∧
  (((set5 W w.heap.size v0 v1 v2 v3 v4).setCell ⟨w.heap.size+1,0,V⟩ a0).setCell ⟨w.heap.size+1,1,V⟩ a1).heap.size=W.heap.size:=by
 refine⟨?_,?_,?_,fun b k=>?_,?_⟩
 ·unfold set5;exact ((((((j.setCell (p:=⟨w.heap.size,0,V⟩) (ET _) v0).setCell (p:=⟨w.heap.size,1,V⟩) (ET _) v1).setCell (p:=⟨w.heap.size,2,V⟩) (ET _) v2).setCell (p:=⟨w.heap.size,3,V⟩) (ET _) v3).setCell (p:=⟨w.heap.size,4,V⟩) (ET _) v4).setCell (p:=⟨w.heap.size+1,0,V⟩) (Fw _) a0).setCell (p:=⟨w.heap.size+1,1,V⟩) (Fw _) a1
 ·exact (EW _ _ _ _ (show w.heap.size≠w.heap.size+1 by omega)).trans ((EW _ _ _ _ (show w.heap.size≠w.heap.size+1 by omega)).trans (aV a v0 v1 v2 v3 v4))
 ·exact AV ((j9 (show w.heap.size+1≠w.heap.size by omega) v0 v1 v2 v3 v4).trans c) a0 a1
 ·exact (EW _ _ _ _ (show b≠w.heap.size+1 by omega)).trans ((EW _ _ _ _ (show b≠w.heap.size+1 by omega)).trans (j9 (show b≠w.heap.size by omega) v0 v1 v2 v3 v4))
 ·rw[xD,xD];simp[set5,xD]
theorem xY(s:ByteArray)(a:p7)(f:aM a):Calls Tryz.prog 18 #[p9 s] a fun e w'=>FS a w'∧
  ((∃er pl:Nat,fV s=(fB,(er:Int),(pl:Int))∧er≠0∧e=tF (wF #[O V 0 0,s3 #[I Y er,I Y pl]]))∨
   (s.size≤16384∧(aG s 0).2=V∧∃v,e=tF (wF #[v,s3 #[I Y 0,I Y 0]])∧w'.ownsRow a.heap.size 89 3 v (fC s).length (bK (fC s)))):=by
 by_cases d:16384<s.size
 ·refine (oC s a d).mono ?_;rintro e w' ⟨rfl,b⟩;exact⟨b,tE ⟨3,0,by unfold fV;rw[oA d];rfl,by decide,Z⟩⟩
 ·refine (qe s a (by omega) f).mono ?_;rintro e w' ⟨b,⟨c,v,rfl,g⟩|⟨er,pl,c,rfl⟩⟩
  ·refine⟨b,tS ⟨by omega,c,v,Z,?_⟩⟩;rw[mz];exact g
  ·refine⟨b,tE ⟨er,pl,by unfold fV;rw[ox d,c],(BR s _ 0 er pl c).1,Z⟩⟩
theorem zO{w W:p7}{s:ByteArray}{e:ah}{a:List ah}{p:Option Addr}{c:Nat}{F:Nat→Prop}(hm:fV s=if true=true then (e,0,0) else (fB,204,0))(h:e=.mk 1 ⟨#[]⟩ 0 0 a)(f:∀d,dH d e)(i:FS w W)(g:dt W w.heap.size 29 a (O p a.length c))
  (j:OwnAt W 30 a (O p a.length c) F) (hF:∀b,F b→bG w.heap.size W.heap.size b) :
  rH w (fV s) (tF (wF #[s3 #[I J 1,p9 ⟨#[]⟩,I Y 0,I Y 0,O p a.length c],s3 #[I Y 0,I Y 0]])) W:=by
 rw[hm,oA Z];subst h;exact⟨_,Z,i,j.N hF,mQ a,f,g⟩
theorem oD(a:Int)(x:ByteArray)(p:Int)(W:p7):(Instr.field 89 (s3 #[I J a,p9 x,I Y p]) 0).run Tryz.prog W=.ok (I J a) W:=by kernel_rfl
theorem kP{w W:p7}{s:ByteArray}{er pl:Int}(hm:fV s=(fB,er,pl))(a:FS w W) :
  rH w (fV s) (tF (wF #[s3 #[I J 0,p9 ⟨#[]⟩,I Y 0,I Y 0,O V 0 0],s3 #[I Y er,I Y pl]])) W:=by
 rw[hm];exact⟨O V 0 0,Z,a,tE ⟨Z,tE Z⟩,zN,np,Ap _ _ _⟩
theorem v6(s:ByteArray)(w:p7)(ht:aM w):Calls Tryz.prog 9 #[p9 s] w (rH w (fV s)):=by
 obtain⟨wA,bc⟩:=zzx ((w.alloc (p8 bH 64)).alloc (p8 #[I Y 0,I Y 0] 29));have ca:FS w wA:=by rw[bc];exact gi w _ _
 obtain⟨X0,X1,_⟩:=ay w (p8 bH 64) (p8 #[I Y 0,I Y 0] 29);rw[←bc]at X0 X1;obtain⟨HT,hI⟩:=zz2 (xY s wA (ht.C ca)) (ht.C ca);have fm:(1:Nat)<w.heap.size:=ht.lt;obtain⟨i0,hJ,hK,hL,hM⟩:=info_parts pN;have av:Hid (wA.heap.size=w.heap.size+2):=by show _=_;rw[bc];simp
 obtain⟨c7,c8,cb⟩:=zz3 X0 X1 ca;clear X0 X1 ca ht
 go_enter Tryz.func9,Tryz.ntmps9
 go_upto_region 1 with fail
 change Code.wp _ _ _ _ ((w.alloc (p8 bH 64)).alloc (p8 #[I Y 0,I Y 0] 29));rw[←bc];clear bc;go_wp2_with fail
 refine Ff HT.o ?_;rintro e w1 ⟨ak,⟨er,pl,hm,hN,rfl⟩|⟨hs,h0,v,rfl,a6⟩⟩
 ·have HM:=Hd hm;have mb:((er:Int) != 0)=true:=by simp;omega
  obtain⟨G,H⟩:=zzx (w1.alloc (p8 #[I Y er,I Y pl] 29));have Q:FS wA G:=by rw[H];exact ak.alloc ak.size _
  have bd:G.heap[w1.heap.size]?=A (p8 #[I Y er,I Y pl] 29 (0,0)):=by rw[H];exact ot w1 _
  have HB:=Hd (cb.o.trans (Q.mono cb.o.size));have mc:w.heap.size+2≤w1.heap.size:=by have:=av.o;have:=ak.size;omega
  obtain⟨S,c9⟩:=zz2 (ag Q c7.o (by have:=av.o;omega)) (ag Q c8.o (by have:=av.o;omega));clear ak Q hm hN;go_upto_region 2 with fail
  change Code.wp _ _ _ _ (w1.alloc (p8 #[I Y er,I Y pl] 29));rw[←H];clear H;obtain⟨f0,f1,_,_⟩:=dQ bd;clear bd;go_wp2_with fail
  have z0:=ae S.o 0;have z1:=ae S.o 1;have z2:=ae S.o 2;have z3:=ae S.o 3;have z4:=ae S.o 4;obtain⟨a0,a1,a2,a3,a4⟩:=cells5 S.o;obtain⟨b0,b1,y0,y1⟩:=dQ c9.o;have nd:(w.heap.size=w1.heap.size)=False:=by simp;omega
  have ng:(w1.heap.size=w.heap.size)=False:=by simp;omega
  go_region
  go_wp2_with fail
  obtain⟨k1,k2,k3,_,_⟩:=iP (v0:=I J 0) (v1:=p9 ⟨#[]⟩) (v2:=I Y 0) (v3:=I Y 0) (v4:=O V 0 0) (a0:=I Y er) (a1:=I Y pl) HB.o S.o c9.o;change bodyPost _ _ _ _ _ (((set5 G w.heap.size (I J 0) (p9 ⟨#[]⟩) (I Y 0) (I Y 0) (O V 0 0)).setCell ⟨w.heap.size+1,0,V⟩ (I Y er)).setCell ⟨w.heap.size+1,1,V⟩ (I Y pl)).drew;generalize (((set5 G w.heap.size (I J 0) (p9 ⟨#[]⟩) (I Y 0) (I Y 0) (O V 0 0)).setCell ⟨w.heap.size+1,0,V⟩ (I Y er)).setCell ⟨w.heap.size+1,1,V⟩ (I Y pl))=WZ at *;have hQ:WZ.drew.heap[w.heap.size]?=_:=k2;have hU:WZ.drew.heap[w.heap.size+1]?=_:=k3;exact kx Z Z Z hQ hU (kP HM.o k1.drew)
 ·obtain⟨_,da⟩:=a6;have hlen:=mz s;have aq:=CO s hs;have ch:(fC s).length≤16385:=by
   have h1:=pw s (s.size+1) 0 (Fi _);have h2:(aG s 0).1.length+0≤s.size:=h1;omega
  rcases da with ⟨_,h⟩|⟨L,cap,cur,rfl,nk,dc,hle,fp,hV,ar⟩
  ·omega
  have HM:Hid (fV s=tH (fC s) (kQ (fC s)) (tG s)):=by
   show _=_
   unfold fV;rw[ox (by omega),h0]
  have T:Hid (tG s=.mk 1 ⟨#[]⟩ 0 0 (kQ (fC s)).1):=rfl;have ba:Hid (iE (kQ (fC s)).1):=yW aq ch (by omega);obtain⟨R,hR⟩:=zzy (kQ (fC s));rw[hR]at HM T ba;unfold kQ at hR;generalize tG s=T0 at *;obtain⟨ts,ct⟩:=zzy (fC s);rw[ct]at hlen aq ch hle ar HM hR ⊢;obtain⟨HR,dg,dr⟩:=zz3 hR aq (Aa aq (Bl aq));have fr:0<ts.length:=by omega
  have mu:=Hd ch;have hW:wA.heap.size≤w1.heap.size:=ak.size;have hX:L<w1.heap.size:=(ES.1 dc).1;obtain⟨G,H⟩:=zzx (w1.alloc (p8 #[I Y 0,I Y 0] 29));obtain⟨z,bk⟩:=zzx (G.alloc (p8 #[O (A ⟨L,0,V⟩) ts.length cap,ur false] 86));obtain⟨wn,bl⟩:=zzx (z.alloc (p8 #[I J 1,p9 ⟨#[]⟩,I Y 0,I Y 0,O V 0 0] 64));have Q:FS w1 G:=by rw[H];exact (EU _ w1).alloc (ET _) _
  have bn:FS G z:=by rw[bk];exact (EU _ G).alloc (ET _) _
  have ck:FS z wn:=by rw[bl];exact (EU _ z).alloc (ET _) _
  have bd:G.heap[w1.heap.size]?=A (p8 #[I Y 0,I Y 0] 29 (0,0)):=by rw[H];exact ot w1 _
  have ds:z.heap[G.heap.size]?=A (p8 #[O (A ⟨L,0,V⟩) ts.length cap,ur false] 86 (0,0)):=by rw[bk];exact ot G _
  have dv:wn.heap[z.heap.size]?=A (p8 #[I J 1,p9 ⟨#[]⟩,I Y 0,I Y 0,O V 0 0] 64 (0,0)):=by rw[bl];exact ot z _
  have hY:G.heap.size=w1.heap.size+1:=by rw[H];simp
  have h4:z.heap.size=G.heap.size+1:=by rw[bk];simp
  have h5:wn.heap.size=z.heap.size+1:=by rw[bl];simp
  have K:FS wA z:=ak.trans ((Q.trans (bn.mono (by omega))).mono hW);have eg:PAt z G.heap.size L cap ts 0 false:=by
   refine⟨⟨ts.length,cap,Z,Z,by rw[Nat.zero_mul];exact ds⟩,⟨cur,?_,fun j u hu=>?_⟩,fr,ch,hle,fp⟩
   ·exact ag (Q.trans (bn.mono (by omega))) dc hX
   ·rw[←ar,List.getElem?_take]at hu
    split at hu
    ·simpa using hu
    ·cases hu
  have en:=eg.b ck;have fv:=av.o;obtain⟨P,hP⟩:=zzy (G.heap.size);obtain⟨U,eo⟩:=zzy (z.heap.size);rw[hP]at eg en ds;rw[eo]at dv;have mv:w.heap.size+2<P:=by omega
  have nn:P<U:=by omega
  have h6:z.heap.size≤U:=by omega
  have HL:Hid (L<z.heap.size):=by show _<_;omega
  have h7:P<z.heap.size:=by omega
  have h8:Hid (FS w z):=cb.o.trans (K.mono cb.o.size);obtain⟨S,c9,fz,fI⟩:=zz4 (ag (K.trans (ck.mono K.size)) c7.o (by omega)) (ag (K.trans (ck.mono K.size)) c8.o (by omega)) dv en;have fT:U+1=wn.heap.size:=by omega
  have cu:Hid (uM z P L cap ts R U wn):=
   ⟨ts.length+1,[],(0,false),0,[],fun _ _=>False,O V 0 0,HR.o,tS (by omega),Fi _,fI.o,fz.o,World.ownsRow_nil _ _ _ _,kS _ _ _ _⟩
  obtain⟨HP,h9,ga,gb,gf⟩:=zz5 hP eo (ag K c7.o (by omega)) (ag K c8.o (by omega)) (hI.o.C K);have ih:P≠1:=fun h=>by have:=fm;omega
  obtain⟨ix,iA,iB⟩:=zz3 H bk bl;have iX:Hid (0≤atM ts R.2∧atM ts R.2≤16384):=by
   show _∧_
   obtain⟨_,_,g3⟩:=cQ aq R.2.1;unfold atM;omega
  obtain⟨f0,f1,_,_⟩:=dQ bd;have na:U+1≤wn.heap.size:=by omega
  clear hlen fT fv hY h4 h5 H bk bl bd ds dv en eg Q bn ck ak aq ct dc ar hV fp hR K hP eo hle hs h0;go_upto_region 2 with fail
  change Code.wp _ _ _ _ (w1.alloc (p8 #[I Y 0,I Y 0] 29));rw[←ix.o];go_upto_region 5 with fail
  change Code.wp _ _ _ _ (G.alloc (p8 #[O (A ⟨L,0,V⟩) ts.length cap,ur false] 86));rw[←iA.o,HP.o];go_wp2_with fail
  change Code.wp _ _ _ _ (z.alloc (p8 #[I J 1,p9 ⟨#[]⟩,I Y 0,I Y 0,O V 0 0] 64));rw[←iB.o,h9.o]
  go_loopw [25] (fun _ wr=>uM z P L cap ts R U wr) (fun _ wr=>f8 P wr)
  case atStart=>exact cu.o
  case round =>
   clear cu fI fz;obtain⟨g,X,a,dd,rows,Fs,o,gm,hg,hlen,hT,hn,a6,bq⟩:=hrel;obtain⟨cl,et,HG,gD,gE,cv,br⟩:=zz7 hT gm hg hlen hn a6 bq;have gF:=Hd hT.2.steps;have bt:Hid (a.1≤(em ts (dJ ts) a).2.1):=uh (ts:=ts) (pD ts) a;have gH:U<wr.heap.size:=(ES.1 hn).1;clear gm hg hlen hT hn a6 bq;go_upto_region 6 with fail
   go_cut [38] from 25 to 38 (fun v wx=>v=ur (!a.2&&kdM ts a != 7)∧FS wr wx)
   case first =>
    obtain⟨_,_,_,_,_,c1,_,_⟩:=cl.o.2.h;have bR:=Hd (fP cl.o.2)
    cases l:a.2 with
    | true =>
     rw[l]at c1;have cp:=Hd l;clear l;go_wp2_with fail
     go_meet
     case rel=>exact⟨by rw[cp.o];rfl,EU _ _⟩
    | false =>
     rw[l]at c1;have cp:=Hd l;clear l;have jj:kdM ts a<256:=(cQ dg.o a.1).1;obtain⟨kd,ev⟩:=zzy (kdM ts a);rw[ev]at bR jj;have gL:=Hd ev;clear ev;generalize txM ts a=tx at bR;generalize atM ts a=pl at bR
     by_cases hk:kd=7
     ·have j2:((kd:Int) != 7)=false:=by simp;omega
      have HK:=Hd hk;clear hk;go_wp2_with fail
      refine Ff bR.o ?_;rintro e wx ⟨rfl,B⟩;have ad:=Hd B;have ka:=oD kd tx pl wx;clear B;go_wp2_with fail
      go_meet
      case rel=>exact⟨by rw[cp.o,gL.o,HK.o];rfl,ad.o⟩
     ·have j2:((kd:Int) != 7)=true:=by simp;omega
      have gM:(kd != 7)=true:=by simpa using hk
      have HK:=Hd gM;clear hk gM;go_wp2_with fail
      refine Ff bR.o ?_;rintro e wx ⟨rfl,B⟩;have ad:=Hd B;have ka:=oD kd tx pl wx;clear B;go_wp2_with fail
      go_meet
      case rel=>exact⟨by rw[cp.o,gL.o,HK.o];rfl,ad.o⟩
   case rest =>
    obtain⟨rfl,B⟩:=hcut;obtain⟨C,b2⟩:=zz2 (cl.o.b B) (ag B gE.o gH);have gN:P<U+1:=by omega
    obtain⟨D,y⟩:=zz2 (dm cv.o (aL B (A P)) gN) (br.o.turn (aL B (A P)) gN);have kc:U<wc.heap.size:=(ES.1 b2.o).1;clear B cl gE cv br gH;obtain⟨b,l⟩:=zzy ((!a.2&&kdM ts a != 7));rw[l];have HB:=Hd l;clear l
    cases b with
    | true =>
     have bb:a.2=false:=by have:=HB.o;cases h:a.2<;>simp[h]at this ⊢
     have gO:¬kdM ts a=7:=by have:=HB.o;rw[bb]at this;simpa using this
     have gS:=C.o.2.k;have nr:=C.o.2.n;have gT:=gD.o;rw[bb]at gT;simp only[Fx,oX,Nat.add_zero]at gT;obtain⟨g',ha,hc⟩:∃g',((em ts (dJ ts) a).2.2=true∨ts.length-(em ts (dJ ts) a).2.1+1≤g')∧ml ts g' (X++[(em ts (dJ ts) a).1]) (em ts (dJ ts) a).2=R:=by
      have h1:=et.o;have h2:=HG.o;rw[bb]at h2;have nt:ts.length-a.1+1≤g:=by rcases h2 with h|h;cases h;exact h
      cases g with
      | zero=>omega
      | succ g =>
       rw[mf,ox (by rw[bb];decide),ox gO]at h1;refine⟨g,?_,h1⟩;rcases px dg.o gS with h|h
       ·exact tE h
       ·exact tS (by omega)
     have hd:=px dg.o gS;obtain⟨e0,kk,kn,hh,kr⟩:=zz5 (dr.o a wc.drew P L cap C.o.2.drew) ha hc hd bb;clear ha hc hd gO bb;generalize em ts (dJ ts) a=r at *;obtain⟨d0,hi,hj,d3,d4⟩:=cells5 b2.o;have bn:U≠P:=by omega
     have C4:=fun x:RE.Gr wc P=>x.b d4 bn
     have hl:P<wc.heap.size:=C.o.2.lt.1;clear d0 hi hj d3 d4;go_wp2_with fail
     refine RE.t (by kernel_rfl) 5 [3,4] [3,4] (fun s W=>if s=0 then W=wc.drew else ax wc P L cap ts r.2.1 r.2.2 W) (fun W W'=>W.grownBy W' (A P))
      (fun i xs=>if i=3 then s3 #[I J r.1.b,p9 r.1.h,I Y r.1.q,I Y r.1.t,xs.getD 0 tT] else O (A ⟨RE.natOf xs,0,V⟩) 1 1)
      (fun i W xs=>if i=3 then fK wc.heap.size r.1 W xs else gG wc.heap.size r.1 W xs) (by kernel_rfl) (fun i h1 h2=>by rw[h1]at h2;cases h2) ?_ Z ?_
     ·intro k W W' xs h _ hg
      split at h
      ·rw[oA (by assumption)];exact h.N hl hg
      ·rw[ox (by assumption)];exact h.N hl hg
     simp only[Fg,Fu,Fh,Ft,FC,List.length_nil,Nat.reduceAdd];have hp:∀(n s:Nat) (W:p7),s≤n→(if s=0 then W=wc.drew else ax wc P L cap ts r.2.1 r.2.2 W)→∃x:RE.Gr wc P,W=x.1:=fun n s W _ h=>by
      split at h
      ·exact⟨⟨W,by rw[h];exact grown_drewN (oT wc _) 1⟩,Z⟩
      ·exact⟨⟨W,h.1⟩,Z⟩
     have kv:=Hd hp;clear hp
     repeat (refine RE.h (fun W=>∃x:RE.Gr wc P,W=x.1) (kv.o _) Z Z Z Z ?_;go_big_quiet_step (fail);refine wpQuiet_nil ?_)
     refine RE.b Z Z ?_ (fun hq=>?_)
     ·intro W _ hS _;obtain rfl:W=wc.drew:=hS Z;refine RE.u 20 _ _ Z (enters_of Tryz.func20 (by kernel_rfl) Z) #[tv (A ⟨P,0,V⟩)] (by simp[Act.eval]) (e0.o.mono ?_);rintro e W' ⟨d,s,rfl,hT,ho,hf⟩;exact⟨_,Z,[s],Z,hT.u,hT.1,⟨d,s,Z,ho,hf⟩⟩
     simp only[Act.put,EV,Fe,Fc];refine RE.b Z Z ?_ (fun hr=>?_)
     ·intro W _ hS kI;have hT:ax wc P L cap ts r.2.1 r.2.2 W:=hS Z;obtain⟨d,s,rfl,ho,hf⟩:fK wc.heap.size r.1 W hq:=kI 3 hq (by kernel_rfl) Z;obtain⟨p,c,rfl⟩:=ho.b;refine RE.Upon.told (v:=O (A ⟨W.heap.size,0,V⟩) 1 1) (w':=W.alloc (p8 (az r.1 (O p r.1.u.length c)).toArray 64)) ?_ ⟨[I Y W.heap.size],Z,hT.y _,?_,?_⟩
      ·unfold RE.Upon
       go_simp
       rfl
      ·exact aL ((EU _ W).alloc (ET _) _) _
      ·refine⟨d,W.heap.size,W.heap.size,_,Z,ot W _,?_,hf,hT.1.size,ET _⟩;exact ho.C (fun b l=>l.2) ((EU _ W).alloc (ET _) _)
     simp only[Act.put,EV,Fe,Fc];refine RE.q ?_;intro W3 hS hE;have cq:ax wc P L cap ts r.2.1 r.2.2 W3:=hS;obtain⟨d2,gg,N,s2,rfl,e1,e2,k0,k6,k7⟩:=(show gG wc.heap.size r.1 W3 hr from hE 4 hr Z);have nu:wc.heap.size≤W3.heap.size:=cq.1.size;have b3:=dm D.o cq.1 (by omega);refine wpList_append_lies W3 Z (.tmp 40) (.tmp 43) 62 Z (U+1) 64 i0 _ 5 64 Tryz.underlying62 hJ hK hL hM Z (by decide) o X.length rows.flatten Z b3 ⟨gg,0,V⟩ 1 1 (az r.1 s2) Z Z
      (fun j u hu=>by rw[Addr.add_mid,FR _ _ _ _ _ _ e1,Nat.zero_add];simpa using hu) (by have:=e2.b;obtain⟨p,c,rfl⟩:=this;simp[Value.oneCell',az]) (by decide) (by unfold maxLen;omega) (by omega) (by omega) _ Z ?_
     intro g7 hv w7 cx b4 b5 _;obtain⟨d',e3,k8,u1,u2,u3,u4,u5,u6⟩:=rz (w:=z) h7 HL.o h6 (show U<(U+1) by omega) (by omega) C.o b2.o D.o y.o cq e1 e2 k0 k6 k7 cx b4 b5;have x4:=ae u6 4;obtain⟨d0,hi,hj,d3,d4⟩:=cells5 u6;obtain⟨Wn,hy⟩:=zzx (w7.setCell ⟨U,4,V⟩ (O (A ⟨g7,0,V⟩) (X.length+1) hv));rw[←hy]at u1 u2 u3 u4 u5;have b6:(X++[r.1]).length≤r.2.1+(if r.2.2=true then 1 else 0):=by
      have h1:=u1.2.k;rw[Fl,FP];rcases hh.o with h|h
      ·rw[oA h];have:=bt.o;omega
      ·split<;>omega
     have e4:Hid (uM z P L cap ts R U Wn):=
      ⟨g',_,r.2,d',e3,k8,_,kn.o,kk.o,b6,u1,u3,u4,u5⟩
     have e5:Hid (f8 P Wn<f8 P wr):=by
      show _<_
      rw[u1.2.steps,gF.o,ox (show ¬a.2=true by rw[kr.o];decide)];have h1:=u1.2.k;have h3:=bt.o;rcases hh.o with h|h
      ·rw[oA h];omega
      ·split<;>omega
     have k9:=Hd hy;clear u1 u2 u3 u4 u5 b6 b5 b4 cx hE hS cq b3 e1 e2 C4;go_wp2_with fail
     rw[←k9.o];exact⟨e4.o,e5.o⟩
    | false =>
     have la:(X,a)=R:=by
      rw[←et.o];have h2:=HB.o
      cases g with
      | zero=>rfl
      | succ g =>
       rw[mf]
       by_cases e6:a.2=true
       ·rw[oA e6]
       ·rw[ox e6,oA (by simpa [e6]using h2)]
     subst la;dsimp only at T iX ba;have cT:=Hd ((C.o.1.block w.heap.size (by omega) (fun e=>by injection e with e;omega)).trans ga.o)
     have cV:=Hd ((C.o.1.block (w.heap.size+1) (by omega) (fun e=>by injection e with e;omega)).trans gb.o)
     obtain⟨ad,lb⟩:=zz2 (qQ h8.o C.o (by omega)) (gf.o.N C.o.1 ih);obtain⟨_,_,_,_,_,c1,_,_⟩:=C.o.2.h;clear et HG gD HB bt gF
     cases l:a.2 with
     | true =>
      rw[l]at c1;have hz:Hid (fV s=(fB,202,atM ts a)):=by show _=_;rw[HM.o];unfold tH;dsimp only;rw[oA l]
      have a7:=Hd (fP C.o.2);clear l;generalize kdM ts a=kd at a7;generalize txM ts a=tx at a7;generalize atM ts a=pl at a7 hz;go_wp2_with fail
      refine Ff a7.o ?_;rintro e wy ⟨rfl,cr⟩;have nx:=jU kd tx pl wy;obtain⟨ld,E,cW⟩:=zz3 (ad.o.trans (cr.mono ad.o.size)) (ag cr cT.o (by omega)) (ag cr cV.o (by omega));clear cr c1;obtain⟨k1,k2,k3,k4,k5⟩:=iP (v0:=(I J 0)) (v1:=(p9 ⟨#[]⟩)) (v2:=(I Y 0)) (v3:=(I Y 0)) (v4:=(O V 0 0)) (a0:=(I Y 202)) (a1:=(I Y pl)) ld.o E.o cW.o;obtain⟨K1,K2,K3,K4,K5⟩:=zz5 k1 k2 k3 k4 k5;clear k1 k2 k3 k4 k5;have z0:=ae E.o 0;have z1:=ae E.o 1;have z2:=ae E.o 2;have z3:=ae E.o 3;have z4:=ae E.o 4;obtain⟨a0,a1,a2,a3,a4⟩:=cells5 E.o;obtain⟨b0,b1,y0,y1⟩:=dQ cW.o;go_wp2_with fail
      change bodyPost _ _ _ _ _ (((set5 wy w.heap.size (I J 0) (p9 ⟨#[]⟩) (I Y 0) (I Y 0) (O V 0 0)).setCell ⟨w.heap.size+1,0,V⟩ (I Y 202)).setCell ⟨w.heap.size+1,1,V⟩ (I Y pl));generalize ((set5 wy w.heap.size (I J 0) (p9 ⟨#[]⟩) (I Y 0) (I Y 0) (O V 0 0)).setCell ⟨w.heap.size+1,0,V⟩ (I Y 202)).setCell ⟨w.heap.size+1,1,V⟩ (I Y pl)=WZ at *;exact kx Z Z Z K2.o K3.o (kP hz.o K1.o)
     | false =>
      rw[l]at c1
      have b7:Hid (fV s=match dpM 30 T0 with
        | some p=>(fB,203,p)
        | none=>if iO 30 T0=true then (T0,0,0) else (fB,204,0)):=by
       show _=_
       rw[HM.o];unfold tH;dsimp only;rw[ox (by rw[l];decide)]
      clear l;have hO:=rA (d:=dd+1) Z D.o y.o (fun h=>by omega);obtain⟨p,c,rfl⟩:=hO.b;have HO:=Hd hO;have F:fk wc wc.heap.size (dd+1) T0 (s3 #[I J 1,p9 ⟨#[]⟩,I Y 0,I Y 0,O p X.length c]):=by
       rw[T.o];exact⟨mQ X,_,Z,hO.u fun b l=>l.2⟩
      have c3:∀d,tL d T0.u:=fun d=>by
       rw[T.o]
       cases d with
       | zero=>trivial
       | succ d=>exact⟨by show X.length≤20000;have:=ba.o.1;omega,fun k hk=>(ba.o.2 k hk d).slim⟩
      have c5:Hid (∀d,dH d T0):=by
       show ∀d,dH d T0
       rw[T.o];exact ee (show (0:Nat)≤16390 by omega) (by omega) ba.o.1 ba.o.2
      obtain⟨e7,lf⟩:=zz2 (zA 30 0 (dd+1) T0 _ wc.heap.size wc Z F (ET _) (c3 _)) hO;have lg:Hid (dt wc (U+1) dd X (O p X.length c)):=⟨rows,Fs,D.o,y.o⟩;obtain⟨n0,n1,n2,n3,n4⟩:=cells5 b2.o;clear hO F c3 HO D y;obtain⟨x,hx⟩:=zzy (dpM 30 T0);rw[hx]at e7 b7;have HX:=Hd hx;clear hx;rw[show ((0:Nat):Int)=0 from rfl]at e7;go_wp2_with fail
      refine Ff e7.o ?_;rintro e wd ⟨rfl,M⟩;obtain⟨e8,m,b8,e9,lo,l0,l1⟩:=zz7 (ad.o.trans (M.mono ad.o.size)) (ag M cT.o (by omega)) (ag M cV.o (by omega)) (ag M b2.o kc) (lf.o.C (fun b l=>l.2) M) (lg.o.C M) (lb.o.C M);have l2:U<wd.heap.size:=(ES.1 e9.o).1;have c6:wc.heap.size≤wd.heap.size:=M.size;clear M n0 n1 n2 n3 n4 c1
      cases x with
      | some q =>
       dsimp only [Option.getD_some,Option.isSome_some];obtain⟨k1,k2,k3,k4,k5⟩:=iP (v0:=(I J 0)) (v1:=(p9 ⟨#[]⟩)) (v2:=(I Y 0)) (v3:=(I Y 0)) (v4:=(O V 0 0)) (a0:=(I Y 203)) (a1:=(I Y q)) e8.o m.o b8.o;obtain⟨K1,K2,K3,K4,K5⟩:=zz5 k1 k2 k3 k4 k5;clear k1 k2 k3 k4 k5;have z0:=ae m.o 0;have z1:=ae m.o 1;have z2:=ae m.o 2;have z3:=ae m.o 3;have z4:=ae m.o 4;obtain⟨a0,a1,a2,a3,a4⟩:=cells5 m.o;obtain⟨b0,b1,y0,y1⟩:=dQ b8.o;go_wp2_with fail
       change bodyPost _ _ _ _ _ (((set5 wd w.heap.size (I J 0) (p9 ⟨#[]⟩) (I Y 0) (I Y 0) (O V 0 0)).setCell ⟨w.heap.size+1,0,V⟩ (I Y 203)).setCell ⟨w.heap.size+1,1,V⟩ (I Y q));generalize ((set5 wd w.heap.size (I J 0) (p9 ⟨#[]⟩) (I Y 0) (I Y 0) (O V 0 0)).setCell ⟨w.heap.size+1,0,V⟩ (I Y 203)).setCell ⟨w.heap.size+1,1,V⟩ (I Y q)=WZ at *;exact kx Z Z Z K2.o K3.o (kP b7.o K1.o)
      | none =>
       dsimp only [Option.getD_none,Option.isSome_none];have fe:∀t∈X,dpM 29 t=none:=by
        have h:=HX.o;rw[T.o]at h;have h2:X.findSome? (dpM 29)=none:=h;rw[List.findSome?_eq_none_iff]at h2;exact h2
       have b9:=(sd lo.o fe).y;obtain⟨hA,hC⟩:=zz2 b9 ((l0.o.depth (n:=28) fe).y);have F:fk wd wd.heap.size 30 T0 (s3 #[I J 1,p9 ⟨#[]⟩,I Y 0,I Y 0,O p X.length c]):=by
        rw[T.o];exact⟨mQ X,_,Z,b9.u fun b l=>EY l.2 c6⟩
       have hD:=Hd (mn 30 T0 _ wd.heap.size wd F (ET _) (c5.o 30).slim l1.o);obtain⟨n0,n1,n2,n3,n4⟩:=cells5 e9.o;clear fe b9 F;obtain⟨rt,hG⟩:=zzy (iO 30 T0);rw[hG]at hD b7;clear hG;go_wp2_with fail
       refine Ff hD.o ?_;rintro e we ⟨rfl,af⟩;obtain⟨hH,f,a8,l3⟩:=zz4 (e8.o.trans (af.mono e8.o.size)) (ag af m.o (by omega)) (ag af b8.o (by omega)) (ag af e9.o l2);have nc:wd.heap.size≤we.heap.size:=af.size;obtain⟨l4,ma⟩:=zz2 (hA.o.C (fun b l=>EY l.2 c6) af) (hC.o.C af);clear af n0 n1 n2 n3 n4
       cases rt with
       | false =>
        obtain⟨k1,k2,k3,k4,k5⟩:=iP (v0:=(I J 0)) (v1:=(p9 ⟨#[]⟩)) (v2:=(I Y 0)) (v3:=(I Y 0)) (v4:=(O V 0 0)) (a0:=(I Y 204)) (a1:=(I Y 0)) hH.o f.o a8.o;obtain⟨K1,K2,K3,K4,K5⟩:=zz5 k1 k2 k3 k4 k5;clear k1 k2 k3 k4 k5;have z0:=ae f.o 0;have z1:=ae f.o 1;have z2:=ae f.o 2;have z3:=ae f.o 3;have z4:=ae f.o 4;obtain⟨a0,a1,a2,a3,a4⟩:=cells5 f.o;obtain⟨b0,b1,y0,y1⟩:=dQ a8.o;go_wp2_with fail
        change bodyPost _ _ _ _ _ (((set5 we w.heap.size (I J 0) (p9 ⟨#[]⟩) (I Y 0) (I Y 0) (O V 0 0)).setCell ⟨w.heap.size+1,0,V⟩ (I Y 204)).setCell ⟨w.heap.size+1,1,V⟩ (I Y 0));generalize ((set5 we w.heap.size (I J 0) (p9 ⟨#[]⟩) (I Y 0) (I Y 0) (O V 0 0)).setCell ⟨w.heap.size+1,0,V⟩ (I Y 204)).setCell ⟨w.heap.size+1,1,V⟩ (I Y 0)=WZ at *;exact kx Z Z Z K2.o K3.o (kP b7.o K1.o)
       | true =>
        obtain⟨n0,n1,n2,n3,n4⟩:=cells5 l3.o;obtain⟨k1,k2,k3,k4,k5⟩:=iP (v0:=(I J 1)) (v1:=(p9 ⟨#[]⟩)) (v2:=(I Y 0)) (v3:=(I Y 0)) (v4:=(O p X.length c)) (a0:=(I Y 0)) (a1:=(I Y 0)) hH.o f.o a8.o;obtain⟨K1,K2,K3,K4,K5⟩:=zz5 k1 k2 k3 k4 k5;clear k1 k2 k3 k4 k5;have z0:=ae f.o 0;have z1:=ae f.o 1;have z2:=ae f.o 2;have z3:=ae f.o 3;have z4:=ae f.o 4;obtain⟨a0,a1,a2,a3,a4⟩:=cells5 f.o;obtain⟨b0,b1,y0,y1⟩:=dQ a8.o;go_wp2_with fail
        change bodyPost _ _ _ _ _ (((set5 we w.heap.size (I J 1) (p9 ⟨#[]⟩) (I Y 0) (I Y 0) (O p X.length c)).setCell ⟨w.heap.size+1,0,V⟩ (I Y 0)).setCell ⟨w.heap.size+1,1,V⟩ (I Y 0));generalize ((set5 we w.heap.size (I J 1) (p9 ⟨#[]⟩) (I Y 0) (I Y 0) (O p X.length c)).setCell ⟨w.heap.size+1,0,V⟩ (I Y 0)).setCell ⟨w.heap.size+1,1,V⟩ (I Y 0)=WZ at *;exact kx Z Z Z K2.o K3.o (zO b7.o T.o c5.o K1.o ((ma.o.t (by rw[K5.o];exact ET _) (fun b l _=>K4.o b (by omega))).low (by omega)) (l4.o.t fun b o l ho=>(K4.o b (by have:=l.1;omega)).trans ho) (fun b l=>⟨by have:=l.1;omega,by rw[K5.o];have:=l.2;omega⟩))
