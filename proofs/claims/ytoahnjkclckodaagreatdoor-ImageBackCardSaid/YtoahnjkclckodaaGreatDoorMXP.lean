/- The parser: a source's program, or its fault; by contract. Condition: the library's table of blanks lies as laid. -/
import Derived.Test.YtoahnjkclckodaaGreatDoorMXN
import Derived.Test.YtoahnjkclckodaaGreatDoorMZK
import Derived.Test.YtoahnjkclckodaaGreatDoorMH
import Derived.RegionTactic
open Go renaming World→J,Value→tS,undef→xk
open Or renaming inl→wD,inr→wF
open Go.Ending renaming returned→wg
open Go.Value renaming tuple→y9,agg→wP,int→I,string→r9,slice→O,pointer→vo,bool→xt
open Go.IntKind renaming u8→r8,i64→U
open Option renaming some→A,none→Y
open Go.Obj renaming cells→r7
open Go.World renaming cell?→At,setCell→AF
namespace Go.Proofs.YtoahnjkclckodaaGreatDoor
set_option maxHeartbeats 4000000
set_option maxRecDepth 100000
open Go.RowKit
def wL(s:ByteArray):ac:=.mk 1 ⟨#[]⟩ 0 0 (mh (f8 s)).1
def wM(ts:List Tok) (R:List ac×PS) (a:ac):ac×Int×Int:=
 if R.2.2=true then (f7,202,atM ts R.2)
 else match dpM 30 a with
  | some p=>(f7,203,p)
  | none=>if jU 30 a=true then (a,0,0) else (f7,204,0)
def fa(s:ByteArray):ac×Int×Int:=
 if 16384<s.size then (f7,3,0)
 else match (ay s 0).2 with
  | some (er,pl)=>(f7,er,pl)
  | none=>wM (f8 s) (mh (f8 s)) (wL s)
def dF(W:J) (L d:Nat) (ks:List ac) (v:tS):Prop:=∃(rows:List (List tS)) (a:Nat→Nat→Prop),W.ownsRow L 145 5 v ks.length rows.flatten∧cI W L d ks ks.length v.ownBlock rows a
theorem dF.C{W W':J}{L d:Nat}{ks:List ac}{v:tS}(h:dF W L d ks v)(f:Kr W W'):dF W' L d ks v:=by
 obtain⟨rows,g,j,k,r2,l,r4,m,n⟩:=h;refine⟨rows,g,ownsRow_below j f,k,r2,fun i T hi o=>?_,fun i b e=>⟨(r4 i b e).1,JS (r4 i b e).2.1 f.size,(r4 i b e).2.2⟩,m,n⟩;obtain⟨a,s,b,c⟩:=l i T hi o;exact⟨a,s,b,c.C (fun b e=>(r4 i b e).2.1) f⟩
theorem dF.K{W W':J}{L d:Nat}{ks:List ac}{v:tS}(h:dF W L d ks v)(n:W.heap.size≤W'.heap.size)(j:∀b,L≤b→b<W.heap.size→W'.heap[b]?=W.heap[b]?):dF W' L d ks v:=by
 obtain⟨rows,p,⟨q,f⟩,r,r2,t,r4,u,w⟩:=h;refine⟨rows,p,⟨q,?_⟩,r,r2,fun i T hi y=>?_,fun i b e=>⟨(r4 i b e).1,JS (r4 i b e).2.1 n,(r4 i b e).2.2⟩,u,w⟩
 ·rcases f with f|⟨g,cap,cur,z,k,l,B⟩
  ·exact wD f
  ·exact wF ⟨g,cap,cur,z,k,(j g k (JL.1 l).1).trans l,B⟩
 ·obtain⟨a,s,b,c⟩:=t i T hi y;exact⟨a,s,b,c.K fun x o m C=>(j x (r4 i x m).1 (r4 i x m).2.1).trans C⟩
theorem dF.low{W:J}{L a d:Nat}{ks:List ac}{v:tS}(h:dF W L d ks v)(c:a≤L):dF W a d ks v:=by
 obtain⟨rows,f,g,j,r2,k,r4,l,m⟩:=h;exact⟨rows,f,ownsRow_base g c,j,r2,k,fun i b e=>⟨JU c (r4 i b e).1,(r4 i b e).2⟩,l,m⟩
def uJ(w:J) (r:ac×Int×Int) (e:Ending) (w':J):Prop:=
 ∃(a:tS),e=wg (y9 #[wP #[I r8 r.1.q,r9 r.1.h,I U r.1.u,I U r.1.C,a],wP #[I U r.2.1,I U r.2.2]])∧Kr w w'∧OwnAt w' 30 r.1.z a (bI w.heap.size w'.heap.size)∧Fits r.1∧(∀d,dR d r.1)∧dF w' w.heap.size 29 r.1.z a
def ye(w:J) (P L cap:Nat) (ts:List Tok) (R:List ac×PS) (a:Nat) (W:J):Prop:=
 ∃(g:Nat) (ks:List ac) (σ:PS) (d:Nat) (rows:List (List tS)) (b:Nat→Nat→Prop) (o:tS),oP ts g ks σ=R∧(σ.2=true∨ts.length-σ.1+1≤g)∧ks.length≤σ.1+(if σ.2=true then 1 else 0)∧
  ah w P L cap ts σ.1 σ.2 W∧W.heap[a]?=A (r7 #[I r8 1,r9 ⟨#[]⟩,I U 0,I U 0,o] 145 (0,0))∧
  W.ownsRow (a+1) 145 5 o ks.length rows.flatten∧cI W (a+1) d ks ks.length o.ownBlock rows b
theorem vm{W:J}:∀{n d:Nat} {ks:List ac} {a:tS} {F:Nat→Prop},OwnAt W d ks a F→(∀t∈ks,dpM n t=Y)→OwnAt W n ks a F:=by
 intro n
 induction n with
 | zero =>
  intro d ks a F h b;have e:ks=[]:=by
   cases ks with
   | nil=>rfl
   | cons t r=>have:=b t (List.mem_cons_self ..);cases this
  subst e;exact⟨Z,h.nil⟩
 | succ n f =>
  intro d ks a F h b
  cases d with
  | zero=>exact wD h
  | succ d =>
   rcases h with h|⟨g,cap,cs,j,k,l,m,o,p,q,u,v,w,x⟩
   ·exact wD h
   ·refine wF ⟨g,cap,cs,j,k,l,m,o,p,q,u,fun i T c=>?_,w,x⟩;obtain⟨y,s,z,B⟩:=v i T c;refine⟨y,s,z,f B fun t C=>?_⟩;have:=b T (J8 c);unfold dpM at this;rw[List.findSome?_eq_none_iff]at this;exact this t C
theorem dF.depth{W:J}{L d n:Nat}{ks:List ac}{v:tS}(h:dF W L d ks v)(f:∀t∈ks,dpM (n+1) t=Y):dF W L n ks v:=by
 obtain⟨rows,g,j,k,r2,l,r4⟩:=h;refine⟨rows,g,j,k,r2,fun i T hi e=>?_,r4⟩;obtain⟨a,s,b,c⟩:=l i T hi e;refine⟨a,s,b,vm c fun t m=>?_⟩;have:=f T (J8 e);unfold dpM at this;rw[List.findSome?_eq_none_iff]at this;exact this t m
theorem dF.more{W:J}{L d:Nat}{ks:List ac}{v:tS}(h:dF W L d ks v):dF W L (d+1) ks v:=by
 obtain⟨rows,e,f,g,r2,j,r4⟩:=h;exact⟨rows,e,f,g,r2,fun i T hi k=>by obtain⟨a,s,b,c⟩:=j i T hi k;exact⟨a,s,b,c.more⟩,r4⟩
theorem DZ(W:J)(L d:Nat):dF W L d [] (O Y 0 0):=⟨[],fun _ _=>False,World.ownsRow_nil _ _ _ _,ml _ _ _ _⟩
theorem Dc:Fits f7:=fF (by omega) (by show (0:Nat)≤16384;omega) (by omega) (by omega)
theorem pP(ks:List ac):Fits (.mk 1 ⟨#[]⟩ 0 0 ks):=fF (by omega) (by show (0:Nat)≤16384;omega) (by omega) (by omega)
theorem ub{w W0 W:J}{P L cap k:Nat}{bad:Bool}{ts:List Tok}(a:Kr w W0)(b:ah W0 P L cap ts k bad W)(c:w.heap.size≤P):Kr w W:=
 ⟨b.1.os.trans a.os,b.1.tape.trans a.tape,b.1.output.trans a.output,JU a.size b.1.size,fun i hi=>(b.1.block i (JS hi a.size) (fun e=>by injection e with e;omega)).trans (a.block i hi)⟩
theorem lI{w W:J}{a:Act}{v0 v1 v2 v3 v4 c d:tS}{R:Ending→J→Prop}(h:a.tmps.getD 2 xk=vo (A ⟨w.heap.size,0,Y⟩))(i:a.tmps.getD 3 xk=vo (A ⟨w.heap.size+1,0,Y⟩))(j:a.defers=[])
  (e:W.heap[w.heap.size]?=A (r7 #[v0,v1,v2,v3,v4] 145 (0,0))) (b:W.heap[w.heap.size+1]?=A (r7 #[c,d] 109 (0,0))) (k:R (wg (y9 #[wP #[v0,v1,v2,v3,v4],wP #[c,d]])) W):bodyPost Tryz.prog Tryz.f72 R .ret a W:=by
 obtain⟨l,m,c2,n,c4⟩:=cells5 e;have d0:W.cell? ⟨w.heap.size+1,0,Y⟩=A c:=by simp[At,b]
 have d1:W.cell? ⟨w.heap.size+1,1,Y⟩=A d:=by simp[At,b]
 have f:a.tmps[2]?.getD xk=vo (A ⟨w.heap.size,0,Y⟩):=by simpa using h
 have g:a.tmps[3]?.getD xk=vo (A ⟨w.heap.size+1,0,Y⟩):=by simpa using i
 refine bodyPost_ret (v:=y9 #[wP #[v0,v1,v2,v3,v4],wP #[c,d]]) ?_ j k;simp[results,Tryz.results72,go_sem,f,g,l,m,c2,n,c4,d0,d1]
theorem EC{W:J}{b:Nat}{a c:tS}{t:TypeId}(h:W.heap[b]?=A (r7 #[a,c] t (0,0)))(v0 v1:tS) :
  ((W.setCell ⟨b,0,Y⟩ v0).setCell ⟨b,1,Y⟩ v1).heap[b]?=A (r7 #[v0,v1] t (0,0)):=by
 rw[heap_set (heap_set h 0 v0) 1 v1];rfl
theorem kg{W:J}{b:Nat}{a c:tS}{t:TypeId}(h:W.heap[b]?=A (r7 #[a,c] t (0,0))):W.cell? ⟨b,0,Y⟩=A a∧W.cell? ⟨b,1,Y⟩=A c∧W.frozen? ⟨b,0,Y⟩=false∧W.frozen? ⟨b,1,Y⟩=false:=by refine⟨by simp[At,h],by simp[At,h],by simp[World.frozen?,h],by simp[World.frozen?,h]⟩
theorem jf{w W:J}{v0 v1 v2 v3 v4 a0 a1:tS}{d e f g h i j:tS}(k:Kr w W)(a:W.heap[w.heap.size]?=A (r7 #[d,e,f,g,h] 145 (0,0)))(c:W.heap[w.heap.size+1]?=A (r7 #[i,j] 109 (0,0))) :
  Kr w (((set5 W w.heap.size v0 v1 v2 v3 v4).setCell ⟨w.heap.size+1,0,Y⟩ a0).setCell ⟨w.heap.size+1,1,Y⟩ a1)∧
  (((set5 W w.heap.size v0 v1 v2 v3 v4).setCell ⟨w.heap.size+1,0,Y⟩ a0).setCell ⟨w.heap.size+1,1,Y⟩ a1).heap[w.heap.size]?=A (r7 #[v0,v1,v2,v3,v4] 145 (0,0))∧
  (((set5 W w.heap.size v0 v1 v2 v3 v4).setCell ⟨w.heap.size+1,0,Y⟩ a0).setCell ⟨w.heap.size+1,1,Y⟩ a1).heap[w.heap.size+1]?=A (r7 #[a0,a1] 109 (0,0))∧
  (∀b,w.heap.size+2≤b→(((set5 W w.heap.size v0 v1 v2 v3 v4).setCell ⟨w.heap.size+1,0,Y⟩ a0).setCell ⟨w.heap.size+1,1,Y⟩ a1).heap[b]?=W.heap[b]?)∧
  (((set5 W w.heap.size v0 v1 v2 v3 v4).setCell ⟨w.heap.size+1,0,Y⟩ a0).setCell ⟨w.heap.size+1,1,Y⟩ a1).heap.size=W.heap.size:=by
 refine⟨?_,?_,?_,fun b l=>?_,?_⟩
 ·unfold set5;exact ((((((k.setCell (p:=⟨w.heap.size,0,Y⟩) (JM _) v0).setCell (p:=⟨w.heap.size,1,Y⟩) (JM _) v1).setCell (p:=⟨w.heap.size,2,Y⟩) (JM _) v2).setCell (p:=⟨w.heap.size,3,Y⟩) (JM _) v3).setCell (p:=⟨w.heap.size,4,Y⟩) (JM _) v4).setCell (p:=⟨w.heap.size+1,0,Y⟩) (J9 _) a0).setCell (p:=⟨w.heap.size+1,1,Y⟩) (J9 _) a1
 ·exact (JQ _ _ _ _ (show w.heap.size≠w.heap.size+1 by omega)).trans ((JQ _ _ _ _ (show w.heap.size≠w.heap.size+1 by omega)).trans (aX a v0 v1 v2 v3 v4))
 ·exact EC ((kZ (show w.heap.size+1≠w.heap.size by omega) v0 v1 v2 v3 v4).trans c) a0 a1
 ·exact (JQ _ _ _ _ (show b≠w.heap.size+1 by omega)).trans ((JQ _ _ _ _ (show b≠w.heap.size+1 by omega)).trans (kZ (show b≠w.heap.size by omega) v0 v1 v2 v3 v4))
 ·rw[AF,AF];simp[set5,AF]
theorem AY(s:ByteArray)(a:J)(f:aI a):Calls Tryz.prog 91 #[r9 s] a fun e w'=>Kr a w'∧
  ((∃er pl:Nat,fa s=(f7,(er:Int),(pl:Int))∧er≠0∧e=wg (y9 #[O Y 0 0,wP #[I U er,I U pl]]))∨
   (s.size≤16384∧(ay s 0).2=Y∧∃v,e=wg (y9 #[v,wP #[I U 0,I U 0]])∧w'.ownsRow a.heap.size 192 3 v (f8 s).length (bO (f8 s)))):=by
 by_cases d:16384<s.size
 ·refine (rf s a d).mono ?_;rintro e w' ⟨rfl,b⟩;exact⟨b,wD ⟨3,0,by unfold fa;rw[oj d];rfl,by decide,Z⟩⟩
 ·refine (sL s a (by omega) f).mono ?_;rintro e w' ⟨b,⟨c,v,rfl,g⟩|⟨er,pl,c,rfl⟩⟩
  ·refine⟨b,wF ⟨by omega,c,v,Z,?_⟩⟩;rw[pn];exact g
  ·refine⟨b,wD ⟨er,pl,by unfold fa;rw[oe d,c],(FW s _ 0 er pl c).1,Z⟩⟩
theorem Dd{w W:J}{s:ByteArray}{a:ac}{ks:List ac}{p:Option Addr}{c:Nat}{F:Nat→Prop}(hm:fa s=if true=true then (a,0,0) else (f7,204,0))(g:a=.mk 1 ⟨#[]⟩ 0 0 ks)(e:∀d,dR d a)(h:Kr w W)(f:dF W w.heap.size 29 ks (O p ks.length c))
  (i:OwnAt W 30 ks (O p ks.length c) F) (hF:∀b,F b→bI w.heap.size W.heap.size b) :
  uJ w (fa s) (wg (y9 #[wP #[I r8 1,r9 ⟨#[]⟩,I U 0,I U 0,O p ks.length c],wP #[I U 0,I U 0]])) W:=by
 rw[hm,oj Z];subst g;exact⟨_,Z,h,i.N hF,pP ks,e,f⟩
theorem rj(a:Int)(x:ByteArray)(p:Int)(W:J):(Instr.field 192 (wP #[I r8 a,r9 x,I U p]) 0).run Tryz.prog W=.ok (I r8 a) W:=by kernel_rfl
theorem mg{w W:J}{s:ByteArray}{er pl:Int}(hm:fa s=(f7,er,pl))(a:Kr w W) :
  uJ w (fa s) (wg (y9 #[wP #[I r8 0,r9 ⟨#[]⟩,I U 0,I U 0,O Y 0 0],wP #[I U er,I U pl]])) W:=by
 rw[hm];exact⟨O Y 0 0,Z,a,wD ⟨Z,wD Z⟩,Dc,qi,DZ _ _ _⟩
theorem zh(s:ByteArray)(w:J)(ht:aI w):Calls Tryz.prog 72 #[r9 s] w (uJ w (fa s)):=by
 obtain⟨wA,bl⟩:=zzx ((w.alloc (r7 bM 145)).alloc (r7 #[I U 0,I U 0] 109));have cf:Kr w wA:=by rw[bl];exact mw w _ _
 obtain⟨X0,X1,_⟩:=bc w (r7 bM 145) (r7 #[I U 0,I U 0] 109);rw[←bl]at X0 X1;obtain⟨HT,hI⟩:=zz2 (AY s wA (ht.C cf)) (ht.C cf);have e7:(3:Nat)<w.heap.size:=ht.lt;obtain⟨i0,hJ,hK,hL,hM⟩:=info_parts sq;have a6:Hid (wA.heap.size=w.heap.size+2):=by show _=_;rw[bl];simp
 obtain⟨cW,c0,ch⟩:=zz3 X0 X1 cf;clear X0 X1 cf ht
 go_enter Tryz.func72,Tryz.ntmps72
 go_upto_region 1 with fail
 change Code.wp _ _ _ _ ((w.alloc (r7 bM 145)).alloc (r7 #[I U 0,I U 0] 109));rw[←bl];clear bl;go_wp2_with fail
 refine JX HT.o ?_;rintro e w1 ⟨af,⟨er,pl,hm,hN,rfl⟩|⟨hs,h0,v,rfl,ba⟩⟩
 ·have HM:=Hd hm;have mu:((er:Int) != 0)=true:=by simp;omega
  obtain⟨G,H⟩:=zzx (w1.alloc (r7 #[I U er,I U pl] 109));have Q:Kr wA G:=by rw[H];exact af.alloc af.size _
  have bm:G.heap[w1.heap.size]?=A (r7 #[I U er,I U pl] 109 (0,0)):=by rw[H];exact oc w1 _
  have HB:=Hd (ch.o.trans (Q.mono ch.o.size));have mv:w.heap.size+2≤w1.heap.size:=by have:=a6.o;have:=af.size;omega
  obtain⟨S,c3⟩:=zz2 (aa Q cW.o (by have:=a6.o;omega)) (aa Q c0.o (by have:=a6.o;omega));clear af Q hm hN;go_upto_region 2 with fail
  change Code.wp _ _ _ _ (w1.alloc (r7 #[I U er,I U pl] 109));rw[←H];clear H;obtain⟨f0,f1,_,_⟩:=kg bm;clear bm;go_wp2_with fail
  have z0:=ab S.o 0;have z1:=ab S.o 1;have z2:=ab S.o 2;have z3:=ab S.o 3;have z4:=ab S.o 4;obtain⟨a0,a1,a2,a3,a4⟩:=cells5 S.o;obtain⟨b0,b1,y0,y1⟩:=kg c3.o;have m4:(w.heap.size=w1.heap.size)=False:=by simp;omega
  have m5:(w1.heap.size=w.heap.size)=False:=by simp;omega
  go_region
  go_wp2_with fail
  obtain⟨k1,k2,k3,_,_⟩:=jf (v0:=I r8 0) (v1:=r9 ⟨#[]⟩) (v2:=I U 0) (v3:=I U 0) (v4:=O Y 0 0) (a0:=I U er) (a1:=I U pl) HB.o S.o c3.o;change bodyPost _ _ _ _ _ (((set5 G w.heap.size (I r8 0) (r9 ⟨#[]⟩) (I U 0) (I U 0) (O Y 0 0)).setCell ⟨w.heap.size+1,0,Y⟩ (I U er)).setCell ⟨w.heap.size+1,1,Y⟩ (I U pl)).drew;generalize (((set5 G w.heap.size (I r8 0) (r9 ⟨#[]⟩) (I U 0) (I U 0) (O Y 0 0)).setCell ⟨w.heap.size+1,0,Y⟩ (I U er)).setCell ⟨w.heap.size+1,1,Y⟩ (I U pl))=WZ at *;have hQ:WZ.drew.heap[w.heap.size]?=_:=k2;have hU:WZ.drew.heap[w.heap.size+1]?=_:=k3;exact lI Z Z Z hQ hU (mg HM.o k1.drew)
 ·obtain⟨_,c5⟩:=ba;have hlen:=pn s;have aq:=GZ s hs;have ck:(f8 s).length≤16385:=by
   have h1:=rR s (s.size+1) 0 (J0 _);have h2:(ay s 0).1.length+0≤s.size:=h1;omega
  rcases c5 with ⟨_,h⟩|⟨L,cap,cur,rfl,m6,c6,hle,e8,hV,ar⟩
  ·omega
  have HM:Hid (fa s=wM (f8 s) (mh (f8 s)) (wL s)):=by
   show _=_
   unfold fa;rw[oe (by omega),h0]
  have T:Hid (wL s=.mk 1 ⟨#[]⟩ 0 0 (mh (f8 s)).1):=rfl;have bg:Hid (i5 (mh (f8 s)).1):=Cd aq ck (by omega);obtain⟨R,hR⟩:=zzy (mh (f8 s));rw[hR]at HM T bg;unfold mh at hR;generalize wL s=T0 at *;obtain⟨ts,cr⟩:=zzy (f8 s);rw[cr]at hlen aq ck hle ar HM hR ⊢;obtain⟨HR,c7,c8⟩:=zz3 hR aq (Dx aq (EY aq));have e9:0<ts.length:=by omega
  have m0:=Hd ck;have hW:wA.heap.size≤w1.heap.size:=af.size;have hX:L<w1.heap.size:=(JL.1 c6).1;obtain⟨G,H⟩:=zzx (w1.alloc (r7 #[I U 0,I U 0] 109));obtain⟨z,bn⟩:=zzx (G.alloc (r7 #[O (A ⟨L,0,Y⟩) ts.length cap,xt false] 189));obtain⟨wn,bq⟩:=zzx (z.alloc (r7 #[I r8 1,r9 ⟨#[]⟩,I U 0,I U 0,O Y 0 0] 145));have Q:Kr w1 G:=by rw[H];exact (JO _ w1).alloc (JM _) _
  have bt:Kr G z:=by rw[bn];exact (JO _ G).alloc (JM _) _
  have cl:Kr z wn:=by rw[bq];exact (JO _ z).alloc (JM _) _
  have bm:G.heap[w1.heap.size]?=A (r7 #[I U 0,I U 0] 109 (0,0)):=by rw[H];exact oc w1 _
  have c9:z.heap[G.heap.size]?=A (r7 #[O (A ⟨L,0,Y⟩) ts.length cap,xt false] 189 (0,0)):=by rw[bn];exact oc G _
  have dg:wn.heap[z.heap.size]?=A (r7 #[I r8 1,r9 ⟨#[]⟩,I U 0,I U 0,O Y 0 0] 145 (0,0)):=by rw[bq];exact oc z _
  have hY:G.heap.size=w1.heap.size+1:=by rw[H];simp
  have h4:z.heap.size=G.heap.size+1:=by rw[bn];simp
  have h5:wn.heap.size=z.heap.size+1:=by rw[bq];simp
  have K:Kr wA z:=af.trans ((Q.trans (bt.mono (by omega))).mono hW);have dn:PAt z G.heap.size L cap ts 0 false:=by
   refine⟨⟨ts.length,cap,Z,Z,by rw[Nat.zero_mul];exact c9⟩,⟨cur,?_,fun j u hu=>?_⟩,e9,ck,hle,e8⟩
   ·exact aa (Q.trans (bt.mono (by omega))) c6 hX
   ·rw[←ar,List.getElem?_take]at hu
    split at hu
    ·simpa using hu
    ·cases hu
  have ds:=dn.h cl;have fm:=a6.o;obtain⟨P,hP⟩:=zzy (G.heap.size);obtain⟨V,dt⟩:=zzy (z.heap.size);rw[hP]at dn ds c9;rw[dt]at dg;have m1:w.heap.size+2<P:=by omega
  have m7:P<V:=by omega
  have h6:z.heap.size≤V:=by omega
  have HL:Hid (L<z.heap.size):=by show _<_;omega
  have h7:P<z.heap.size:=by omega
  have h8:Hid (Kr w z):=ch.o.trans (K.mono ch.o.size);obtain⟨S,c3,fr,fs⟩:=zz4 (aa (K.trans (cl.mono K.size)) cW.o (by omega)) (aa (K.trans (cl.mono K.size)) c0.o (by omega)) dg ds;have ft:V+1=wn.heap.size:=by omega
  have ct:Hid (ye z P L cap ts R V wn):=
   ⟨ts.length+1,[],(0,false),0,[],fun _ _=>False,O Y 0 0,HR.o,wF (by omega),J0 _,fs.o,fr.o,World.ownsRow_nil _ _ _ _,ml _ _ _ _⟩
  obtain⟨HP,h9,fv,fz,fI⟩:=zz5 hP dt (aa K cW.o (by omega)) (aa K c0.o (by omega)) (hI.o.C K);have ih:P≠3:=fun h=>by have:=e7;omega
  obtain⟨ix,iA,iB⟩:=zz3 H bn bq;have iX:Hid (0≤atM ts R.2∧atM ts R.2≤16384):=by
   show _∧_
   obtain⟨_,_,g3⟩:=de aq R.2.1;unfold atM;omega
  obtain⟨f0,f1,_,_⟩:=kg bm;have m2:V+1≤wn.heap.size:=by omega
  clear hlen ft fm hY h4 h5 H bn bq bm c9 dg ds dn Q bt cl af aq cr c6 ar hV e8 hR K hP dt hle hs h0;go_upto_region 2 with fail
  change Code.wp _ _ _ _ (w1.alloc (r7 #[I U 0,I U 0] 109));rw[←ix.o];go_upto_region 5 with fail
  change Code.wp _ _ _ _ (G.alloc (r7 #[O (A ⟨L,0,Y⟩) ts.length cap,xt false] 189));rw[←iA.o,HP.o];go_wp2_with fail
  change Code.wp _ _ _ _ (z.alloc (r7 #[I r8 1,r9 ⟨#[]⟩,I U 0,I U 0,O Y 0 0] 145));rw[←iB.o,h9.o]
  go_loopw [25] (fun _ wr=>ye z P L cap ts R V wr) (fun _ wr=>gB P wr)
  case atStart=>exact ct.o
  case round =>
   clear ct fs fr;obtain⟨g,ks,a,dd,rows,Fs,o,fT,hg,hlen,hT,hn,ba,bR⟩:=hrel;obtain⟨cm,dv,HG,gf,gr,cu,b2⟩:=zz7 hT fT hg hlen hn ba bR;have gD:=Hd hT.2.steps;have b3:Hid (a.1≤(eB ts (dT ts) a).2.1):=xw (ts:=ts) (rV ts) a;have gE:V<wr.heap.size:=(JL.1 hn).1;clear fT hg hlen hT hn ba bR;go_upto_region 6 with fail
   go_cut [38] from 25 to 38 (fun v wx=>v=xt (!a.2&&kdM ts a != 7)∧Kr wr wx)
   case first =>
    obtain⟨_,_,_,_,_,c1,_,_⟩:=cm.o.2.z;have b4:=Hd (gm cm.o.2)
    cases l:a.2 with
    | true =>
     rw[l]at c1;have cn:=Hd l;clear l;go_wp2_with fail
     go_meet
     case rel=>exact⟨by rw[cn.o];rfl,JO _ _⟩
    | false =>
     rw[l]at c1;have cn:=Hd l;clear l;have jj:kdM ts a<256:=(de c7.o a.1).1;obtain⟨kd,ef⟩:=zzy (kdM ts a);rw[ef]at b4 jj;have gF:=Hd ef;clear ef;generalize txM ts a=tx at b4;generalize atM ts a=pl at b4
     by_cases hk:kd=7
     ·have j2:((kd:Int) != 7)=false:=by simp;omega
      have HK:=Hd hk;clear hk;go_wp2_with fail
      refine JX b4.o ?_;rintro e wx ⟨rfl,B⟩;have X:=Hd B;have kc:=rj kd tx pl wx;clear B;go_wp2_with fail
      go_meet
      case rel=>exact⟨by rw[cn.o,gF.o,HK.o];rfl,X.o⟩
     ·have j2:((kd:Int) != 7)=true:=by simp;omega
      have gH:(kd != 7)=true:=by simpa using hk
      have HK:=Hd gH;clear hk gH;go_wp2_with fail
      refine JX b4.o ?_;rintro e wx ⟨rfl,B⟩;have X:=Hd B;have kc:=rj kd tx pl wx;clear B;go_wp2_with fail
      go_meet
      case rel=>exact⟨by rw[cn.o,gF.o,HK.o];rfl,X.o⟩
   case rest =>
    obtain⟨rfl,B⟩:=hcut;obtain⟨C,b5⟩:=zz2 (cm.o.u B) (aa B gr.o gE);have gL:P<V+1:=by omega
    obtain⟨D,y⟩:=zz2 (dC cu.o (aF B (A P)) gL) (b2.o.turn (aF B (A P)) gL);have kk:V<wc.heap.size:=(JL.1 b5.o).1;clear B cm gr cu b2 gE;obtain⟨b,l⟩:=zzy ((!a.2&&kdM ts a != 7));rw[l];have HB:=Hd l;clear l
    cases b with
    | true =>
     have bk:a.2=false:=by have:=HB.o;cases h:a.2<;>simp[h]at this ⊢
     have gM:¬kdM ts a=7:=by have:=HB.o;rw[bk]at this;simpa using this
     have gN:=C.o.2.k;have m9:=C.o.2.n;have gO:=gf.o;rw[bk]at gO;simp only[Ka,oF,Nat.add_zero]at gO;obtain⟨g',gS,gT⟩:∃g',((eB ts (dT ts) a).2.2=true∨ts.length-(eB ts (dT ts) a).2.1+1≤g')∧oP ts g' (ks++[(eB ts (dT ts) a).1]) (eB ts (dT ts) a).2=R:=by
      have h1:=dv.o;have h2:=HG.o;rw[bk]at h2;have na:ts.length-a.1+1≤g:=by rcases h2 with h|h;cases h;exact h
      cases g with
      | zero=>omega
      | succ g =>
       rw[oK,oe (by rw[bk];decide),oe gM]at h1;refine⟨g,?_,h1⟩;rcases rS c7.o gN with h|h
       ·exact wD h
       ·exact wF (by omega)
     have ha:=rS c7.o gN;obtain⟨eg,kn,kv,hc,kI⟩:=zz5 (c8.o a wc.drew P L cap C.o.2.drew) gS gT ha bk;clear gS gT ha gM bk;generalize eB ts (dT ts) a=r at *;obtain⟨d0,hd,hh,d3,d4⟩:=cells5 b5.o;have bt:V≠P:=by omega
     have C4:=fun x:RE.Gr wc P=>x.h d4 bt
     have hj:P<wc.heap.size:=C.o.2.lt.1;clear d0 hd hh d3 d4;go_wp2_with fail
     refine RE.z (by kernel_rfl) 5 [3,4] [3,4] (fun s W=>if s=0 then W=wc.drew else ah wc P L cap ts r.2.1 r.2.2 W) (fun W W'=>W.grownBy W' (A P))
      (fun i xs=>if i=3 then wP #[I r8 r.1.q,r9 r.1.h,I U r.1.u,I U r.1.C,xs.getD 0 xk] else O (A ⟨RE.natOf xs,0,Y⟩) 1 1)
      (fun i W xs=>if i=3 then gj wc.heap.size r.1 W xs else ip wc.heap.size r.1 W xs) (by kernel_rfl) (fun i h1 h2=>by rw[h1]at h2;cases h2) ?_ Z ?_
     ·intro k W W' xs h _ hg
      split at h
      ·rw[oj (by assumption)];exact h.u hj hg
      ·rw[oe (by assumption)];exact h.u hj hg
     simp only[JY,J7,JZ,J6,Kf,List.length_nil,Nat.reduceAdd];have hl:∀(n s:Nat) (W:J),s≤n→(if s=0 then W=wc.drew else ah wc P L cap ts r.2.1 r.2.2 W)→∃x:RE.Gr wc P,W=x.1:=fun n s W _ h=>by
      split at h
      ·exact⟨⟨W,by rw[h];exact grown_drewN (oT wc _) 1⟩,Z⟩
      ·exact⟨⟨W,h.1⟩,Z⟩
     have k0:=Hd hl;clear hl
     repeat (refine RE.q (fun W=>∃x:RE.Gr wc P,W=x.1) (k0.o _) Z Z Z Z ?_;go_big_quiet_step (fail);refine wpQuiet_nil ?_)
     refine RE.h Z Z ?_ (fun hp=>?_)
     ·intro W _ hS _;obtain rfl:W=wc.drew:=hS Z;refine RE.C 93 _ _ Z (enters_of Tryz.func93 (by kernel_rfl) Z) #[vo (A ⟨P,0,Y⟩)] (by simp[Act.eval]) (eg.o.mono ?_);rintro e W' ⟨d,s,rfl,hT,ho,hf⟩;exact⟨_,Z,[s],Z,hT.z,hT.1,⟨d,s,Z,ho,hf⟩⟩
     simp only[Act.put,JP,JW,JV];refine RE.h Z Z ?_ (fun hq=>?_)
     ·intro W _ hS k6;have hT:ah wc P L cap ts r.2.1 r.2.2 W:=hS Z;obtain⟨d,s,rfl,ho,hf⟩:gj wc.heap.size r.1 W hp:=k6 3 hp (by kernel_rfl) Z;obtain⟨p,c,rfl⟩:=ho.q;refine RE.Upon.told (v:=O (A ⟨W.heap.size,0,Y⟩) 1 1) (w':=W.alloc (r7 (aj r.1 (O p r.1.z.length c)).toArray 145)) ?_ ⟨[I U W.heap.size],Z,hT.N _,?_,?_⟩
      ·unfold RE.Upon
       go_simp
       rfl
      ·exact aF ((JO _ W).alloc (JM _) _) _
      ·refine⟨d,W.heap.size,W.heap.size,_,Z,oc W _,?_,hf,hT.1.size,JM _⟩;exact ho.C (fun b l=>l.2) ((JO _ W).alloc (JM _) _)
     simp only[Act.put,JP,JW,JV];refine RE.u ?_;intro W3 hS hE;have cp:ah wc P L cap ts r.2.1 r.2.2 W3:=hS;obtain⟨d2,gg,N,s2,rfl,en,eo,k7,k8,k9⟩:=(show ip wc.heap.size r.1 W3 hq from hE 4 hq Z);have nb:wc.heap.size≤W3.heap.size:=cp.1.size;have b6:=dC D.o cp.1 (by omega);refine wpList_append_lies W3 Z (.tmp 40) (.tmp 43) 143 Z (V+1) 145 i0 _ 5 64 Tryz.underlying143 hJ hK hL hM Z (by decide) o ks.length rows.flatten Z b6 ⟨gg,0,Y⟩ 1 1 (aj r.1 s2) Z Z
      (fun j u hu=>by rw[Addr.add_mid,Kq _ _ _ _ _ _ en,Nat.zero_add];simpa using hu) (by have:=eo.q;obtain⟨p,c,rfl⟩:=this;simp[Value.oneCell',aj]) (by decide) (by unfold maxLen;omega) (by omega) (by omega) _ Z ?_
     intro g7 hr w7 cv b7 b8 _;obtain⟨d',et,la,u1,u2,u3,u4,u5,u6⟩:=uB (w:=z) h7 HL.o h6 (show V<(V+1) by omega) (by omega) C.o b5.o D.o y.o cp en eo k7 k8 k9 cv b7 b8;have x4:=ab u6 4;obtain⟨d0,hd,hh,d3,d4⟩:=cells5 u6;obtain⟨Wn,hv⟩:=zzx (w7.setCell ⟨V,4,Y⟩ (O (A ⟨g7,0,Y⟩) (ks.length+1) hr));rw[←hv]at u1 u2 u3 u4 u5;have b9:(ks++[r.1]).length≤r.2.1+(if r.2.2=true then 1 else 0):=by
      have h1:=u1.2.k;rw[J2,Ko];rcases hc.o with h|h
      ·rw[oj h];have:=b3.o;omega
      ·split<;>omega
     have e0:Hid (ye z P L cap ts R V Wn):=
      ⟨g',_,r.2,d',et,la,_,kv.o,kn.o,b9,u1,u3,u4,u5⟩
     have e1:Hid (gB P Wn<gB P wr):=by
      show _<_
      rw[u1.2.steps,gD.o,oe (show ¬a.2=true by rw[kI.o];decide)];have h1:=u1.2.k;have h3:=b3.o;rcases hc.o with h|h
      ·rw[oj h];omega
      ·split<;>omega
     have lb:=Hd hv;clear u1 u2 u3 u4 u5 b9 b8 b7 cv hE hS cp b6 en eo C4;go_wp2_with fail
     rw[←lb.o];exact⟨e0.o,e1.o⟩
    | false =>
     have ld:(ks,a)=R:=by
      rw[←dv.o];have h2:=HB.o
      cases g with
      | zero=>rfl
      | succ g =>
       rw[oK]
       by_cases e2:a.2=true
       ·rw[oj e2]
       ·rw[oe e2,oj (by simpa [e2]using h2)]
     subst ld;dsimp only at T iX bg;have cy:=Hd ((C.o.1.block w.heap.size (by omega) (fun e=>by injection e with e;omega)).trans fv.o)
     have cA:=Hd ((C.o.1.block (w.heap.size+1) (by omega) (fun e=>by injection e with e;omega)).trans fz.o)
     obtain⟨X,lf⟩:=zz2 (ub h8.o C.o (by omega)) (fI.o.u C.o.1 ih);obtain⟨_,_,_,_,_,c1,_,_⟩:=C.o.2.z;clear dv HG gf HB b3 gD
     cases l:a.2 with
     | true =>
      rw[l]at c1;have hy:Hid (fa s=(f7,202,atM ts a)):=by show _=_;rw[HM.o];unfold wM;dsimp only;rw[oj l]
      have bb:=Hd (gm C.o.2);clear l;generalize kdM ts a=kd at bb;generalize txM ts a=tx at bb;generalize atM ts a=pl at bb hy;go_wp2_with fail
      refine JX bb.o ?_;rintro e wy ⟨rfl,cq⟩;have nc:=kF kd tx pl wy;obtain⟨lg,E,cC⟩:=zz3 (X.o.trans (cq.mono X.o.size)) (aa cq cy.o (by omega)) (aa cq cA.o (by omega));clear cq c1;obtain⟨k1,k2,k3,k4,k5⟩:=jf (v0:=(I r8 0)) (v1:=(r9 ⟨#[]⟩)) (v2:=(I U 0)) (v3:=(I U 0)) (v4:=(O Y 0 0)) (a0:=(I U 202)) (a1:=(I U pl)) lg.o E.o cC.o;obtain⟨K1,K2,K3,K4,K5⟩:=zz5 k1 k2 k3 k4 k5;clear k1 k2 k3 k4 k5;have z0:=ab E.o 0;have z1:=ab E.o 1;have z2:=ab E.o 2;have z3:=ab E.o 3;have z4:=ab E.o 4;obtain⟨a0,a1,a2,a3,a4⟩:=cells5 E.o;obtain⟨b0,b1,y0,y1⟩:=kg cC.o;go_wp2_with fail
      change bodyPost _ _ _ _ _ (((set5 wy w.heap.size (I r8 0) (r9 ⟨#[]⟩) (I U 0) (I U 0) (O Y 0 0)).setCell ⟨w.heap.size+1,0,Y⟩ (I U 202)).setCell ⟨w.heap.size+1,1,Y⟩ (I U pl));generalize ((set5 wy w.heap.size (I r8 0) (r9 ⟨#[]⟩) (I U 0) (I U 0) (O Y 0 0)).setCell ⟨w.heap.size+1,0,Y⟩ (I U 202)).setCell ⟨w.heap.size+1,1,Y⟩ (I U pl)=WZ at *;exact lI Z Z Z K2.o K3.o (mg hy.o K1.o)
     | false =>
      rw[l]at c1
      have ca:Hid (fa s=match dpM 30 T0 with
        | some p=>(f7,203,p)
        | none=>if jU 30 T0=true then (T0,0,0) else (f7,204,0)):=by
       show _=_
       rw[HM.o];unfold wM;dsimp only;rw[oe (by rw[l];decide)]
      clear l;have hO:=uC (d:=dd+1) Z D.o y.o (fun h=>by omega);obtain⟨p,c,rfl⟩:=hO.q;have HO:=Hd hO;have F:fN wc wc.heap.size (dd+1) T0 (wP #[I r8 1,r9 ⟨#[]⟩,I U 0,I U 0,O p ks.length c]):=by
       rw[T.o];exact⟨pP ks,_,Z,hO.z fun b l=>l.2⟩
      have cR:∀d,wR d T0.z:=fun d=>by
       rw[T.o]
       cases d with
       | zero=>trivial
       | succ d=>exact⟨by show ks.length≤20000;have:=bg.o.1;omega,fun k hk=>(bg.o.2 k hk d).slim⟩
      have cT:Hid (∀d,dR d T0):=by
       show ∀d,dR d T0
       rw[T.o];exact ew (show (0:Nat)≤16390 by omega) (by omega) bg.o.1 bg.o.2
      obtain⟨e3,lr⟩:=zz2 (CU 30 0 (dd+1) T0 _ wc.heap.size wc Z F (JM _) (cR _)) hO;have l0:Hid (dF wc (V+1) dd ks (O p ks.length c)):=⟨rows,Fs,D.o,y.o⟩;obtain⟨n0,n1,n2,n3,n4⟩:=cells5 b5.o;clear hO F cR HO D y;obtain⟨x,hx⟩:=zzy (dpM 30 T0);rw[hx]at e3 ca;have HX:=Hd hx;clear hx;rw[show ((0:Nat):Int)=0 from rfl]at e3;go_wp2_with fail
      refine JX e3.o ?_;rintro e wd ⟨rfl,M⟩;obtain⟨e4,m,cb,e5,l1,l3,l4⟩:=zz7 (X.o.trans (M.mono X.o.size)) (aa M cy.o (by omega)) (aa M cA.o (by omega)) (aa M b5.o kk) (lr.o.C (fun b l=>l.2) M) (l0.o.C M) (lf.o.C M);have mb:V<wd.heap.size:=(JL.1 e5.o).1;have cV:wc.heap.size≤wd.heap.size:=M.size;clear M n0 n1 n2 n3 n4 c1
      cases x with
      | some q =>
       dsimp only [Option.getD_some,Option.isSome_some];obtain⟨k1,k2,k3,k4,k5⟩:=jf (v0:=(I r8 0)) (v1:=(r9 ⟨#[]⟩)) (v2:=(I U 0)) (v3:=(I U 0)) (v4:=(O Y 0 0)) (a0:=(I U 203)) (a1:=(I U q)) e4.o m.o cb.o;obtain⟨K1,K2,K3,K4,K5⟩:=zz5 k1 k2 k3 k4 k5;clear k1 k2 k3 k4 k5;have z0:=ab m.o 0;have z1:=ab m.o 1;have z2:=ab m.o 2;have z3:=ab m.o 3;have z4:=ab m.o 4;obtain⟨a0,a1,a2,a3,a4⟩:=cells5 m.o;obtain⟨b0,b1,y0,y1⟩:=kg cb.o;go_wp2_with fail
       change bodyPost _ _ _ _ _ (((set5 wd w.heap.size (I r8 0) (r9 ⟨#[]⟩) (I U 0) (I U 0) (O Y 0 0)).setCell ⟨w.heap.size+1,0,Y⟩ (I U 203)).setCell ⟨w.heap.size+1,1,Y⟩ (I U q));generalize ((set5 wd w.heap.size (I r8 0) (r9 ⟨#[]⟩) (I U 0) (I U 0) (O Y 0 0)).setCell ⟨w.heap.size+1,0,Y⟩ (I U 203)).setCell ⟨w.heap.size+1,1,Y⟩ (I U q)=WZ at *;exact lI Z Z Z K2.o K3.o (mg ca.o K1.o)
      | none =>
       dsimp only [Option.getD_none,Option.isSome_none];have e6:∀t∈ks,dpM 29 t=none:=by
        have h:=HX.o;rw[T.o]at h;have h2:ks.findSome? (dpM 29)=none:=h;rw[List.findSome?_eq_none_iff]at h2;exact h2
       have cc:=(vm l1.o e6).more;obtain⟨hz,hA⟩:=zz2 cc ((l3.o.depth (n:=28) e6).more);have F:fN wd wd.heap.size 30 T0 (wP #[I r8 1,r9 ⟨#[]⟩,I U 0,I U 0,O p ks.length c]):=by
        rw[T.o];exact⟨pP ks,_,Z,cc.z fun b l=>JS l.2 cV⟩
       have hC:=Hd (oS 30 T0 _ wd.heap.size wd F (JM _) (cT.o 30).slim l4.o);obtain⟨n0,n1,n2,n3,n4⟩:=cells5 e5.o;clear e6 cc F;obtain⟨rt,hD⟩:=zzy (jU 30 T0);rw[hD]at hC ca;clear hD;go_wp2_with fail
       refine JX hC.o ?_;rintro e we ⟨rfl,ad⟩;obtain⟨hG,f,bd,mf⟩:=zz4 (e4.o.trans (ad.mono e4.o.size)) (aa ad m.o (by omega)) (aa ad cb.o (by omega)) (aa ad e5.o mb);have m3:wd.heap.size≤we.heap.size:=ad.size;obtain⟨mi,mn⟩:=zz2 (hz.o.C (fun b l=>JS l.2 cV) ad) (hA.o.C ad);clear ad n0 n1 n2 n3 n4
       cases rt with
       | false =>
        obtain⟨k1,k2,k3,k4,k5⟩:=jf (v0:=(I r8 0)) (v1:=(r9 ⟨#[]⟩)) (v2:=(I U 0)) (v3:=(I U 0)) (v4:=(O Y 0 0)) (a0:=(I U 204)) (a1:=(I U 0)) hG.o f.o bd.o;obtain⟨K1,K2,K3,K4,K5⟩:=zz5 k1 k2 k3 k4 k5;clear k1 k2 k3 k4 k5;have z0:=ab f.o 0;have z1:=ab f.o 1;have z2:=ab f.o 2;have z3:=ab f.o 3;have z4:=ab f.o 4;obtain⟨a0,a1,a2,a3,a4⟩:=cells5 f.o;obtain⟨b0,b1,y0,y1⟩:=kg bd.o;go_wp2_with fail
        change bodyPost _ _ _ _ _ (((set5 we w.heap.size (I r8 0) (r9 ⟨#[]⟩) (I U 0) (I U 0) (O Y 0 0)).setCell ⟨w.heap.size+1,0,Y⟩ (I U 204)).setCell ⟨w.heap.size+1,1,Y⟩ (I U 0));generalize ((set5 we w.heap.size (I r8 0) (r9 ⟨#[]⟩) (I U 0) (I U 0) (O Y 0 0)).setCell ⟨w.heap.size+1,0,Y⟩ (I U 204)).setCell ⟨w.heap.size+1,1,Y⟩ (I U 0)=WZ at *;exact lI Z Z Z K2.o K3.o (mg ca.o K1.o)
       | true =>
        obtain⟨n0,n1,n2,n3,n4⟩:=cells5 mf.o;obtain⟨k1,k2,k3,k4,k5⟩:=jf (v0:=(I r8 1)) (v1:=(r9 ⟨#[]⟩)) (v2:=(I U 0)) (v3:=(I U 0)) (v4:=(O p ks.length c)) (a0:=(I U 0)) (a1:=(I U 0)) hG.o f.o bd.o;obtain⟨K1,K2,K3,K4,K5⟩:=zz5 k1 k2 k3 k4 k5;clear k1 k2 k3 k4 k5;have z0:=ab f.o 0;have z1:=ab f.o 1;have z2:=ab f.o 2;have z3:=ab f.o 3;have z4:=ab f.o 4;obtain⟨a0,a1,a2,a3,a4⟩:=cells5 f.o;obtain⟨b0,b1,y0,y1⟩:=kg bd.o;go_wp2_with fail
        change bodyPost _ _ _ _ _ (((set5 we w.heap.size (I r8 1) (r9 ⟨#[]⟩) (I U 0) (I U 0) (O p ks.length c)).setCell ⟨w.heap.size+1,0,Y⟩ (I U 0)).setCell ⟨w.heap.size+1,1,Y⟩ (I U 0));generalize ((set5 we w.heap.size (I r8 1) (r9 ⟨#[]⟩) (I U 0) (I U 0) (O p ks.length c)).setCell ⟨w.heap.size+1,0,Y⟩ (I U 0)).setCell ⟨w.heap.size+1,1,Y⟩ (I U 0)=WZ at *;exact lI Z Z Z K2.o K3.o (Dd ca.o T.o cT.o K1.o ((mn.o.K (by rw[K5.o];exact JM _) (fun b l _=>K4.o b (by omega))).low (by omega)) (mi.o.K fun b o l ho=>(K4.o b (by have:=l.1;omega)).trans ho) (fun b l=>⟨by have:=l.1;omega,by rw[K5.o];have:=l.2;omega⟩))
