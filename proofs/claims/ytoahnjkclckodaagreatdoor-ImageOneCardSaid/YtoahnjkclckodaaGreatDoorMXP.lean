/- The parser: a source's program, or its fault; by contract. Condition: the library's table of blanks lies as laid. -/
import Derived.Test.YtoahnjkclckodaaGreatDoorMXN
import Derived.Test.YtoahnjkclckodaaGreatDoorMZK
import Derived.Test.YtoahnjkclckodaaGreatDoorMJ
import Derived.RegionTactic
open Go renaming World→J,Value→tT,undef→wF
open Or renaming inl→wD,inr→wP
open Go.Ending renaming returned→wj
open Go.Value renaming tuple→y9,agg→xk,int→I,string→tS,slice→O,pointer→vv,bool→xv
open Go.IntKind renaming u8→tF,i64→U
open Option renaming some→A,none→Y
open Go.Obj renaming cells→r9
open Go.World renaming cell?→AF,setCell→AJ
namespace Go.Proofs.YtoahnjkclckodaaGreatDoor
set_option maxHeartbeats 4000000
set_option maxRecDepth 100000
open Go.RowKit
def tX(s:ByteArray):ac:=.mk 1 ⟨#[]⟩ 0 0 (lv (fE s)).1
def tY(ts:List Tok) (R:List ac×PS) (a:ac):ac×Int×Int:=
 if R.2.2=true then (fD,202,atM ts R.2)
 else match dpM 30 a with
  | some p=>(fD,203,p)
  | none=>if jr 30 a=true then (a,0,0) else (fD,204,0)
def fV(s:ByteArray):ac×Int×Int:=
 if 16384<s.size then (fD,3,0)
 else match (au s 0).2 with
  | some (er,pl)=>(fD,er,pl)
  | none=>tY (fE s) (lv (fE s)) (tX s)
def dl(W:J) (L d:Nat) (ks:List ac) (v:tT):Prop:=∃(rows:List (List tT)) (a:Nat→Nat→Prop),W.ownsRow L 145 5 v ks.length rows.flatten∧cd W L d ks ks.length v.ownBlock rows a
theorem dl.C{W W':J}{L d:Nat}{ks:List ac}{v:tT}(h:dl W L d ks v)(f:Gl W W'):dl W' L d ks v:=by
 obtain⟨rows,g,j,k,r2,l,r4,m,n⟩:=h;refine⟨rows,g,ownsRow_below j f,k,r2,fun i T hi o=>?_,fun i b e=>⟨(r4 i b e).1,FG (r4 i b e).2.1 f.size,(r4 i b e).2.2⟩,m,n⟩;obtain⟨a,s,b,c⟩:=l i T hi o;exact⟨a,s,b,c.C (fun b e=>(r4 i b e).2.1) f⟩
theorem dl.t{W W':J}{L d:Nat}{ks:List ac}{v:tT}(h:dl W L d ks v)(n:W.heap.size≤W'.heap.size)(j:∀b,L≤b→b<W.heap.size→W'.heap[b]?=W.heap[b]?):dl W' L d ks v:=by
 obtain⟨rows,p,⟨q,f⟩,r,r2,t,r4,u,w⟩:=h;refine⟨rows,p,⟨q,?_⟩,r,r2,fun i T hi y=>?_,fun i b e=>⟨(r4 i b e).1,FG (r4 i b e).2.1 n,(r4 i b e).2.2⟩,u,w⟩
 ·rcases f with f|⟨g,cap,cur,z,k,l,B⟩
  ·exact wD f
  ·exact wP ⟨g,cap,cur,z,k,(j g k (Fx.1 l).1).trans l,B⟩
 ·obtain⟨a,s,b,c⟩:=t i T hi y;exact⟨a,s,b,c.t fun x o m C=>(j x (r4 i x m).1 (r4 i x m).2.1).trans C⟩
theorem dl.low{W:J}{L a d:Nat}{ks:List ac}{v:tT}(h:dl W L d ks v)(c:a≤L):dl W a d ks v:=by
 obtain⟨rows,f,g,j,r2,k,r4,l,m⟩:=h;exact⟨rows,f,ownsRow_base g c,j,r2,k,fun i b e=>⟨FH c (r4 i b e).1,(r4 i b e).2⟩,l,m⟩
def sw(w:J) (r:ac×Int×Int) (e:Ending) (w':J):Prop:=
 ∃(a:tT),e=wj (y9 #[xk #[I tF r.1.q,tS r.1.h,I U r.1.u,I U r.1.t,a],xk #[I U r.2.1,I U r.2.2]])∧Gl w w'∧OwnAt w' 30 r.1.z a (bC w.heap.size w'.heap.size)∧Fits r.1∧(∀d,dE d r.1)∧dl w' w.heap.size 29 r.1.z a
def uP(w:J) (P L cap:Nat) (ts:List Tok) (R:List ac×PS) (a:Nat) (W:J):Prop:=
 ∃(g:Nat) (ks:List ac) (σ:PS) (d:Nat) (rows:List (List tT)) (b:Nat→Nat→Prop) (o:tT),mU ts g ks σ=R∧(σ.2=true∨ts.length-σ.1+1≤g)∧ks.length≤σ.1+(if σ.2=true then 1 else 0)∧
  ah w P L cap ts σ.1 σ.2 W∧W.heap[a]?=A (r9 #[I tF 1,tS ⟨#[]⟩,I U 0,I U 0,o] 145 (0,0))∧
  W.ownsRow (a+1) 145 5 o ks.length rows.flatten∧cd W (a+1) d ks ks.length o.ownBlock rows b
theorem sQ{W:J}:∀{n d:Nat} {ks:List ac} {a:tT} {F:Nat→Prop},OwnAt W d ks a F→(∀t∈ks,dpM n t=Y)→OwnAt W n ks a F:=by
 intro n
 induction n with
 | zero =>
  intro d ks a F h b;have e:ks=[]:=by
   cases ks with
   | nil=>rfl
   | cons t r=>have:=b t (List.mem_cons_self ..);cases this
  subst e;exact⟨Z,h.nil⟩
 | succ n f =>
  intro d ks a F h b
  cases d with
  | zero=>exact wD h
  | succ d =>
   rcases h with h|⟨g,cap,cs,j,k,l,m,o,p,q,u,v,w,x⟩
   ·exact wD h
   ·refine wP ⟨g,cap,cs,j,k,l,m,o,p,q,u,fun i T c=>?_,w,x⟩;obtain⟨y,s,z,B⟩:=v i T c;refine⟨y,s,z,f B fun t C=>?_⟩;have:=b T (FZ c);unfold dpM at this;rw[List.findSome?_eq_none_iff]at this;exact this t C
theorem dl.depth{W:J}{L d n:Nat}{ks:List ac}{v:tT}(h:dl W L d ks v)(f:∀t∈ks,dpM (n+1) t=Y):dl W L n ks v:=by
 obtain⟨rows,g,j,k,r2,l,r4⟩:=h;refine⟨rows,g,j,k,r2,fun i T hi e=>?_,r4⟩;obtain⟨a,s,b,c⟩:=l i T hi e;refine⟨a,s,b,sQ c fun t m=>?_⟩;have:=f T (FZ e);unfold dpM at this;rw[List.findSome?_eq_none_iff]at this;exact this t m
theorem dl.more{W:J}{L d:Nat}{ks:List ac}{v:tT}(h:dl W L d ks v):dl W L (d+1) ks v:=by
 obtain⟨rows,e,f,g,r2,j,r4⟩:=h;exact⟨rows,e,f,g,r2,fun i T hi k=>by obtain⟨a,s,b,c⟩:=j i T hi k;exact⟨a,s,b,c.more⟩,r4⟩
theorem AI(W:J)(L d:Nat):dl W L d [] (O Y 0 0):=⟨[],fun _ _=>False,World.ownsRow_nil _ _ _ _,lw _ _ _ _⟩
theorem zY:Fits fD:=fc (by omega) (by show (0:Nat)≤16384;omega) (by omega) (by omega)
theorem nW(ks:List ac):Fits (.mk 1 ⟨#[]⟩ 0 0 ks):=fc (by omega) (by show (0:Nat)≤16384;omega) (by omega) (by omega)
theorem rC{w W0 W:J}{P L cap k:Nat}{bad:Bool}{ts:List Tok}(a:Gl w W0)(b:ah W0 P L cap ts k bad W)(c:w.heap.size≤P):Gl w W:=
 ⟨b.1.os.trans a.os,b.1.tape.trans a.tape,b.1.output.trans a.output,FH a.size b.1.size,fun i hi=>(b.1.block i (FG hi a.size) (fun e=>by injection e with e;omega)).trans (a.block i hi)⟩
theorem kQ{w W:J}{a:Act}{v0 v1 v2 v3 v4 c d:tT}{R:Ending→J→Prop}(h:a.tmps.getD 2 wF=vv (A ⟨w.heap.size,0,Y⟩))(i:a.tmps.getD 3 wF=vv (A ⟨w.heap.size+1,0,Y⟩))(j:a.defers=[])
  (e:W.heap[w.heap.size]?=A (r9 #[v0,v1,v2,v3,v4] 145 (0,0))) (b:W.heap[w.heap.size+1]?=A (r9 #[c,d] 109 (0,0))) (k:R (wj (y9 #[xk #[v0,v1,v2,v3,v4],xk #[c,d]])) W):bodyPost Tryz.prog Tryz.f72 R .ret a W:=by
 obtain⟨l,m,c2,n,c4⟩:=cells5 e;have d0:W.cell? ⟨w.heap.size+1,0,Y⟩=A c:=by simp[AF,b]
 have d1:W.cell? ⟨w.heap.size+1,1,Y⟩=A d:=by simp[AF,b]
 have f:a.tmps[2]?.getD wF=vv (A ⟨w.heap.size,0,Y⟩):=by simpa using h
 have g:a.tmps[3]?.getD wF=vv (A ⟨w.heap.size+1,0,Y⟩):=by simpa using i
 refine bodyPost_ret (v:=y9 #[xk #[v0,v1,v2,v3,v4],xk #[c,d]]) ?_ j k;simp[results,Tryz.results72,go_sem,f,g,l,m,c2,n,c4,d0,d1]
theorem Bg{W:J}{b:Nat}{a c:tT}{t:TypeId}(h:W.heap[b]?=A (r9 #[a,c] t (0,0)))(v0 v1:tT) :
  ((W.setCell ⟨b,0,Y⟩ v0).setCell ⟨b,1,Y⟩ v1).heap[b]?=A (r9 #[v0,v1] t (0,0)):=by
 rw[heap_set (heap_set h 0 v0) 1 v1];rfl
theorem jK{W:J}{b:Nat}{a c:tT}{t:TypeId}(h:W.heap[b]?=A (r9 #[a,c] t (0,0))):W.cell? ⟨b,0,Y⟩=A a∧W.cell? ⟨b,1,Y⟩=A c∧W.frozen? ⟨b,0,Y⟩=false∧W.frozen? ⟨b,1,Y⟩=false:=by refine⟨by simp[AF,h],by simp[AF,h],by simp[World.frozen?,h],by simp[World.frozen?,h]⟩
theorem iK{w W:J}{v0 v1 v2 v3 v4 a0 a1:tT}{d e f g h i j:tT}(k:Gl w W)(a:W.heap[w.heap.size]?=A (r9 #[d,e,f,g,h] 145 (0,0)))(c:W.heap[w.heap.size+1]?=A (r9 #[i,j] 109 (0,0))) :
  Gl w (((set5 W w.heap.size v0 v1 v2 v3 v4).setCell ⟨w.heap.size+1,0,Y⟩ a0).setCell ⟨w.heap.size+1,1,Y⟩ a1)∧
  (((set5 W w.heap.size v0 v1 v2 v3 v4).setCell ⟨w.heap.size+1,0,Y⟩ a0).setCell ⟨w.heap.size+1,1,Y⟩ a1).heap[w.heap.size]?=A (r9 #[v0,v1,v2,v3,v4] 145 (0,0))∧
  (((set5 W w.heap.size v0 v1 v2 v3 v4).setCell ⟨w.heap.size+1,0,Y⟩ a0).setCell ⟨w.heap.size+1,1,Y⟩ a1).heap[w.heap.size+1]?=A (r9 #[a0,a1] 109 (0,0))∧
  (∀b,w.heap.size+2≤b→(((set5 W w.heap.size v0 v1 v2 v3 v4).setCell ⟨w.heap.size+1,0,Y⟩ a0).setCell ⟨w.heap.size+1,1,Y⟩ a1).heap[b]?=W.heap[b]?)∧
  (((set5 W w.heap.size v0 v1 v2 v3 v4).setCell ⟨w.heap.size+1,0,Y⟩ a0).setCell ⟨w.heap.size+1,1,Y⟩ a1).heap.size=W.heap.size:=by
 refine⟨?_,?_,?_,fun b l=>?_,?_⟩
 ·unfold set5;exact ((((((k.setCell (p:=⟨w.heap.size,0,Y⟩) (Fy _) v0).setCell (p:=⟨w.heap.size,1,Y⟩) (Fy _) v1).setCell (p:=⟨w.heap.size,2,Y⟩) (Fy _) v2).setCell (p:=⟨w.heap.size,3,Y⟩) (Fy _) v3).setCell (p:=⟨w.heap.size,4,Y⟩) (Fy _) v4).setCell (p:=⟨w.heap.size+1,0,Y⟩) (F3 _) a0).setCell (p:=⟨w.heap.size+1,1,Y⟩) (F3 _) a1
 ·exact (FC _ _ _ _ (show w.heap.size≠w.heap.size+1 by omega)).trans ((FC _ _ _ _ (show w.heap.size≠w.heap.size+1 by omega)).trans (aO a v0 v1 v2 v3 v4))
 ·exact Bg ((kq (show w.heap.size+1≠w.heap.size by omega) v0 v1 v2 v3 v4).trans c) a0 a1
 ·exact (FC _ _ _ _ (show b≠w.heap.size+1 by omega)).trans ((FC _ _ _ _ (show b≠w.heap.size+1 by omega)).trans (kq (show b≠w.heap.size by omega) v0 v1 v2 v3 v4))
 ·rw[AJ,AJ];simp[set5,AJ]
theorem yb(s:ByteArray)(a:J)(f:aB a):Calls Tryz.prog 91 #[tS s] a fun e w'=>Gl a w'∧
  ((∃er pl:Nat,fV s=(fD,(er:Int),(pl:Int))∧er≠0∧e=wj (y9 #[O Y 0 0,xk #[I U er,I U pl]]))∨
   (s.size≤16384∧(au s 0).2=Y∧∃v,e=wj (y9 #[v,xk #[I U 0,I U 0]])∧w'.ownsRow a.heap.size 192 3 v (fE s).length (bI (fE s)))):=by
 by_cases d:16384<s.size
 ·refine (px s a d).mono ?_;rintro e w' ⟨rfl,b⟩;exact⟨b,wD ⟨3,0,by unfold fV;rw[oE d];rfl,by decide,Z⟩⟩
 ·refine (qC s a (by omega) f).mono ?_;rintro e w' ⟨b,⟨c,v,rfl,g⟩|⟨er,pl,c,rfl⟩⟩
  ·refine⟨b,wP ⟨by omega,c,v,Z,?_⟩⟩;rw[nB];exact g
  ·refine⟨b,wD ⟨er,pl,by unfold fV;rw[oB d,c],(Ce s _ 0 er pl c).1,Z⟩⟩
theorem zZ{w W:J}{s:ByteArray}{a:ac}{ks:List ac}{p:Option Addr}{c:Nat}{F:Nat→Prop}(hm:fV s=if true=true then (a,0,0) else (fD,204,0))(g:a=.mk 1 ⟨#[]⟩ 0 0 ks)(e:∀d,dE d a)(h:Gl w W)(f:dl W w.heap.size 29 ks (O p ks.length c))
  (i:OwnAt W 30 ks (O p ks.length c) F) (hF:∀b,F b→bC w.heap.size W.heap.size b) :
  sw w (fV s) (wj (y9 #[xk #[I tF 1,tS ⟨#[]⟩,I U 0,I U 0,O p ks.length c],xk #[I U 0,I U 0]])) W:=by
 rw[hm,oE Z];subst g;exact⟨_,Z,h,i.D hF,nW ks,e,f⟩
theorem pB(a:Int)(x:ByteArray)(p:Int)(W:J):(Instr.field 192 (xk #[I tF a,tS x,I U p]) 0).run Tryz.prog W=.ok (I tF a) W:=by kernel_rfl
theorem lu{w W:J}{s:ByteArray}{er pl:Int}(hm:fV s=(fD,er,pl))(a:Gl w W) :
  sw w (fV s) (wj (y9 #[xk #[I tF 0,tS ⟨#[]⟩,I U 0,I U 0,O Y 0 0],xk #[I U er,I U pl]])) W:=by
 rw[hm];exact⟨O Y 0 0,Z,a,wD ⟨Z,wD Z⟩,zY,ou,AI _ _ _⟩
theorem vZ(s:ByteArray)(w:J)(ht:aB w):Calls Tryz.prog 72 #[tS s] w (sw w (fV s)):=by
 obtain⟨wA,bm⟩:=zzx ((w.alloc (r9 bE 145)).alloc (r9 #[I U 0,I U 0] 109));have ch:Gl w wA:=by rw[bm];exact lB w _ _
 obtain⟨X0,X1,_⟩:=aW w (r9 bE 145) (r9 #[I U 0,I U 0] 109);rw[←bm]at X0 X1;obtain⟨HT,hL⟩:=zz2 (yb s wA (ht.C ch)) (ht.C ch);have e9:(3:Nat)<w.heap.size:=ht.lt;obtain⟨i0,hM,hN,hQ,hU⟩:=info_parts qq;have a6:Hid (wA.heap.size=w.heap.size+2):=by show _=_;rw[bm];simp
 obtain⟨c0,c3,ck⟩:=zz3 X0 X1 ch;clear X0 X1 ch ht
 go_enter Tryz.func72,Tryz.ntmps72
 go_upto_region 1 with fail
 change Code.wp _ _ _ _ ((w.alloc (r9 bE 145)).alloc (r9 #[I U 0,I U 0] 109));rw[←bm];clear bm;go_wp2_with fail
 refine FN HT.o ?_;rintro e w1 ⟨af,⟨er,pl,hm,hV,rfl⟩|⟨hs,h0,v,rfl,ba⟩⟩
 ·have HM:=Hd hm;have m1:((er:Int) != 0)=true:=by simp;omega
  obtain⟨G,H⟩:=zzx (w1.alloc (r9 #[I U er,I U pl] 109));have Q:Gl wA G:=by rw[H];exact af.alloc af.size _
  have bn:G.heap[w1.heap.size]?=A (r9 #[I U er,I U pl] 109 (0,0)):=by rw[H];exact oA w1 _
  have HB:=Hd (ck.o.trans (Q.mono ck.o.size));have m2:w.heap.size+2≤w1.heap.size:=by have:=a6.o;have:=af.size;omega
  obtain⟨S,c5⟩:=zz2 (aa Q c0.o (by have:=a6.o;omega)) (aa Q c3.o (by have:=a6.o;omega));clear af Q hm hV;go_upto_region 2 with fail
  change Code.wp _ _ _ _ (w1.alloc (r9 #[I U er,I U pl] 109));rw[←H];clear H;obtain⟨f0,f1,_,_⟩:=jK bn;clear bn;go_wp2_with fail
  have z0:=ab S.o 0;have z1:=ab S.o 1;have z2:=ab S.o 2;have z3:=ab S.o 3;have z4:=ab S.o 4;obtain⟨a0,a1,a2,a3,a4⟩:=cells5 S.o;obtain⟨b0,b1,y0,y1⟩:=jK c5.o;have m7:(w.heap.size=w1.heap.size)=False:=by simp;omega
  have na:(w1.heap.size=w.heap.size)=False:=by simp;omega
  go_region
  go_wp2_with fail
  obtain⟨k1,k2,k3,_,_⟩:=iK (v0:=I tF 0) (v1:=tS ⟨#[]⟩) (v2:=I U 0) (v3:=I U 0) (v4:=O Y 0 0) (a0:=I U er) (a1:=I U pl) HB.o S.o c5.o;change bodyPost _ _ _ _ _ (((set5 G w.heap.size (I tF 0) (tS ⟨#[]⟩) (I U 0) (I U 0) (O Y 0 0)).setCell ⟨w.heap.size+1,0,Y⟩ (I U er)).setCell ⟨w.heap.size+1,1,Y⟩ (I U pl)).drew;generalize (((set5 G w.heap.size (I tF 0) (tS ⟨#[]⟩) (I U 0) (I U 0) (O Y 0 0)).setCell ⟨w.heap.size+1,0,Y⟩ (I U er)).setCell ⟨w.heap.size+1,1,Y⟩ (I U pl))=WZ at *;have hW:WZ.drew.heap[w.heap.size]?=_:=k2;have hX:WZ.drew.heap[w.heap.size+1]?=_:=k3;exact kQ Z Z Z hW hX (lu HM.o k1.drew)
 ·obtain⟨_,c6⟩:=ba;have hlen:=nB s;have aq:=Df s hs;have cl:(fE s).length≤16385:=by
   have h1:=qb s (s.size+1) 0 (FR _);have h2:(au s 0).1.length+0≤s.size:=h1;omega
  rcases c6 with ⟨_,h⟩|⟨L,cap,cur,rfl,nb,c7,hle,fm,hY,ar⟩
  ·omega
  have HM:Hid (fV s=tY (fE s) (lv (fE s)) (tX s)):=by
   show _=_
   unfold fV;rw[oB (by omega),h0]
  have T:Hid (tX s=.mk 1 ⟨#[]⟩ 0 0 (lv (fE s)).1):=rfl;have bk:Hid (iC (lv (fE s)).1):=zg aq cl (by omega);obtain⟨R,hR⟩:=zzy (lv (fE s));rw[hR]at HM T bk;unfold lv at hR;generalize tX s=T0 at *;obtain⟨ts,ct⟩:=zzy (fE s);rw[ct]at hlen aq cl hle ar HM hR ⊢;obtain⟨HR,c8,c9⟩:=zz3 hR aq (Ap aq (BD aq));have fr:0<ts.length:=by omega
  have m3:=Hd cl;have h4:wA.heap.size≤w1.heap.size:=af.size;have h5:L<w1.heap.size:=(Fx.1 c7).1;obtain⟨G,H⟩:=zzx (w1.alloc (r9 #[I U 0,I U 0] 109));obtain⟨z,bq⟩:=zzx (G.alloc (r9 #[O (A ⟨L,0,Y⟩) ts.length cap,xv false] 189));obtain⟨wn,bt⟩:=zzx (z.alloc (r9 #[I tF 1,tS ⟨#[]⟩,I U 0,I U 0,O Y 0 0] 145));have Q:Gl w1 G:=by rw[H];exact (Fz _ w1).alloc (Fy _) _
  have bR:Gl G z:=by rw[bq];exact (Fz _ G).alloc (Fy _) _
  have cm:Gl z wn:=by rw[bt];exact (Fz _ z).alloc (Fy _) _
  have bn:G.heap[w1.heap.size]?=A (r9 #[I U 0,I U 0] 109 (0,0)):=by rw[H];exact oA w1 _
  have dg:z.heap[G.heap.size]?=A (r9 #[O (A ⟨L,0,Y⟩) ts.length cap,xv false] 189 (0,0)):=by rw[bq];exact oA G _
  have dn:wn.heap[z.heap.size]?=A (r9 #[I tF 1,tS ⟨#[]⟩,I U 0,I U 0,O Y 0 0] 145 (0,0)):=by rw[bt];exact oA z _
  have h6:G.heap.size=w1.heap.size+1:=by rw[H];simp
  have h7:z.heap.size=G.heap.size+1:=by rw[bq];simp
  have h8:wn.heap.size=z.heap.size+1:=by rw[bt];simp
  have K:Gl wA z:=af.trans ((Q.trans (bR.mono (by omega))).mono h4);have ds:PAt z G.heap.size L cap ts 0 false:=by
   refine⟨⟨ts.length,cap,Z,Z,by rw[Nat.zero_mul];exact dg⟩,⟨cur,?_,fun j u hu=>?_⟩,fr,cl,hle,fm⟩
   ·exact aa (Q.trans (bR.mono (by omega))) c7 h5
   ·rw[←ar,List.getElem?_take]at hu
    split at hu
    ·simpa using hu
    ·cases hu
  have dt:=ds.h cm;have fs:=a6.o;obtain⟨P,hP⟩:=zzy (G.heap.size);obtain⟨V,dv⟩:=zzy (z.heap.size);rw[hP]at ds dt dg;rw[dv]at dn;have m4:w.heap.size+2<P:=by omega
  have nc:P<V:=by omega
  have h9:z.heap.size≤V:=by omega
  have HL:Hid (L<z.heap.size):=by show _<_;omega
  have ih:P<z.heap.size:=by omega
  have ix:Hid (Gl w z):=ck.o.trans (K.mono ck.o.size);obtain⟨S,c5,ft,fv⟩:=zz4 (aa (K.trans (cm.mono K.size)) c0.o (by omega)) (aa (K.trans (cm.mono K.size)) c3.o (by omega)) dn dt;have fz:V+1=wn.heap.size:=by omega
  have cu:Hid (uP z P L cap ts R V wn):=
   ⟨ts.length+1,[],(0,false),0,[],fun _ _=>False,O Y 0 0,HR.o,wP (by omega),FR _,fv.o,ft.o,World.ownsRow_nil _ _ _ _,lw _ _ _ _⟩
  obtain⟨HP,iA,fI,fT,gf⟩:=zz5 hP dv (aa K c0.o (by omega)) (aa K c3.o (by omega)) (hL.o.C K);have iB:P≠3:=fun h=>by have:=e9;omega
  obtain⟨iX,jj,j2⟩:=zz3 H bq bt;have kc:Hid (0≤atM ts R.2∧atM ts R.2≤16384):=by
   show _∧_
   obtain⟨_,_,g3⟩:=cM aq R.2.1;unfold atM;omega
  obtain⟨f0,f1,_,_⟩:=jK bn;have m5:V+1≤wn.heap.size:=by omega
  clear hlen fz fs h6 h7 h8 H bq bt bn dg dn dt ds Q bR cm af aq ct c7 ar hY fm hR K hP dv hle hs h0;go_upto_region 2 with fail
  change Code.wp _ _ _ _ (w1.alloc (r9 #[I U 0,I U 0] 109));rw[←iX.o];go_upto_region 5 with fail
  change Code.wp _ _ _ _ (G.alloc (r9 #[O (A ⟨L,0,Y⟩) ts.length cap,xv false] 189));rw[←jj.o,HP.o];go_wp2_with fail
  change Code.wp _ _ _ _ (z.alloc (r9 #[I tF 1,tS ⟨#[]⟩,I U 0,I U 0,O Y 0 0] 145));rw[←j2.o,iA.o]
  go_loopw [25] (fun _ wr=>uP z P L cap ts R V wr) (fun _ wr=>f8 P wr)
  case atStart=>exact cu.o
  case round =>
   clear cu fv ft;obtain⟨g,ks,a,dd,rows,Fs,o,gD,hg,hlen,hT,hn,ba,b2⟩:=hrel;obtain⟨cn,eg,HG,gE,gF,cv,b3⟩:=zz7 hT gD hg hlen hn ba b2;have gH:=Hd hT.2.steps;have b4:Hid (a.1≤(ed ts (dG ts) a).2.1):=uu (ts:=ts) (qg ts) a;have gL:V<wr.heap.size:=(Fx.1 hn).1;clear gD hg hlen hT hn ba b2;go_upto_region 6 with fail
   go_cut [38] from 25 to 38 (fun v wx=>v=xv (!a.2&&kdM ts a != 7)∧Gl wr wx)
   case first =>
    obtain⟨_,_,_,_,_,c1,_,_⟩:=cn.o.2.z;have b5:=Hd (fQ cn.o.2)
    cases l:a.2 with
    | true =>
     rw[l]at c1;have cp:=Hd l;clear l;go_wp2_with fail
     go_meet
     case rel=>exact⟨by rw[cp.o];rfl,Fz _ _⟩
    | false =>
     rw[l]at c1;have cp:=Hd l;clear l;have kk:kdM ts a<256:=(cM c8.o a.1).1;obtain⟨kd,en⟩:=zzy (kdM ts a);rw[en]at b5 kk;have gM:=Hd en;clear en;generalize txM ts a=tx at b5;generalize atM ts a=pl at b5
     by_cases hk:kd=7
     ·have kn:((kd:Int) != 7)=false:=by simp;omega
      have HK:=Hd hk;clear hk;go_wp2_with fail
      refine FN b5.o ?_;rintro e wx ⟨rfl,B⟩;have X:=Hd B;have kv:=pB kd tx pl wx;clear B;go_wp2_with fail
      go_meet
      case rel=>exact⟨by rw[cp.o,gM.o,HK.o];rfl,X.o⟩
     ·have kn:((kd:Int) != 7)=true:=by simp;omega
      have gN:(kd != 7)=true:=by simpa using hk
      have HK:=Hd gN;clear hk gN;go_wp2_with fail
      refine FN b5.o ?_;rintro e wx ⟨rfl,B⟩;have X:=Hd B;have kv:=pB kd tx pl wx;clear B;go_wp2_with fail
      go_meet
      case rel=>exact⟨by rw[cp.o,gM.o,HK.o];rfl,X.o⟩
   case rest =>
    obtain⟨rfl,B⟩:=hcut;obtain⟨C,b6⟩:=zz2 (cn.o.t B) (aa B gF.o gL);have gO:P<V+1:=by omega
    obtain⟨D,y⟩:=zz2 (dj cv.o (az B (A P)) gO) (b3.o.turn (az B (A P)) gO);have kI:V<wc.heap.size:=(Fx.1 b6.o).1;clear B cn gF cv b3 gL;obtain⟨b,l⟩:=zzy ((!a.2&&kdM ts a != 7));rw[l];have HB:=Hd l;clear l
    cases b with
    | true =>
     have bl:a.2=false:=by have:=HB.o;cases h:a.2<;>simp[h]at this ⊢
     have gS:¬kdM ts a=7:=by have:=HB.o;rw[bl]at this;simpa using this
     have gT:=C.o.2.k;have nd:=C.o.2.n;have ha:=gE.o;rw[bl]at ha;simp only[F4,o1,Nat.add_zero]at ha;obtain⟨g',hc,hd⟩:∃g',((ed ts (dG ts) a).2.2=true∨ts.length-(ed ts (dG ts) a).2.1+1≤g')∧mU ts g' (ks++[(ed ts (dG ts) a).1]) (ed ts (dG ts) a).2=R:=by
      have h1:=eg.o;have h2:=HG.o;rw[bl]at h2;have ng:ts.length-a.1+1≤g:=by rcases h2 with h|h;cases h;exact h
      cases g with
      | zero=>omega
      | succ g =>
       rw[mO,oB (by rw[bl];decide),oB gS]at h1;refine⟨g,?_,h1⟩;rcases qc c8.o gT with h|h
       ·exact wD h
       ·exact wP (by omega)
     have hh:=qc c8.o gT;obtain⟨eo,k0,k6,hj,k7⟩:=zz5 (c9.o a wc.drew P L cap C.o.2.drew) hc hd hh bl;clear hc hd hh gS bl;generalize ed ts (dG ts) a=r at *;obtain⟨d0,hl,hp,d3,d4⟩:=cells5 b6.o;have bR:V≠P:=by omega
     have C4:=fun x:RE.Gr wc P=>x.h d4 bR
     have hq:P<wc.heap.size:=C.o.2.lt.1;clear d0 hl hp d3 d4;go_wp2_with fail
     refine RE.u (by kernel_rfl) 5 [3,4] [3,4] (fun s W=>if s=0 then W=wc.drew else ah wc P L cap ts r.2.1 r.2.2 W) (fun W W'=>W.grownBy W' (A P))
      (fun i xs=>if i=3 then xk #[I tF r.1.q,tS r.1.h,I U r.1.u,I U r.1.t,xs.getD 0 wF] else O (A ⟨RE.natOf xs,0,Y⟩) 1 1)
      (fun i W xs=>if i=3 then fN wc.heap.size r.1 W xs else gA wc.heap.size r.1 W xs) (by kernel_rfl) (fun i h1 h2=>by rw[h1]at h2;cases h2) ?_ Z ?_
     ·intro k W W' xs h _ hg
      split at h
      ·rw[oE (by assumption)];exact h.u hq hg
      ·rw[oB (by assumption)];exact h.u hq hg
     simp only[FO,FY,FQ,FX,F9,List.length_nil,Nat.reduceAdd];have hr:∀(n s:Nat) (W:J),s≤n→(if s=0 then W=wc.drew else ah wc P L cap ts r.2.1 r.2.2 W)→∃x:RE.Gr wc P,W=x.1:=fun n s W _ h=>by
      split at h
      ·exact⟨⟨W,by rw[h];exact grown_drewN (o3 wc _) 1⟩,Z⟩
      ·exact⟨⟨W,h.1⟩,Z⟩
     have k8:=Hd hr;clear hr
     repeat (refine RE.q (fun W=>∃x:RE.Gr wc P,W=x.1) (k8.o _) Z Z Z Z ?_;go_big_quiet_step (fail);refine wpQuiet_nil ?_)
     refine RE.h Z Z ?_ (fun hv=>?_)
     ·intro W _ hS _;obtain rfl:W=wc.drew:=hS Z;refine RE.z 93 _ _ Z (enters_of Tryz.func93 (by kernel_rfl) Z) #[vv (A ⟨P,0,Y⟩)] (by simp[Act.eval]) (eo.o.mono ?_);rintro e W' ⟨d,s,rfl,hT,ho,hf⟩;exact⟨_,Z,[s],Z,hT.u,hT.1,⟨d,s,Z,ho,hf⟩⟩
     simp only[Act.put,FA,FM,FK];refine RE.h Z Z ?_ (fun hy=>?_)
     ·intro W _ hS k9;have hT:ah wc P L cap ts r.2.1 r.2.2 W:=hS Z;obtain⟨d,s,rfl,ho,hf⟩:fN wc.heap.size r.1 W hv:=k9 3 hv (by kernel_rfl) Z;obtain⟨p,c,rfl⟩:=ho.q;refine RE.Upon.told (v:=O (A ⟨W.heap.size,0,Y⟩) 1 1) (w':=W.alloc (r9 (ai r.1 (O p r.1.z.length c)).toArray 145)) ?_ ⟨[I U W.heap.size],Z,hT.D _,?_,?_⟩
      ·unfold RE.Upon
       go_simp
       rfl
      ·exact az ((Fz _ W).alloc (Fy _) _) _
      ·refine⟨d,W.heap.size,W.heap.size,_,Z,oA W _,?_,hf,hT.1.size,Fy _⟩;exact ho.C (fun b l=>l.2) ((Fz _ W).alloc (Fy _) _)
     simp only[Act.put,FA,FM,FK];refine RE.t ?_;intro W3 hS hE;have cq:ah wc P L cap ts r.2.1 r.2.2 W3:=hS;obtain⟨d2,gg,N,s2,rfl,et,e0,la,lb,ld⟩:=(show gA wc.heap.size r.1 W3 hy from hE 4 hy Z);have ni:wc.heap.size≤W3.heap.size:=cq.1.size;have b7:=dj D.o cq.1 (by omega);refine wpList_append_lies W3 Z (.tmp 40) (.tmp 43) 143 Z (V+1) 145 i0 _ 5 64 Tryz.underlying143 hM hN hQ hU Z (by decide) o ks.length rows.flatten Z b7 ⟨gg,0,Y⟩ 1 1 (ai r.1 s2) Z Z
      (fun j u hu=>by rw[Addr.add_mid,Gk _ _ _ _ _ _ et,Nat.zero_add];simpa using hu) (by have:=e0.q;obtain⟨p,c,rfl⟩:=this;simp[Value.oneCell',ai]) (by decide) (by unfold maxLen;omega) (by omega) (by omega) _ Z ?_
     intro g7 hz w7 cy b8 b9 _;obtain⟨d',e1,lf,u1,u2,u3,u4,u5,u6⟩:=sd (w:=z) ih HL.o h9 (show V<(V+1) by omega) (by omega) C.o b6.o D.o y.o cq et e0 la lb ld cy b8 b9;have x4:=ab u6 4;obtain⟨d0,hl,hp,d3,d4⟩:=cells5 u6;obtain⟨Wn,hA⟩:=zzx (w7.setCell ⟨V,4,Y⟩ (O (A ⟨g7,0,Y⟩) (ks.length+1) hz));rw[←hA]at u1 u2 u3 u4 u5;have ca:(ks++[r.1]).length≤r.2.1+(if r.2.2=true then 1 else 0):=by
      have h1:=u1.2.k;rw[FT,Gi];rcases hj.o with h|h
      ·rw[oE h];have:=b4.o;omega
      ·split<;>omega
     have e2:Hid (uP z P L cap ts R V Wn):=
      ⟨g',_,r.2,d',e1,lf,_,k6.o,k0.o,ca,u1,u3,u4,u5⟩
     have e3:Hid (f8 P Wn<f8 P wr):=by
      show _<_
      rw[u1.2.steps,gH.o,oB (show ¬a.2=true by rw[k7.o];decide)];have h1:=u1.2.k;have h3:=b4.o;rcases hj.o with h|h
      ·rw[oE h];omega
      ·split<;>omega
     have lg:=Hd hA;clear u1 u2 u3 u4 u5 ca b9 b8 cy hE hS cq b7 et e0 C4;go_wp2_with fail
     rw[←lg.o];exact⟨e2.o,e3.o⟩
    | false =>
     have lr:(ks,a)=R:=by
      rw[←eg.o];have h2:=HB.o
      cases g with
      | zero=>rfl
      | succ g =>
       rw[mO]
       by_cases e4:a.2=true
       ·rw[oE e4]
       ·rw[oB e4,oE (by simpa [e4]using h2)]
     subst lr;dsimp only at T kc bk;have cA:=Hd ((C.o.1.block w.heap.size (by omega) (fun e=>by injection e with e;omega)).trans fI.o)
     have cC:=Hd ((C.o.1.block (w.heap.size+1) (by omega) (fun e=>by injection e with e;omega)).trans fT.o)
     obtain⟨X,l0⟩:=zz2 (rC ix.o C.o (by omega)) (gf.o.u C.o.1 iB);obtain⟨_,_,_,_,_,c1,_,_⟩:=C.o.2.z;clear eg HG gE HB b4 gH
     cases l:a.2 with
     | true =>
      rw[l]at c1;have hC:Hid (fV s=(fD,202,atM ts a)):=by show _=_;rw[HM.o];unfold tY;dsimp only;rw[oE l]
      have bb:=Hd (fQ C.o.2);clear l;generalize kdM ts a=kd at bb;generalize txM ts a=tx at bb;generalize atM ts a=pl at bb hC;go_wp2_with fail
      refine FN bb.o ?_;rintro e wy ⟨rfl,cr⟩;have nk:=j4 kd tx pl wy;obtain⟨l1,E,cR⟩:=zz3 (X.o.trans (cr.mono X.o.size)) (aa cr cA.o (by omega)) (aa cr cC.o (by omega));clear cr c1;obtain⟨k1,k2,k3,k4,k5⟩:=iK (v0:=(I tF 0)) (v1:=(tS ⟨#[]⟩)) (v2:=(I U 0)) (v3:=(I U 0)) (v4:=(O Y 0 0)) (a0:=(I U 202)) (a1:=(I U pl)) l1.o E.o cR.o;obtain⟨K1,K2,K3,K4,K5⟩:=zz5 k1 k2 k3 k4 k5;clear k1 k2 k3 k4 k5;have z0:=ab E.o 0;have z1:=ab E.o 1;have z2:=ab E.o 2;have z3:=ab E.o 3;have z4:=ab E.o 4;obtain⟨a0,a1,a2,a3,a4⟩:=cells5 E.o;obtain⟨b0,b1,y0,y1⟩:=jK cR.o;go_wp2_with fail
      change bodyPost _ _ _ _ _ (((set5 wy w.heap.size (I tF 0) (tS ⟨#[]⟩) (I U 0) (I U 0) (O Y 0 0)).setCell ⟨w.heap.size+1,0,Y⟩ (I U 202)).setCell ⟨w.heap.size+1,1,Y⟩ (I U pl));generalize ((set5 wy w.heap.size (I tF 0) (tS ⟨#[]⟩) (I U 0) (I U 0) (O Y 0 0)).setCell ⟨w.heap.size+1,0,Y⟩ (I U 202)).setCell ⟨w.heap.size+1,1,Y⟩ (I U pl)=WZ at *;exact kQ Z Z Z K2.o K3.o (lu hC.o K1.o)
     | false =>
      rw[l]at c1
      have cb:Hid (fV s=match dpM 30 T0 with
        | some p=>(fD,203,p)
        | none=>if jr 30 T0=true then (T0,0,0) else (fD,204,0)):=by
       show _=_
       rw[HM.o];unfold tY;dsimp only;rw[oB (by rw[l];decide)]
      clear l;have hO:=sh (d:=dd+1) Z D.o y.o (fun h=>by omega);obtain⟨p,c,rfl⟩:=hO.q;have HO:=Hd hO;have F:fi wc wc.heap.size (dd+1) T0 (xk #[I tF 1,tS ⟨#[]⟩,I U 0,I U 0,O p ks.length c]):=by
       rw[T.o];exact⟨nW ks,_,Z,hO.z fun b l=>l.2⟩
      have cT:∀d,t8 d T0.z:=fun d=>by
       rw[T.o]
       cases d with
       | zero=>trivial
       | succ d=>exact⟨by show ks.length≤20000;have:=bk.o.1;omega,fun k hk=>(bk.o.2 k hk d).slim⟩
      have cV:Hid (∀d,dE d T0):=by
       show ∀d,dE d T0
       rw[T.o];exact ea (show (0:Nat)≤16390 by omega) (by omega) bk.o.1 bk.o.2
      obtain⟨e5,l3⟩:=zz2 (zN 30 0 (dd+1) T0 _ wc.heap.size wc Z F (Fy _) (cT _)) hO;have l4:Hid (dl wc (V+1) dd ks (O p ks.length c)):=⟨rows,Fs,D.o,y.o⟩;obtain⟨n0,n1,n2,n3,n4⟩:=cells5 b6.o;clear hO F cT HO D y;obtain⟨x,hx⟩:=zzy (dpM 30 T0);rw[hx]at e5 cb;have HX:=Hd hx;clear hx;rw[show ((0:Nat):Int)=0 from rfl]at e5;go_wp2_with fail
      refine FN e5.o ?_;rintro e wd ⟨rfl,M⟩;obtain⟨e6,m,cc,e7,mb,mf,mi⟩:=zz7 (X.o.trans (M.mono X.o.size)) (aa M cA.o (by omega)) (aa M cC.o (by omega)) (aa M b6.o kI) (l3.o.C (fun b l=>l.2) M) (l4.o.C M) (l0.o.C M);have mn:V<wd.heap.size:=(Fx.1 e7.o).1;have cW:wc.heap.size≤wd.heap.size:=M.size;clear M n0 n1 n2 n3 n4 c1
      cases x with
      | some q =>
       dsimp only [Option.getD_some,Option.isSome_some];obtain⟨k1,k2,k3,k4,k5⟩:=iK (v0:=(I tF 0)) (v1:=(tS ⟨#[]⟩)) (v2:=(I U 0)) (v3:=(I U 0)) (v4:=(O Y 0 0)) (a0:=(I U 203)) (a1:=(I U q)) e6.o m.o cc.o;obtain⟨K1,K2,K3,K4,K5⟩:=zz5 k1 k2 k3 k4 k5;clear k1 k2 k3 k4 k5;have z0:=ab m.o 0;have z1:=ab m.o 1;have z2:=ab m.o 2;have z3:=ab m.o 3;have z4:=ab m.o 4;obtain⟨a0,a1,a2,a3,a4⟩:=cells5 m.o;obtain⟨b0,b1,y0,y1⟩:=jK cc.o;go_wp2_with fail
       change bodyPost _ _ _ _ _ (((set5 wd w.heap.size (I tF 0) (tS ⟨#[]⟩) (I U 0) (I U 0) (O Y 0 0)).setCell ⟨w.heap.size+1,0,Y⟩ (I U 203)).setCell ⟨w.heap.size+1,1,Y⟩ (I U q));generalize ((set5 wd w.heap.size (I tF 0) (tS ⟨#[]⟩) (I U 0) (I U 0) (O Y 0 0)).setCell ⟨w.heap.size+1,0,Y⟩ (I U 203)).setCell ⟨w.heap.size+1,1,Y⟩ (I U q)=WZ at *;exact kQ Z Z Z K2.o K3.o (lu cb.o K1.o)
      | none =>
       dsimp only [Option.getD_none,Option.isSome_none];have e8:∀t∈ks,dpM 29 t=none:=by
        have h:=HX.o;rw[T.o]at h;have h2:ks.findSome? (dpM 29)=none:=h;rw[List.findSome?_eq_none_iff]at h2;exact h2
       have cf:=(sQ mb.o e8).more;obtain⟨hD,hG⟩:=zz2 cf ((mf.o.depth (n:=28) e8).more);have F:fi wd wd.heap.size 30 T0 (xk #[I tF 1,tS ⟨#[]⟩,I U 0,I U 0,O p ks.length c]):=by
        rw[T.o];exact⟨nW ks,_,Z,cf.z fun b l=>FG l.2 cW⟩
       have hI:=Hd (mX 30 T0 _ wd.heap.size wd F (Fy _) (cV.o 30).slim mi.o);obtain⟨n0,n1,n2,n3,n4⟩:=cells5 e7.o;clear e8 cf F;obtain⟨rt,hJ⟩:=zzy (jr 30 T0);rw[hJ]at hI cb;clear hJ;go_wp2_with fail
       refine FN hI.o ?_;rintro e we ⟨rfl,ad⟩;obtain⟨hK,f,bd,mu⟩:=zz4 (e6.o.trans (ad.mono e6.o.size)) (aa ad m.o (by omega)) (aa ad cc.o (by omega)) (aa ad e7.o mn);have m6:wd.heap.size≤we.heap.size:=ad.size;obtain⟨mv,m0⟩:=zz2 (hD.o.C (fun b l=>FG l.2 cW) ad) (hG.o.C ad);clear ad n0 n1 n2 n3 n4
       cases rt with
       | false =>
        obtain⟨k1,k2,k3,k4,k5⟩:=iK (v0:=(I tF 0)) (v1:=(tS ⟨#[]⟩)) (v2:=(I U 0)) (v3:=(I U 0)) (v4:=(O Y 0 0)) (a0:=(I U 204)) (a1:=(I U 0)) hK.o f.o bd.o;obtain⟨K1,K2,K3,K4,K5⟩:=zz5 k1 k2 k3 k4 k5;clear k1 k2 k3 k4 k5;have z0:=ab f.o 0;have z1:=ab f.o 1;have z2:=ab f.o 2;have z3:=ab f.o 3;have z4:=ab f.o 4;obtain⟨a0,a1,a2,a3,a4⟩:=cells5 f.o;obtain⟨b0,b1,y0,y1⟩:=jK bd.o;go_wp2_with fail
        change bodyPost _ _ _ _ _ (((set5 we w.heap.size (I tF 0) (tS ⟨#[]⟩) (I U 0) (I U 0) (O Y 0 0)).setCell ⟨w.heap.size+1,0,Y⟩ (I U 204)).setCell ⟨w.heap.size+1,1,Y⟩ (I U 0));generalize ((set5 we w.heap.size (I tF 0) (tS ⟨#[]⟩) (I U 0) (I U 0) (O Y 0 0)).setCell ⟨w.heap.size+1,0,Y⟩ (I U 204)).setCell ⟨w.heap.size+1,1,Y⟩ (I U 0)=WZ at *;exact kQ Z Z Z K2.o K3.o (lu cb.o K1.o)
       | true =>
        obtain⟨n0,n1,n2,n3,n4⟩:=cells5 mu.o;obtain⟨k1,k2,k3,k4,k5⟩:=iK (v0:=(I tF 1)) (v1:=(tS ⟨#[]⟩)) (v2:=(I U 0)) (v3:=(I U 0)) (v4:=(O p ks.length c)) (a0:=(I U 0)) (a1:=(I U 0)) hK.o f.o bd.o;obtain⟨K1,K2,K3,K4,K5⟩:=zz5 k1 k2 k3 k4 k5;clear k1 k2 k3 k4 k5;have z0:=ab f.o 0;have z1:=ab f.o 1;have z2:=ab f.o 2;have z3:=ab f.o 3;have z4:=ab f.o 4;obtain⟨a0,a1,a2,a3,a4⟩:=cells5 f.o;obtain⟨b0,b1,y0,y1⟩:=jK bd.o;go_wp2_with fail
        change bodyPost _ _ _ _ _ (((set5 we w.heap.size (I tF 1) (tS ⟨#[]⟩) (I U 0) (I U 0) (O p ks.length c)).setCell ⟨w.heap.size+1,0,Y⟩ (I U 0)).setCell ⟨w.heap.size+1,1,Y⟩ (I U 0));generalize ((set5 we w.heap.size (I tF 1) (tS ⟨#[]⟩) (I U 0) (I U 0) (O p ks.length c)).setCell ⟨w.heap.size+1,0,Y⟩ (I U 0)).setCell ⟨w.heap.size+1,1,Y⟩ (I U 0)=WZ at *;exact kQ Z Z Z K2.o K3.o (zZ cb.o T.o cV.o K1.o ((m0.o.t (by rw[K5.o];exact Fy _) (fun b l _=>K4.o b (by omega))).low (by omega)) (mv.o.t fun b o l ho=>(K4.o b (by have:=l.1;omega)).trans ho) (fun b l=>⟨by have:=l.1;omega,by rw[K5.o];have:=l.2;omega⟩))
