/- Parts of one proof, joined; conditions stand in each theorem. -/
import Derived.Test.YtmpekinjoeibbaaGreatDoorNF
import Derived.Test.YtmpekinjoeibbaaGreatDoorNG
open Go renaming Value→r3,World→p7,TypeId→vn,Calls→r9,undef→tT,wpQuiet_nil→vk
open Option renaming none→V,some→A
open Go.Obj renaming cells→p8
open Go.Value renaming agg→s3,bool→ur,int→I,pointer→tv,slice→O,string→p9,tuple→wF
open Go.IntKind renaming i64→Y,u8→J
open Go.Proofs.Tryz renaming prog→r6
open Except renaming error→wD,ok→vb
open Go.Code renaming wp→wB
open Or renaming inl→tE,inr→tS
open Go.Act renaming put→wj
open Go.Ending renaming returned→tF
namespace Go.Proofs.YtmpekinjoeibbaaGreatDoor
set_option maxHeartbeats 4000000
set_option maxRecDepth 100000
open Go.RowKit
theorem MkG.vars{F:Nat→Prop}{d M:Nat}{ts:List ap}{rs:List au}{vars:List ByteArray}{nm:ByteArray}{sal nv:Int}{cs:List aK}{acs:List bm}{vT vR vV vC vA:r3}{w:p7}(h:MkW F d M ts rs vars nm sal nv cs acs vT vR vV vC vA w):mP M vars vV w:=
 ⟨by rw[FR _ _ _ _ _ _ h.m];rfl,h.lt,h.v.y (fun b a=>(h.f b a).1) (fun g c=>h.v.lt c)⟩
def st4(W:p7) (g:Nat) (a b c d:r3):World:=(((W.setCell ⟨g,0,V⟩ a).setCell ⟨g,1,V⟩ b).setCell ⟨g,2,V⟩ c).setCell ⟨g,3,V⟩ d
theorem vH{W:p7}{g:Nat}{x0 x1 x2 x3:r3}{t:vn}(h:W.heap[g]?=A (p8 #[x0,x1,x2,x3] t (0,0)))(a b c e:r3):(st4 W g a b c e).heap[g]?=A (p8 #[a,b,c,e] t (0,0)):=
 heap_set (heap_set (heap_set (heap_set h 0 a) 1 b) 2 c) 3 e
theorem nG{B:Nat}{w W:p7}{g:Nat}(f:Below B w W)(e:B≤g)(a b c d:r3):Below B w (st4 W g a b c d):=
 (((f.setCell e a).setCell e b).setCell e c).setCell e d
theorem nK{W:p7}{g:Nat}(a b c d:r3)(k:Nat)(h:k≠g):(st4 W g a b c d).heap[k]?=W.heap[k]?:=by
 have e:∀(f:p7) (i:Nat) (u:r3),(f.setCell ⟨g,i,V⟩ u).heap[k]?=f.heap[k]?:=fun f i u=>EW f ⟨g,i,V⟩ u k h
 unfold st4;rw[e,e,e,e]
theorem Cj{W:p7}{g:Nat}(a b c d:r3):(st4 W g a b c d).heap.size=W.heap.size:=by simp[st4,World.setCell]
theorem iw{w:p7}{T:Nat}{a b c d:r3}{t:vn}(e:w.heap[T]?=A (p8 #[a,b,c,d] t (0,0))):w.cell? ⟨T,0,V⟩=A a∧w.cell? ⟨T,1,V⟩=A b∧w.cell? ⟨T,2,V⟩=A c∧w.cell? ⟨T,3,V⟩=A d:=by simp[World.cell?,e]
theorem vg{F F':Nat→Prop}{d M:Nat}{ts:List ap}{rs:List au}{vars:List ByteArray}{nm:ByteArray}{sal nv:Int}{cs:List aK}{acs:List bm}{vT vR vV vC vA:r3}{w:p7}{g:Nat}(h:MkW F d M ts rs vars nm sal nv cs acs vT vR vV vC vA w)(k:∀b,F b→F' b)
  (i:∀b,F' b→b<w.heap.size∧¬bf M [vT,vR,vV,vC,vA] b∧b≠g) (l:¬bf M [vT,vR,vV,vC,vA] g) (a b c e:r3):MkG F' F d M ts rs vars nm sal nv cs acs vT vR vV vC vA (st4 w g a b c e):=
 (h.grow k (fun b j=>⟨(i b j).1,(i b j).2.1⟩)).upd (by rw[Cj];exact ET _) (fun x f=>nK _ _ _ _ x (by
  rcases f with f|f
  ·exact (i x f).2.2
  ·exact fun e=>l (e ▸ f)))
def jl(w1:p7) (d:Nat) (es:List aw) (W:p7) (v:r3):Prop:=(bP d).lrow 51 W (aW w1 W) es v
theorem jl.C{w1 W W':p7}{d:Nat}{es:List aw}{v:r3}(h:jl w1 d es W v)(c:FS W W'):jl w1 d es W' v:=
 Rd.th (fun _ a=>⟨a.1,EY a.2 c.size⟩) (Rd.sm (fun b a _ e=>(c.block b a.2).trans e) h)
theorem jl.of{w1 W W':p7}{d:Nat}{es:List aw}{v:r3}(c:w1.heap.size≤W.heap.size)(h:cO W' (fun b=>aW W W' b∧v.ownBlock≠A b) 51 (bP d) es v)(f:∀g,v.ownBlock=A g→W.heap.size≤g):jl w1 d es W' v:=
 h.lrow (fun _ e=>⟨EZ c e.1.1,e.1.2⟩) (fun g a=>⟨⟨EZ c (f g a),h.lt a⟩,fun i=>i.2 a⟩)
theorem yy(a:Bool)(b:Int)(z:r3)(h:z.cells.size=2):Instr.fill (fun i=>A (i*2,2)) ((Array.range (1*2)).map (z.cells[· % z.cells.size]!)) [(0,s3 #[ur a,I Y b])]=A (fo [(a,b)]).toArray:=by
 obtain⟨x,y,c⟩:=size2 h;rw[c]
 kernel_rfl
theorem ki{o:Oper}{a:Act}{W:p7}{G:r3→p7→Prop}{L:Nat}(b:Bool)(c:Int)(x:Operand)(d:o.op=.buildSlice 215 1 #[(0,x)])(f:a.eval x=s3 #[ur b,I Y c])(h:L≤W.heap.size)
  (i:∀v W',FS W W'→cM L [(b,c)] W' v→G v W'):RE.Upon r6 o a W G:=by
 refine mC (l:=[(b,c)]) d Z (by decide) (fun z j=>?_) h i;have e:((#[(0,x)]:Array (Nat×Operand)).map fun (q:Nat×Operand)=>(q.1,a.eval q.2)).toList=[(0,a.eval x)]:=by simp
 rw[e,f];exact yy b c z j
def mE(r:Except Flt (List aw)):Except Flt bm:=match r with
 | .error e=>wD e
 | .ok xs=>vb ⟨3,0,0,xs⟩
theorem D1(F:Nat→Prop)(d M:Nat)(ts:List ap)(rs:List au)(vars:List ByteArray)(nm:ByteArray)(sal nv:Int)(cs:List aK)(acs:List bm)(vT vR vV vC vA:r3)(T:ah)(p:Option Addr)(n c:Nat)(r:Except Flt (List aw))(w:p7)
  (hw:MkW F d M ts rs vars nm sal nv cs acs vT vR vV vC vA w) (hk:T.b=10) (bR:acs.length≤10000)
  (hex:∀W,FS w W→r9 r6 110 #[tv (A ⟨M,0,V⟩),O p n c] W (jz d r W)) :
  r9 r6 52 #[tv (A ⟨M,0,V⟩),s3 #[I J T.b,p9 T.h,I Y T.q,I Y T.t,O p n c]] w (iF F d M ts rs vars nm sal nv cs acs vT vR vV vC vA (mE r) w):=by
 rw[hk];obtain⟨y,cA,b1⟩:=hw.a.b;subst b1;obtain⟨z,S⟩:=zzy (acs.length);have U:=Hd S;rw[S]at bR;obtain⟨w1,G⟩:=zzx ((w.alloc (p8 #[I J 10,p9 T.h,I Y T.q,I Y T.t,O p n c] 64)).alloc (p8 #[I J 4,I Y 0,I Y 0,O V 0 0] 59));obtain⟨H,X,_⟩:=ay w (p8 #[I J 10,p9 T.h,I Y T.q,I Y T.t,O p n c] 64) (p8 #[I J 4,I Y 0,I Y 0,O V 0 0] 59);have L:FS w w1:=by rw[G];exact ((EU _ w).alloc (ET _) _).alloc (by simp) _
 rw[←G]at H X;obtain⟨a1,Q,b7,ad,a6,b2⟩:=zz6 (fun g hg=>hw.a.lt (g:=g) hg) (fun b i=>hw.b (b:=b) i) H X L (hw.C L);have N:Hid (w.heap.size+2≤w1.heap.size):=by
  have h:=(ES.1 ad.o).1
  show _≤_
  omega
 have R:=Hd (fun b (i:F b)=>(hw.f b i).1);have HC:=Hd (hex w1 L);obtain⟨e0,e1,e2,e3,e4⟩:=cells5 H;clear H X L hw hk hex S
 go_enter Tryz.func52,Tryz.ntmps52
 go_upto_region 9 with fail
 change wB _ _ _ _ ((w.alloc (p8 #[I J 10,p9 T.h,I Y T.q,I Y T.t,O p n c] 64)).alloc (p8 #[I J 4,I Y 0,I Y 0,O V 0 0] 59));rw[←G];clear G;go_wp2_with fail
 refine HC.o.mono ?_;rintro e W2 ⟨P,he⟩;obtain⟨a7,af,ak⟩:=zz3 (a6.o.trans (P.mono a6.o.size)) (ag P ad.o (ES.1 ad.o).1) (b2.o.C P);clear e0 e1 e2 e3 e4 P
 cases r with
 | error er =>
  have he:e=aQ er.1 er.2:=he;subst he;exact⟨Z,Chg.b a7.o,Z⟩
 | ok xs =>
 obtain⟨v,rfl,k,a8⟩:=he;obtain⟨q,t,hv⟩:=k.b;obtain⟨l,ba⟩:=zzy (xs.length);rw[ba]at hv;subst hv;have b3:Hid ((bP d).lrow 51 W2 (aW w1 W2) xs (O q l t)):=jl.of (ET _) k a8;have bb:Hid (mE (vb xs)=vb ⟨3,0,0,xs⟩):=rfl;clear k a8 ba;obtain⟨j,u⟩:=zzx (st4 W2 (w.heap.size+1) (I J 3) (I Y 0) (I Y 0) (O q l t));have C:Hid (j.heap[w.heap.size+1]?=A (p8 #[I J 3,I Y 0,I Y 0,O q l t] 59 (0,0))):=by show _=_;rw[u];exact vH af.o _ _ _ _
 have bc:Hid (FS w j):=by show Below _ _ _;rw[u];exact nG a7.o (Fw _) _ _ _ _
 have s:Hid (MkG (fun b=>F b∨aW w1 W2 b) F d M ts rs vars nm sal nv cs acs vT vR vV vC (O y acs.length cA) j):=by
  show MkG _ _ _ _ _ _ _ _ _ _ _ _ _ _ _ _ _ _
  rw[u];refine vg ak.o (fun _ h=>tE h) (fun b i=>?_) (fun ho=>by have:=Q.o _ ho;omega) _ _ _ _;rcases i with i|i
  ·exact⟨(ak.o.f b i).1,(ak.o.f b i).2,by have:=R.o b i;omega⟩
  ·have h1:=i.1;have h2:=N.o;exact⟨i.2,fun ho=>by have:=Q.o _ ho;omega,by omega⟩
 have b4:Hid ((bP d).lrow 51 j (aW w1 W2) xs (O q l t)):=by
  show (bP d).lrow _ _ _ _ _
  rw[u];exact Rd.sm (fun b i o ho=>(nK _ _ _ _ b (by have:=i.1;have:=N.o;omega)).trans ho) b3.o
 obtain⟨e0,e1,e2,e3⟩:=iw af.o;have f0:=ae af.o;go_upto_region 10 with fail
 change wB _ _ _ _ (st4 W2 (w.heap.size+1) (I J 3) (I Y 0) (I Y 0) (O q l t));rw[←u];clear u e0 e1 e2 e3 f0;obtain⟨us,D,bd⟩:=s.o.aa;rw[U.o]at D;obtain⟨bk,b5⟩:=zz2 D bd;have e0:j.cell? ⟨w.heap.size+1,0,V⟩=A (I J 3):=by rw[FR _ _ _ _ _ _ C.o];rfl
 have e1:j.cell? ⟨w.heap.size+1,1,V⟩=A (I Y 0):=by rw[FR _ _ _ _ _ _ C.o];rfl
 have e2:j.cell? ⟨w.heap.size+1,2,V⟩=A (I Y 0):=by rw[FR _ _ _ _ _ _ C.o];rfl
 have e3:j.cell? ⟨w.heap.size+1,3,V⟩=A (O q l t):=by rw[FR _ _ _ _ _ _ C.o];rfl
 have aq:j.cell? ⟨M,7,V⟩=A (O y z cA):=by rw[FR _ _ _ _ _ _ s.o.m,←U.o];rfl
 have hK:∀b,(b=M∨b=w.heap.size+1)→b<j.heap.size∧(O y z cA).ownBlock≠A b:=fun b i=>by
  rw[←U.o];rcases i with rfl|rfl
  ·exact⟨s.o.lt,row_ne s.o.m s.o.a (by decide)⟩
  ·exact⟨(ES.1 C.o).1,fun e=>by have:=a1.o _ e;omega⟩
 have bl:=Hd (kb (E:=59) (sz:=4) (row:=us++[I J 3,I Y 0,I Y 0,O q l t]) (K:=(fun b=>b=M∨b=w.heap.size+1)) hK);have E0:=fun x:Ks j (fun b=>b=M∨b=w.heap.size+1)=>x.b (tS Z) e0
 have E1:=fun x:Ks j (fun b=>b=M∨b=w.heap.size+1)=>x.b (tS Z) e1
 have E2:=fun x:Ks j (fun b=>b=M∨b=w.heap.size+1)=>x.b (tS Z) e2
 have E3:=fun x:Ks j (fun b=>b=M∨b=w.heap.size+1)=>x.b (tS Z) e3
 have M2:=fun x:Ks j (fun b=>b=M∨b=w.heap.size+1)=>x.b (tE Z) aq
 clear D bd e0 e1 e2 e3 aq hK;refine RE.t (by kernel_rfl) 9 [7,8] [8] (stA 59 4 j y z cA (us++[I J 3,I Y 0,I Y 0,O q l t])) (ApR j) (fun _ ys=>ys.getD 0 tT) (phA 59 4 j y z cA [I J 3,I Y 0,I Y 0,O q l t] (us++[I J 3,I Y 0,I Y 0,O q l t]) 7 8) (by kernel_rfl) (fun _ _ _ _ _ _ h i=>h.C i) (fun _ _ _ _ h _ hR=>h.t hR) stA.zero ?_;simp only[Fg,Fu,Fh,Ft]
 repeat (refine RE.h (fun W=>∃x:Ks j (fun b=>b=M∨b=w.heap.size+1),W=x.1) (bl.o _) Z Z Z stA.zero ?_;go_big_quiet_step (fail);refine vk ?_)
 refine RE.b Z Z ?_ (fun b6=>?_)
 ·intro W hC hS hE;obtain⟨s9,_,h9⟩:=hC;exact eL jb (vs:=[I J 3,I Y 0,I Y 0,O q l t]) _ Z Z Z h9.u (fun v W' i ho=>⟨[v],Z,i,ApR.b i,ho⟩)
 simp only[wj,EV,Fe,Fc];refine RE.b Z Z ?_ (fun bn=>?_)
 ·intro W hC hS hE;obtain⟨x,rfl⟩:∃x:Wb j,W=x.1:=hS Z;exact iH jb (p:=y) (n:=z) (c:=cA) (w4:=j) (vs:=[I J 3,I Y 0,I Y 0,O q l t]) (xs:=us) _ _ Z Z (hE 7 b6 (by kernel_rfl) Z) Z (by simp[Value.oneCell']) x.2 bk.o (by omega) (fun v' W' h1 h2 h3=>⟨[v'],Z,h1,h2,h3⟩)
 simp only[wj,EV,Fe,Fc];refine RE.q ?_;intro W hS hE;have hS:ApS 59 4 j y z cA (us++[I J 3,I Y 0,I Y 0,O q l t]) W:=hS;have hV:ApV 59 4 j y z cA (us++[I J 3,I Y 0,I Y 0,O q l t]) W (bn.getD 0 tT):=hE 8 bn Z;obtain⟨g',cap,eg,hg,hC,k⟩:=jq hS hV;rw[eg];have bq:Chg (fun b=>(O y acs.length cA).ownBlock=A b) j W:=by rw[U.o];exact hC
 have ar:(O y acs.length cA).ownBlock=A g'∨j.heap.size≤g':=by rw[U.o];exact hg
 have br:(f6 d).at_ j (aW w1 W2) ⟨3,0,0,xs⟩ [I J 3,I Y 0,I Y 0,O q l t]:=kp.2 ⟨show U8 3 from ⟨by decide,by decide⟩,(show I64 0 from ⟨by decide,by decide⟩),(show I64 0 from ⟨by decide,by decide⟩),O q l t,Z,b4.o⟩;obtain⟨bt,bB,av⟩:=s.o.pushA U.o b5.o br (fun b i=>⟨tS i,fun h=>by have:=R.o b h;have:=N.o;have:=i.1;omega⟩) ar bq k;have aq:W.cell? ⟨M,7,V⟩=A (O y z cA):=by rw[FR _ _ _ _ _ _ (av.trans s.o.m),←U.o];rfl
 have b8:=bM (av.trans s.o.m) 7;have HP:Hid (iF F d M ts rs vars nm sal nv cs acs vT vR vV vC (O y acs.length cA) (vb ⟨3,0,0,xs⟩) w (tF (wF #[])) (W.setCell ⟨M,7,V⟩ (O (A ⟨g',0,V⟩) (z+1) cap))):=by
  refine⟨dz (Chg.b bc.o) bB (fun x hx=>tE hx),Z,(fun b=>F b∨aW w1 W2 b),_,bt,fun b i=>?_,fun _ h=>tE h,fun b h=>h.imp id (fun h=>by have:=N.o;have:=h.1;omega)⟩;injection i with i
  have i:g'=b:=i;subst i;rcases ar with h|h
  ·exact tE h
  ·have:=bc.o.size;exact tS (by omega)
 clear hS hV hE eg hg hC k bq ar bt bB av E0 E1 E2 E3 M2 bl br;go_wp2_with fail
 go_end0
 rw[bb.o];exact HP.o
def ig(cs:List aK) (T:ah):Except Flt bm:=if T.q<1||decide ((eb cs:Int)<T.q) then wD (214,T.t) else vb ⟨2,0,T.q-1,[]⟩
theorem Bm(F:Nat→Prop)(d M:Nat)(ts:List ap)(rs:List au)(vars:List ByteArray)(nm:ByteArray)(sal nv:Int)(cs:List aK)(acs:List bm)(vT vR vV vC vA:r3)(T:ah)(p:Option Addr)(n c:Nat)(w:p7)
  (hw:MkW F d M ts rs vars nm sal nv cs acs vT vR vV vC vA w) (hk:T.b=9) (cq:acs.length≤10000) (b3:cs.length≤10000) (b4:I64 T.q) :
  r9 r6 52 #[tv (A ⟨M,0,V⟩),s3 #[I J T.b,p9 T.h,I Y T.q,I Y T.t,O p n c]] w (iF F d M ts rs vars nm sal nv cs acs vT vR vV vC vA (ig cs T) w):=by
 rw[hk];obtain⟨L,cA,cr⟩:=hw.a.b;subst cr;obtain⟨P,a8⟩:=zzy (acs.length);have HN:=Hd a8;rw[a8]at cq;obtain⟨w1,ad⟩:=zzx ((w.alloc (p8 #[I J 9,p9 T.h,I Y T.q,I Y T.t,O p n c] 64)).alloc (p8 #[I J 4,I Y 0,I Y 0,O V 0 0] 59));obtain⟨af,ba,_⟩:=ay w (p8 #[I J 9,p9 T.h,I Y T.q,I Y T.t,O p n c] 64) (p8 #[I J 4,I Y 0,I Y 0,O V 0 0] 59);have y:FS w w1:=by rw[ad];exact ((EU _ w).alloc (ET _) _).alloc (by simp) _
 rw[←ad]at af ba;obtain⟨b5,ar,b6,bb,C,ct⟩:=zz6 (fun g D=>hw.a.lt (g:=g) D) (fun b j=>hw.b (b:=b) j) af ba y (hw.C y);have bc:Hid (w.heap.size+2≤w1.heap.size):=by
  have h:=(ES.1 bb.o).1
  show _≤_
  omega
 have av:=Hd (fun b (j:F b)=>(hw.f b j).1);have bd:=Hd (fun (W:p7) (h:FS w1 W)=>zu d cs vC (fun b=>b<w.heap.size) M W (Rd.u hw.crow (fun _ h=>h) (y.trans (h.mono y.size))) (fun b j=>by have:=h.size;have:=y.size;omega) (by rw[FR _ _ _ _ _ _ (((hw.C y).C h).m)];rfl) b3);obtain⟨e0,e1,e2,e3,e4⟩:=cells5 af;obtain⟨N,bk⟩:=zzy (eb cs);have bl:Hid (ig cs T=if T.q<1||decide ((N:Int)<T.q) then wD (214,T.t) else vb ⟨2,0,T.q-1,[]⟩):=by show _=_;rw[←bk];rfl
 rw[bk]at bd;clear af ba y hw hk a8 bk b3
 go_enter Tryz.func52,Tryz.ntmps52
 go_upto_region 6 with fail
 change wB _ _ _ _ ((w.alloc (p8 #[I J 9,p9 T.h,I Y T.q,I Y T.t,O p n c] 64)).alloc (p8 #[I J 4,I Y 0,I Y 0,O V 0 0] 59));rw[←ad];clear ad;have E0:=fun x:Wb w1=>x.b e0
 have E1:=fun x:Wb w1=>x.b e1
 have E2:=fun x:Wb w1=>x.b e2
 have E3:=fun x:Wb w1=>x.b e3
 have E4:=fun x:Wb w1=>x.b e4
 by_cases bn:T.q<1
 ·have q:Hid (ig cs T=wD (214,T.t)):=by show _=_;rw[bl.o,decide_eq_true bn];rfl
  have a6:decide (T.q<1)=true:=decide_eq_true bn;refine RE.t (by kernel_rfl) 13 [8,12] [] (fun _ W=>∃x:Wb w1,W=x.1) (fun W W'=>FS W W') (fun i ys=>if i=8 then I Y (N:Int) else ys.getD 0 tT) (fun i W ys=>if i=12 then cM w1.heap.size [(true,214)] W (ys.getD 0 tT) else True) (by kernel_rfl) (fun _ _ _ _ _ _ h j=>cd h j) (fun i W W' ys h _ j=>by split at h;(rw[oA (by assumption)];exact h.C j);rw[ox (by assumption)];trivial) ⟨⟨w1.drew,(EU _ _).drew⟩,Z⟩ ?_;simp only[Fg,Fu,Fh,Ft]
  repeat (refine RE.h (fun W=>∃x:Wb w1,W=x.1) (fun _ _ _ h=>h) Z Z Z ⟨⟨w1.drew,(EU _ _).drew⟩,Z⟩ ?_;go_big_quiet_step (fail);refine vk ?_)
  refine RE.wpE_off Z (fun W h=>by cases h) ?_;simp only[wj,EV,Fe,Fc]
  repeat (refine RE.h (fun W=>∃x:Wb w1,W=x.1) (fun _ _ _ h=>h) Z Z Z ⟨⟨w1.drew,(EU _ _).drew⟩,Z⟩ ?_;go_big_quiet_step (fail);refine vk ?_)
  refine RE.b Z Z ?_ (fun ys=>?_)
  ·intro W z _ l;obtain⟨s9,_,x,rfl⟩:=z;exact ki true 214 _ Z Z x.2.size (fun v W' j Q=>⟨[v],Z,j,j,Q⟩)
  simp only[wj,EV,Fe,Fc];refine RE.q ?_;intro W G l;obtain⟨x,rfl⟩:=G;obtain⟨g,r,lg,D⟩:cM w1.heap.size [(true,214)] x.1 (ys.getD 0 tT):=l 12 ys Z;have r:(if (12:Nat)=8 then I Y (N:Int) else ys.getD 0 tT)=O (A ⟨g,0,V⟩) 1 1:=r;rw[r];obtain⟨R,s⟩:=zz2 (bS [(true,214)] 9 T.h T.q T.t (O p n c) g 1 1 x.1 Z (by omega) D) x.2;clear l r lg D E0 E1 E2 E3 E4;go_wp2_with fail
  refine R.o.mono ?_;rintro e W2 ⟨H,he⟩;have he:e=aQ 214 T.t:=he;subst he;refine⟨Z,Chg.b (C.o.trans ((s.o.trans (H.mono s.o.size)).mono C.o.size)),?_⟩;rw[q.o];rfl
 ·have a6:decide (T.q<1)=false:=oB bn
  by_cases ak:(N:Int)<T.q
  ·have q:Hid (ig cs T=wD (214,T.t)):=by show _=_;rw[bl.o,decide_eq_true ak,Bool.or_true];rfl
   have b7:decide ((N:Int)<T.q)=true:=decide_eq_true ak;refine RE.t (by kernel_rfl) 13 [8,12] [] (fun _ W=>∃x:Wb w1,W=x.1) (fun W W'=>FS W W') (fun i ys=>if i=8 then I Y (N:Int) else ys.getD 0 tT) (fun i W ys=>if i=12 then cM w1.heap.size [(true,214)] W (ys.getD 0 tT) else True) (by kernel_rfl) (fun _ _ _ _ _ _ h j=>cd h j) (fun i W W' ys h _ j=>by split at h;(rw[oA (by assumption)];exact h.C j);rw[ox (by assumption)];trivial) ⟨⟨w1.drew,(EU _ _).drew⟩,Z⟩ ?_;simp only[Fg,Fu,Fh,Ft]
   repeat (refine RE.h (fun W=>∃x:Wb w1,W=x.1) (fun _ _ _ h=>h) Z Z Z ⟨⟨w1.drew,(EU _ _).drew⟩,Z⟩ ?_;go_big_quiet_step (fail);refine vk ?_)
   refine RE.b Z Z ?_ (fun aq=>?_)
   ·intro W z _ l;obtain⟨s9,_,x,rfl⟩:=z;refine RE.u 111 _ _ Z (enters_of Tryz.func111 (by kernel_rfl) Z) #[tv (A ⟨M,0,V⟩)] (by simp[Act.eval]) ((bd.o x.1 x.2).mono ?_);rintro e W' ⟨rfl,j⟩;exact⟨_,Z,[],Z,j,j,trivial⟩
   simp only[o4];simp only[wj,EV,Fe,Fc]
   repeat (refine RE.h (fun W=>∃x:Wb w1,W=x.1) (fun _ _ _ h=>h) Z Z Z ⟨⟨w1.drew,(EU _ _).drew⟩,Z⟩ ?_;go_big_quiet_step (fail);refine vk ?_)
   refine RE.b Z Z ?_ (fun ys=>?_)
   ·intro W z _ l;obtain⟨s9,_,x,rfl⟩:=z;exact ki true 214 _ Z Z x.2.size (fun v W' j Q=>⟨[v],Z,j,j,Q⟩)
   simp only[wj,EV,Fe,Fc];refine RE.q ?_;intro W G l;obtain⟨x,rfl⟩:=G;obtain⟨g,r,lg,D⟩:cM w1.heap.size [(true,214)] x.1 (ys.getD 0 tT):=l 12 ys Z;have r:(if (12:Nat)=8 then I Y (N:Int) else ys.getD 0 tT)=O (A ⟨g,0,V⟩) 1 1:=r;rw[r];obtain⟨R,s⟩:=zz2 (bS [(true,214)] 9 T.h T.q T.t (O p n c) g 1 1 x.1 Z (by omega) D) x.2;clear l r lg D E0 E1 E2 E3 E4;go_wp2_with fail
   refine R.o.mono ?_;rintro e W2 ⟨H,he⟩;have he:e=aQ 214 T.t:=he;subst he;refine⟨Z,Chg.b (C.o.trans ((s.o.trans (H.mono s.o.size)).mono C.o.size)),?_⟩;rw[q.o];rfl
  ·have q:Hid (ig cs T=vb ⟨2,0,T.q-1,[]⟩):=by show _=_;rw[bl.o,oB ak,a6];rfl
   have b7:decide ((N:Int)<T.q)=false:=oB ak;refine RE.t (by kernel_rfl) 13 [8,12] [] (fun _ W=>∃x:Wb w1,W=x.1) (fun W W'=>FS W W') (fun i ys=>if i=8 then I Y (N:Int) else ys.getD 0 tT) (fun i W ys=>if i=12 then cM w1.heap.size [(false,214)] W (ys.getD 0 tT) else True) (by kernel_rfl) (fun _ _ _ _ _ _ h j=>cd h j) (fun i W W' ys h _ j=>by split at h;(rw[oA (by assumption)];exact h.C j);rw[ox (by assumption)];trivial) ⟨⟨w1.drew,(EU _ _).drew⟩,Z⟩ ?_;simp only[Fg,Fu,Fh,Ft]
   repeat (refine RE.h (fun W=>∃x:Wb w1,W=x.1) (fun _ _ _ h=>h) Z Z Z ⟨⟨w1.drew,(EU _ _).drew⟩,Z⟩ ?_;go_big_quiet_step (fail);refine vk ?_)
   refine RE.b Z Z ?_ (fun aq=>?_)
   ·intro W z _ l;obtain⟨s9,_,x,rfl⟩:=z;refine RE.u 111 _ _ Z (enters_of Tryz.func111 (by kernel_rfl) Z) #[tv (A ⟨M,0,V⟩)] (by simp[Act.eval]) ((bd.o x.1 x.2).mono ?_);rintro e W' ⟨rfl,j⟩;exact⟨_,Z,[],Z,j,j,trivial⟩
   simp only[o4];simp only[wj,EV,Fe,Fc]
   repeat (refine RE.h (fun W=>∃x:Wb w1,W=x.1) (fun _ _ _ h=>h) Z Z Z ⟨⟨w1.drew,(EU _ _).drew⟩,Z⟩ ?_;go_big_quiet_step (fail);refine vk ?_)
   refine RE.b Z Z ?_ (fun ys=>?_)
   ·intro W z _ l;obtain⟨s9,_,x,rfl⟩:=z;exact ki false 214 _ Z Z x.2.size (fun v W' j Q=>⟨[v],Z,j,j,Q⟩)
   simp only[wj,EV,Fe,Fc];refine RE.q ?_;intro W G l;obtain⟨x,rfl⟩:=G;obtain⟨g,r,lg,D⟩:cM w1.heap.size [(false,214)] x.1 (ys.getD 0 tT):=l 12 ys Z;have r:(if (12:Nat)=8 then I Y (N:Int) else ys.getD 0 tT)=O (A ⟨g,0,V⟩) 1 1:=r;rw[r];obtain⟨R,s⟩:=zz2 (bS [(false,214)] 9 T.h T.q T.t (O p n c) g 1 1 x.1 Z (by omega) D) x.2;clear l r lg D E0 E1 E2 E3 E4;go_wp2_with fail
   refine R.o.mono ?_;rintro e W2 ⟨H,he⟩;have he:e=tF (wF #[]):=he;subst he;have t:=s.o.trans (H.mono s.o.size);obtain⟨cu,bq,cv,br⟩:=zz4 (C.o.trans (t.mono C.o.size)) (ag t bb.o (ES.1 bb.o).1) (ag t b6.o (ES.1 b6.o).1) (ct.o.C t);clear e0 e1 e2 e3 e4 H t;have bt:(-9223372036854775808:Int)≤T.q-1:=by omega
   have bB:T.q-1<9223372036854775808:=by have:=b4.2;omega
   obtain⟨k,S⟩:=zzx (st4 W2 (w.heap.size+1) (I J 2) (I Y 0) (I Y (T.q-1)) (O V 0 0));have U:Hid (k.heap[w.heap.size+1]?=A (p8 #[I J 2,I Y 0,I Y (T.q-1),O V 0 0] 59 (0,0))):=by show _=_;rw[S];exact vH bq.o _ _ _ _
   have b8:Hid (FS w k):=by show Below _ _ _;rw[S];exact nG cu.o (Fw _) _ _ _ _
   have u:Hid (MkG (fun b=>F b∨aW w1 W2 b) F d M ts rs vars nm sal nv cs acs vT vR vV vC (O L acs.length cA) k):=by
    show MkG _ _ _ _ _ _ _ _ _ _ _ _ _ _ _ _ _ _
    rw[S];refine vg br.o (fun _ h=>tE h) (fun b j=>?_) (fun Q=>by have:=ar.o _ Q;omega) _ _ _ _;rcases j with j|j
    ·exact⟨(br.o.f b j).1,(br.o.f b j).2,by have:=av.o b j;omega⟩
    ·have h1:=j.1;have h2:=bc.o;exact⟨j.2,fun Q=>by have:=ar.o _ Q;omega,by omega⟩
   obtain⟨a0,a1,a2,a3,a4⟩:=cells5 cv.o;obtain⟨e0,e1,e2,e3⟩:=iw bq.o;have f0:=ae bq.o;go_upto_region 10 with fail
   change wB _ _ _ _ (st4 W2 (w.heap.size+1) (I J 2) (I Y 0) (I Y (T.q-1)) (O V 0 0));rw[←S];clear S e0 e1 e2 e3 f0 a0 a1 a2 a3 a4;obtain⟨us,X,b9⟩:=u.o.aa;rw[HN.o]at X;obtain⟨ca,cx⟩:=zz2 X b9;have e0:k.cell? ⟨w.heap.size+1,0,V⟩=A (I J 2):=by rw[FR _ _ _ _ _ _ U.o];rfl
   have e1:k.cell? ⟨w.heap.size+1,1,V⟩=A (I Y 0):=by rw[FR _ _ _ _ _ _ U.o];rfl
   have e2:k.cell? ⟨w.heap.size+1,2,V⟩=A (I Y (T.q-1)):=by rw[FR _ _ _ _ _ _ U.o];rfl
   have e3:k.cell? ⟨w.heap.size+1,3,V⟩=A (O V 0 0):=by rw[FR _ _ _ _ _ _ U.o];rfl
   have bR:k.cell? ⟨M,7,V⟩=A (O L P cA):=by rw[FR _ _ _ _ _ _ u.o.m,←HN.o];rfl
   have hK:∀b,(b=M∨b=w.heap.size+1)→b<k.heap.size∧(O L P cA).ownBlock≠A b:=fun b j=>by
    rw[←HN.o];rcases j with rfl|rfl
    ·exact⟨u.o.lt,row_ne u.o.m u.o.a (by decide)⟩
    ·exact⟨(ES.1 U.o).1,fun e=>by have:=b5.o _ e;omega⟩
   have cb:=Hd (kb (E:=59) (sz:=4) (row:=us++[I J 2,I Y 0,I Y (T.q-1),O V 0 0]) (K:=(fun b=>b=M∨b=w.heap.size+1)) hK);have E0:=fun x:Ks k (fun b=>b=M∨b=w.heap.size+1)=>x.b (tS Z) e0
   have E1:=fun x:Ks k (fun b=>b=M∨b=w.heap.size+1)=>x.b (tS Z) e1
   have E2:=fun x:Ks k (fun b=>b=M∨b=w.heap.size+1)=>x.b (tS Z) e2
   have E3:=fun x:Ks k (fun b=>b=M∨b=w.heap.size+1)=>x.b (tS Z) e3
   have M2:=fun x:Ks k (fun b=>b=M∨b=w.heap.size+1)=>x.b (tE Z) bR
   clear X b9 e0 e1 e2 e3 bR hK;refine RE.t (by kernel_rfl) 9 [7,8] [8] (stA 59 4 k L P cA (us++[I J 2,I Y 0,I Y (T.q-1),O V 0 0])) (ApR k) (fun _ ys=>ys.getD 0 tT) (phA 59 4 k L P cA [I J 2,I Y 0,I Y (T.q-1),O V 0 0] (us++[I J 2,I Y 0,I Y (T.q-1),O V 0 0]) 7 8) (by kernel_rfl) (fun _ _ _ _ _ _ h j=>h.C j) (fun _ _ _ _ h _ hR=>h.t hR) stA.zero ?_;simp only[Fg,Fu,Fh,Ft]
   repeat (refine RE.h (fun W=>∃x:Ks k (fun b=>b=M∨b=w.heap.size+1),W=x.1) (cb.o _) Z Z Z stA.zero ?_;go_big_quiet_step (fail);refine vk ?_)
   refine RE.b Z Z ?_ (fun cT=>?_)
   ·intro W z G l;obtain⟨s9,_,h9⟩:=z;exact eL jb (vs:=[I J 2,I Y 0,I Y (T.q-1),O V 0 0]) _ Z Z Z h9.u (fun v W' j Q=>⟨[v],Z,j,ApR.b j,Q⟩)
   simp only[wj,EV,Fe,Fc];refine RE.b Z Z ?_ (fun aq=>?_)
   ·intro W z G l;obtain⟨x,rfl⟩:∃x:Wb k,W=x.1:=G Z;exact iH jb (p:=L) (n:=P) (c:=cA) (w4:=k) (vs:=[I J 2,I Y 0,I Y (T.q-1),O V 0 0]) (xs:=us) _ _ Z Z (l 7 cT (by kernel_rfl) Z) Z (by simp[Value.oneCell']) x.2 ca.o (by omega) (fun v' W' h1 h2 h3=>⟨[v'],Z,h1,h2,h3⟩)
   simp only[wj,EV,Fe,Fc];refine RE.q ?_;intro W G l;have G:ApS 59 4 k L P cA (us++[I J 2,I Y 0,I Y (T.q-1),O V 0 0]) W:=G;have hV:ApV 59 4 k L P cA (us++[I J 2,I Y 0,I Y (T.q-1),O V 0 0]) W (aq.getD 0 tT):=l 8 aq Z;obtain⟨g',cap,r,D,z,a7⟩:=jq G hV;rw[r];have ch:Chg (fun b=>(O L acs.length cA).ownBlock=A b) k W:=by rw[HN.o];exact z
   have b1:(O L acs.length cA).ownBlock=A g'∨k.heap.size≤g':=by rw[HN.o];exact D
   have ck:(f6 d).at_ k (aW w1 W2) ⟨2,0,T.q-1,[]⟩ [I J 2,I Y 0,I Y (T.q-1),O V 0 0]:=kp.2 ⟨show U8 2 from ⟨by decide,by decide⟩,(show I64 0 from ⟨by decide,by decide⟩),⟨bt,bB⟩,O V 0 0,Z,Rd.tk⟩;obtain⟨cl,cp,b2⟩:=u.o.pushA HN.o cx.o ck (fun b j=>⟨tS j,fun h=>by have:=av.o b h;have:=bc.o;have:=j.1;omega⟩) b1 ch a7;have bR:W.cell? ⟨M,7,V⟩=A (O L P cA):=by rw[FR _ _ _ _ _ _ (b2.trans u.o.m),←HN.o];rfl
   have cV:=bM (b2.trans u.o.m) 7;have HP:Hid (iF F d M ts rs vars nm sal nv cs acs vT vR vV vC (O L acs.length cA) (vb ⟨2,0,T.q-1,[]⟩) w (tF (wF #[])) (W.setCell ⟨M,7,V⟩ (O (A ⟨g',0,V⟩) (P+1) cap))):=by
    refine⟨dz (Chg.b b8.o) cp (fun x hx=>tE hx),Z,(fun b=>F b∨aW w1 W2 b),_,cl,fun b j=>?_,fun _ h=>tE h,fun b h=>h.imp id (fun h=>by have:=bc.o;have:=h.1;omega)⟩;injection j with j
    have j:g'=b:=j;subst j;rcases b1 with h|h
    ·exact tE h
    ·have:=b8.o.size;exact tS (by omega)
   clear G hV l r D z a7 ch b1 cl cp b2 E0 E1 E2 E3 M2 cb ck;go_wp2_with fail
   go_end0
   rw[q.o];exact HP.o
def okN:Except Flt Nat→Nat
 | .ok k=>k
 | .error _=>0
def jM(a:Except Flt Nat) (r:Except Flt (List aw)):Except Flt bm:=match a with
 | .error e=>wD e
 | .ok k=>match r with
  | .error e=>wD e
  | .ok xs=>vb ⟨1,k,0,xs⟩
theorem Ai(F:Nat→Prop)(d M:Nat)(ts:List ap)(rs:List au)(vars:List ByteArray)(nm:ByteArray)(sal nv:Int)(cs:List aK)(acs:List bm)(vT vR vV vC vA:r3)(T:ah)(p:Option Addr)(n c:Nat)(L:Except Flt Nat)(r:Except Flt (List aw))(w:p7)
  (hw:MkW F d M ts rs vars nm sal nv cs acs vT vR vV vC vA w) (hk:T.b=8) (ca:acs.length≤10000) (D:∀k,L=vb k→k≤10000)
  (bd:∀W,FS w W→r9 r6 107 #[tv (A ⟨M,0,V⟩),s3 #[I J 8,p9 T.h,I Y T.q,I Y T.t,O p n c]] W (nQ L lG W))
  (hex:∀W,FS w W→r9 r6 110 #[tv (A ⟨M,0,V⟩),O p n c] W (jz d r W)) :
  r9 r6 52 #[tv (A ⟨M,0,V⟩),s3 #[I J T.b,p9 T.h,I Y T.q,I Y T.t,O p n c]] w (iF F d M ts rs vars nm sal nv cs acs vT vR vV vC vA (jM L r) w):=by
 rw[hk];obtain⟨N,cA,cb⟩:=hw.a.b;subst cb;obtain⟨Q,ar⟩:=zzy (acs.length);have HN:=Hd ar;rw[ar]at ca;obtain⟨w1,X⟩:=zzx ((w.alloc (p8 #[I J 8,p9 T.h,I Y T.q,I Y T.t,O p n c] 64)).alloc (p8 #[I J 4,I Y 0,I Y 0,O V 0 0] 59));obtain⟨ad,av,_⟩:=ay w (p8 #[I J 8,p9 T.h,I Y T.q,I Y T.t,O p n c] 64) (p8 #[I J 4,I Y 0,I Y 0,O V 0 0] 59);have C:FS w w1:=by rw[X];exact ((EU _ w).alloc (ET _) _).alloc (by simp) _
 rw[←X]at ad av;obtain⟨bk,ak,cW,a1,G,ck⟩:=zz6 (fun g hg=>hw.a.lt (g:=g) hg) (fun b j=>hw.b (b:=b) j) ad av C (hw.C C);have af:Hid (w.heap.size+2≤w1.heap.size):=by
  have h:=(ES.1 a1.o).1
  show _≤_
  omega
 have aq:=Hd (fun b (j:F b)=>(hw.f b j).1);obtain⟨cl,cp⟩:=zz2 (fun (W:p7) (h:FS w1 W)=>bd W (C.trans (h.mono C.size))) (fun (W:p7) (h:FS w1 W)=>hex W (C.trans (h.mono C.size)));obtain⟨e0,e1,e2,e3,e4⟩:=cells5 ad;obtain⟨t,a6⟩:∃t:Nat,t=okN L:=⟨_,rfl⟩;have bl:Hid (∀k,L=vb k→t=k):=fun k h=>by rw[a6,h];rfl
 have c1:t≤10000:=by
  rw[a6]
  cases L with
  | ok k=>exact D k Z
  | error e=>exact Fi _
 clear ad av C hw hk ar bd hex a6 D
 go_enter Tryz.func52,Tryz.ntmps52
 go_upto_region 4 with fail
 change wB _ _ _ _ ((w.alloc (p8 #[I J 8,p9 T.h,I Y T.q,I Y T.t,O p n c] 64)).alloc (p8 #[I J 4,I Y 0,I Y 0,O V 0 0] 59));rw[←X];clear X;have E0:=fun x:Wb w1=>x.b e0
 have E1:=fun x:Wb w1=>x.b e1
 have E2:=fun x:Wb w1=>x.b e2
 have E3:=fun x:Wb w1=>x.b e3
 have E4:=fun x:Wb w1=>x.b e4
 refine RP.wp_region_effP (by kernel_rfl) 7 [2,6] [] (fun _ W=>∃x:Wb w1,W=x.1) (fun W W'=>FS W W') (fun i ys=>if i=2 then lG t else ys.getD 0 tT) (fun i W ys=>if i=2 then (∃k,L=vb k) else if i=6 then (∃es,r=vb es∧jl w1 d es W (ys.getD 0 tT)) else True)
  (fun ch W=>FS w W∧∃er,jM L r=wD er∧Ending.panicked ch=aQ er.1 er.2) ?_ (by kernel_rfl) (fun _ _ _ _ _ _ h j=>cd h j) (fun i W W' ys h _ j=>by
   split at h
   ·rw[oA (by assumption)];exact h
   ·rw[ox (by assumption)]
    split at h
    ·rw[oA (by assumption)];obtain⟨es,h1,h2⟩:=h;exact⟨es,h1,h2.C j⟩
    ·rw[ox (by assumption)];trivial) ⟨⟨w1.drew,(EU _ _).drew⟩,Z⟩ ?_
 ·rintro a ch W hd ⟨j,er,h1,h2⟩;refine⟨hd,Chg.b j,?_⟩;rw[h1];exact h2
 simp only[Fg,Fu,Fh,Ft]
 repeat (refine RP.h (fun W=>∃x:Wb w1,W=x.1) (fun _ _ _ h=>h) Z Z Z ⟨⟨w1.drew,(EU _ _).drew⟩,Z⟩ ?_;go_big_quiet_step (fail);refine vk ?_)
 refine RP.b Z Z ?_ (fun bn=>?_)
 ·intro W hC _ P;obtain⟨s9,_,x,rfl⟩:=hC;refine RP.uponP_call 107 _ _ Z (enters_of Tryz.func107 (by kernel_rfl) Z) #[tv (A ⟨M,0,V⟩),s3 #[I J 8,p9 T.h,I Y T.q,I Y T.t,O p n c]] (by simp[Act.eval]) ((cl.o x.1 x.2).mono ?_);rintro e W' ⟨j,he⟩
  cases D:L with
  | error er =>
   rw[D]at he;have he:e=aQ er.1 er.2:=he;subst he;exact tS ⟨_,Z,G.o.trans ((x.2.trans (j.mono x.2.size)).mono G.o.size),er,Z,Z⟩
  | ok k =>
   rw[D]at he;have he:e=tF (lG k):=he;subst he;exact tE ⟨_,Z,[],by show lG k=lG t;rw[bl.o k D],j,j,k,Z⟩
 simp only[wj,EV,Fe,Fc,Nat.reduceAdd,↓reduceIte,lG]
 repeat (refine RP.h (fun W=>∃x:Wb w1,W=x.1) (fun _ _ _ h=>h) Z Z Z ⟨⟨w1.drew,(EU _ _).drew⟩,Z⟩ ?_;go_big_quiet_step (fail);refine vk ?_)
 refine RP.b Z Z ?_ (fun bq=>?_)
 ·intro W hC _ P;obtain⟨s9,_,x,rfl⟩:=hC;have cr:∃k,L=vb k:=P 2 bn (by kernel_rfl) Z;refine RP.uponP_call 110 _ _ Z (enters_of Tryz.func110 (by kernel_rfl) Z) #[tv (A ⟨M,0,V⟩),O p n c] (by simp[Act.eval]) ((cp.o x.1 x.2).mono ?_);rintro e W' ⟨j,he⟩;obtain⟨k,hk⟩:=cr
  cases hr:r with
  | error er =>
   rw[hr]at he;have he:e=aQ er.1 er.2:=he;subst he;exact tS ⟨_,Z,G.o.trans ((x.2.trans (j.mono x.2.size)).mono G.o.size),er,by rw[hk];rfl,Z⟩
  | ok es =>
   rw[hr]at he;obtain⟨v,rfl,l,ct⟩:=he;exact tE ⟨_,Z,[v],Z,j,j,es,Z,jl.of x.2.size l ct⟩
 simp only[wj,EV,Fe,Fc,Nat.reduceAdd,Nat.reduceEqDiff,↓reduceIte]
 repeat (refine RP.h (fun W=>∃x:Wb w1,W=x.1) (fun _ _ _ h=>h) Z Z Z ⟨⟨w1.drew,(EU _ _).drew⟩,Z⟩ ?_;go_big_quiet_step (fail);refine wpQuiet_nil ?_)
 refine RP.q ?_;intro W hS P;obtain⟨x,rfl⟩:=hS;obtain⟨k,hk⟩:∃k,L=vb k:=P 2 bn Z;obtain⟨xs,br,l⟩:∃es,r=vb es∧jl w1 d es x.1 (bq.getD 0 tT):=P 6 bq Z;obtain⟨q,z,hv⟩:=Rd.b (Rd.lrow.h l);obtain⟨u,bt⟩:=zzy (xs.length);rw[bt]at hv;rw[hv];rw[hv]at l;have bB:Hid (jM L r=vb ⟨1,t,0,xs⟩):=by show _=_;rw[hk,br,bl.o k hk];rfl
 obtain⟨W2,bR⟩:=zzx (x.1);have R:=x.2;rw[←bR]at l R ⊢;have cu:Hid ((bP d).lrow 51 W2 (aW w1 W2) xs (O q u z)):=l;obtain⟨cv,a7,a8⟩:=zz3 (G.o.trans (R.mono G.o.size)) (ag R a1.o (ES.1 a1.o).1) (ck.o.C R);clear l P hv br hk E0 E1 E2 E3 E4 e0 e1 e2 e3 e4 bt R bR x;obtain⟨s,H⟩:=zzx (st4 W2 (w.heap.size+1) (I J 1) (I Y (t:Int)) (I Y 0) (O q u z));have S:Hid (s.heap[w.heap.size+1]?=A (p8 #[I J 1,I Y (t:Int),I Y 0,O q u z] 59 (0,0))):=by show _=_;rw[H];exact vH a7.o _ _ _ _
 have b1:Hid (FS w s):=by show Below _ _ _;rw[H];exact nG cv.o (Fw _) _ _ _ _
 have y:Hid (MkG (fun b=>F b∨aW w1 W2 b) F d M ts rs vars nm sal nv cs acs vT vR vV vC (O N acs.length cA) s):=by
  show MkG _ _ _ _ _ _ _ _ _ _ _ _ _ _ _ _ _ _
  rw[H];refine vg a8.o (fun _ h=>tE h) (fun b j=>?_) (fun ho=>by have:=ak.o _ ho;omega) _ _ _ _;rcases j with j|j
  ·exact⟨(a8.o.f b j).1,(a8.o.f b j).2,by have:=aq.o b j;omega⟩
  ·have h1:=j.1;have h2:=af.o;exact⟨j.2,fun ho=>by have:=ak.o _ ho;omega,by omega⟩
 have cx:Hid ((bP d).lrow 51 s (aW w1 W2) xs (O q u z)):=by
  show (bP d).lrow _ _ _ _ _
  rw[H];exact Rd.sm (fun b j o ho=>(nK _ _ _ _ b (by have:=j.1;have:=af.o;omega)).trans ho) cu.o
 obtain⟨e0,e1,e2,e3⟩:=iw a7.o;have f0:=ae a7.o;go_upto_region 10 with fail
 change wB _ _ _ _ (st4 W2 (w.heap.size+1) (I J 1) (I Y (t:Int)) (I Y 0) (O q u z));rw[←H];clear H e0 e1 e2 e3 f0;obtain⟨us,U,b2⟩:=y.o.aa;rw[HN.o]at U;obtain⟨b3,cT⟩:=zz2 U b2;have e0:s.cell? ⟨w.heap.size+1,0,V⟩=A (I J 1):=by rw[FR _ _ _ _ _ _ S.o];rfl
 have e1:s.cell? ⟨w.heap.size+1,1,V⟩=A (I Y (t:Int)):=by rw[FR _ _ _ _ _ _ S.o];rfl
 have e2:s.cell? ⟨w.heap.size+1,2,V⟩=A (I Y 0):=by rw[FR _ _ _ _ _ _ S.o];rfl
 have e3:s.cell? ⟨w.heap.size+1,3,V⟩=A (O q u z):=by rw[FR _ _ _ _ _ _ S.o];rfl
 have ba:s.cell? ⟨M,7,V⟩=A (O N Q cA):=by rw[FR _ _ _ _ _ _ y.o.m,←HN.o];rfl
 have hK:∀b,(b=M∨b=w.heap.size+1)→b<s.heap.size∧(O N Q cA).ownBlock≠A b:=fun b j=>by
  rw[←HN.o];rcases j with rfl|rfl
  ·exact⟨y.o.lt,row_ne y.o.m y.o.a (by decide)⟩
  ·exact⟨(ES.1 S.o).1,fun e=>by have:=bk.o _ e;omega⟩
 have b4:=Hd (kb (E:=59) (sz:=4) (row:=us++[I J 1,I Y (t:Int),I Y 0,O q u z]) (K:=(fun b=>b=M∨b=w.heap.size+1)) hK);have E0:=fun x:Ks s (fun b=>b=M∨b=w.heap.size+1)=>x.b (tS Z) e0
 have E1:=fun x:Ks s (fun b=>b=M∨b=w.heap.size+1)=>x.b (tS Z) e1
 have E2:=fun x:Ks s (fun b=>b=M∨b=w.heap.size+1)=>x.b (tS Z) e2
 have E3:=fun x:Ks s (fun b=>b=M∨b=w.heap.size+1)=>x.b (tS Z) e3
 have M2:=fun x:Ks s (fun b=>b=M∨b=w.heap.size+1)=>x.b (tE Z) ba
 clear U b2 e0 e1 e2 e3 ba hK;refine RE.t (by kernel_rfl) 9 [7,8] [8] (stA 59 4 s N Q cA (us++[I J 1,I Y (t:Int),I Y 0,O q u z])) (ApR s) (fun _ ys=>ys.getD 0 tT) (phA 59 4 s N Q cA [I J 1,I Y (t:Int),I Y 0,O q u z] (us++[I J 1,I Y (t:Int),I Y 0,O q u z]) 7 8) (by kernel_rfl) (fun _ _ _ _ _ _ h j=>h.C j) (fun _ _ _ _ h _ hR=>h.t hR) stA.zero ?_;simp only[Fg,Fu,Fh,Ft]
 repeat (refine RE.h (fun W=>∃x:Ks s (fun b=>b=M∨b=w.heap.size+1),W=x.1) (b4.o _) Z Z Z stA.zero ?_;go_big_quiet_step (fail);refine vk ?_)
 refine RE.b Z Z ?_ (fun cV=>?_)
 ·intro W hC hS P;obtain⟨s9,_,h9⟩:=hC;exact eL jb (vs:=[I J 1,I Y (t:Int),I Y 0,O q u z]) _ Z Z Z h9.u (fun v W' j ho=>⟨[v],Z,j,ApR.b j,ho⟩)
 simp only[wj,EV,Fe,Fc];refine RE.b Z Z ?_ (fun b5=>?_)
 ·intro W hC hS P;obtain⟨x,rfl⟩:∃x:Wb s,W=x.1:=hS Z;exact iH jb (p:=N) (n:=Q) (c:=cA) (w4:=s) (vs:=[I J 1,I Y (t:Int),I Y 0,O q u z]) (xs:=us) _ _ Z Z (P 7 cV (by kernel_rfl) Z) Z (by simp[Value.oneCell']) x.2 b3.o (by omega) (fun v' W' h1 h2 h3=>⟨[v'],Z,h1,h2,h3⟩)
 simp only[wj,EV,Fe,Fc];refine RE.q ?_;intro W hS P;have hS:ApS 59 4 s N Q cA (us++[I J 1,I Y (t:Int),I Y 0,O q u z]) W:=hS;have hV:ApV 59 4 s N Q cA (us++[I J 1,I Y (t:Int),I Y 0,O q u z]) W (b5.getD 0 tT):=P 8 b5 Z;obtain⟨g',cap,eg,hg,hC,l⟩:=jq hS hV;rw[eg];have b6:Chg (fun b=>(O N acs.length cA).ownBlock=A b) s W:=by rw[HN.o];exact hC
 have bb:(O N acs.length cA).ownBlock=A g'∨s.heap.size≤g':=by rw[HN.o];exact hg
 have b7:(f6 d).at_ s (aW w1 W2) ⟨1,(t:Int),0,xs⟩ [I J 1,I Y (t:Int),I Y 0,O q u z]:=kp.2 ⟨show U8 1 from ⟨by decide,by decide⟩,⟨by show (-9223372036854775808:Int)≤(t:Int);omega,by show (t:Int)<9223372036854775808;omega⟩,(show I64 0 from ⟨by decide,by decide⟩),O q u z,Z,cx.o⟩;obtain⟨b8,b9,bc⟩:=y.o.pushA HN.o cT.o b7 (fun b j=>⟨tS j,fun h=>by have:=aq.o b h;have:=af.o;have:=j.1;omega⟩) bb b6 l;have ba:W.cell? ⟨M,7,V⟩=A (O N Q cA):=by rw[FR _ _ _ _ _ _ (bc.trans y.o.m),←HN.o];rfl
 have c3:=bM (bc.trans y.o.m) 7;have HP:Hid (iF F d M ts rs vars nm sal nv cs acs vT vR vV vC (O N acs.length cA) (vb ⟨1,(t:Int),0,xs⟩) w (tF (wF #[])) (W.setCell ⟨M,7,V⟩ (O (A ⟨g',0,V⟩) (Q+1) cap))):=by
  refine⟨dz (Chg.b b1.o) b9 (fun x hx=>tE hx),Z,(fun b=>F b∨aW w1 W2 b),_,b8,fun b j=>?_,fun _ h=>tE h,fun b h=>h.imp id (fun h=>by have:=af.o;have:=h.1;omega)⟩;injection j with j
  have j:g'=b:=j;subst j;rcases bb with h|h
  ·exact tE h
  ·have:=b1.o.size;exact tS (by omega)
 clear hS hV P eg hg hC l b6 bb b8 b9 bc E0 E1 E2 E3 M2 b4 b7;go_wp2_with fail
 go_end0
 rw[bB.o];exact HP.o
theorem lM:Elem 53 36 10 120:=Elem.of (z:=s3 #[I J 0,I Y 0,O V 0 0,I J 0,I J 0,I Y 0,p9 ByteArray.empty,I Y 0,I J 0,O V 0 0]) Tryz.underlying36 (by kernel_rfl) (by kernel_rfl) (by decide) (by decide)
def kD(F:Nat→Prop) (d M:Nat) (ts:List ap) (rs:List au) (nm:ByteArray) (sal nv:Int) (cs:List aK) (acs:List bm) (vT vR vV vC vA:r3) (r:Except Flt (List ByteArray×aK)) (w:p7) (e:Ending) (w':p7):Prop:=
 Chg (bf M [vT,vR,vV,vC,vA]) w w'∧match r with
 | .ok x=>e=tF (ur true)∧∃(F':Nat→Prop) (a c:r3),MkW F' d M ts rs x.1 nm sal nv (cs++[x.2]) acs vT vR a c vA w'∧Grew vV a w.heap.size∧Grew vC c w.heap.size∧(∀b,F b→F' b)∧∀b,F' b→F b∨w.heap.size≤b
 | .error er=>e=aQ er.1 er.2
def nb(W:p7) (g:Nat) (x0 x1 x2 x3 x4 x5 x6 x7 x8 x9:r3):World:=(((((((((W.setCell ⟨g,0,V⟩ x0).setCell ⟨g,1,V⟩ x1).setCell ⟨g,2,V⟩ x2).setCell ⟨g,3,V⟩ x3).setCell ⟨g,4,V⟩ x4).setCell ⟨g,5,V⟩ x5).setCell ⟨g,6,V⟩ x6).setCell ⟨g,7,V⟩ x7).setCell ⟨g,8,V⟩ x8).setCell ⟨g,9,V⟩ x9
section
variable {W w:p7} {g B:Nat} (x0 x1 x2 x3 x4 x5 x6 x7 x8 x9:r3)
theorem Ds{l k j i f e d c b a:r3}{t:vn}(h:W.heap[g]?=A (p8 #[l,k,j,i,f,e,d,c,b,a] t (0,0))):(nb W g x0 x1 x2 x3 x4 x5 x6 x7 x8 x9).heap[g]?=A (p8 #[x0,x1,x2,x3,x4,x5,x6,x7,x8,x9] t (0,0)):=by
 have m:(W.setCell ⟨g,0,V⟩ x0).heap[g]?=A (p8 #[x0,k,j,i,f,e,d,c,b,a] t (0,0)):=heap_set h 0 x0;have n:((W.setCell ⟨g,0,V⟩ x0).setCell ⟨g,1,V⟩ x1).heap[g]?=A (p8 #[x0,x1,j,i,f,e,d,c,b,a] t (0,0)):=heap_set m 1 x1;have o:(((W.setCell ⟨g,0,V⟩ x0).setCell ⟨g,1,V⟩ x1).setCell ⟨g,2,V⟩ x2).heap[g]?=A (p8 #[x0,x1,x2,i,f,e,d,c,b,a] t (0,0)):=heap_set n 2 x2;have p:((((W.setCell ⟨g,0,V⟩ x0).setCell ⟨g,1,V⟩ x1).setCell ⟨g,2,V⟩ x2).setCell ⟨g,3,V⟩ x3).heap[g]?=A (p8 #[x0,x1,x2,x3,f,e,d,c,b,a] t (0,0)):=heap_set o 3 x3;have q:(((((W.setCell ⟨g,0,V⟩ x0).setCell ⟨g,1,V⟩ x1).setCell ⟨g,2,V⟩ x2).setCell ⟨g,3,V⟩ x3).setCell ⟨g,4,V⟩ x4).heap[g]?=A (p8 #[x0,x1,x2,x3,x4,e,d,c,b,a] t (0,0)):=heap_set p 4 x4;have r:((((((W.setCell ⟨g,0,V⟩ x0).setCell ⟨g,1,V⟩ x1).setCell ⟨g,2,V⟩ x2).setCell ⟨g,3,V⟩ x3).setCell ⟨g,4,V⟩ x4).setCell ⟨g,5,V⟩ x5).heap[g]?=A (p8 #[x0,x1,x2,x3,x4,x5,d,c,b,a] t (0,0)):=heap_set q 5 x5;have s:(((((((W.setCell ⟨g,0,V⟩ x0).setCell ⟨g,1,V⟩ x1).setCell ⟨g,2,V⟩ x2).setCell ⟨g,3,V⟩ x3).setCell ⟨g,4,V⟩ x4).setCell ⟨g,5,V⟩ x5).setCell ⟨g,6,V⟩ x6).heap[g]?=A (p8 #[x0,x1,x2,x3,x4,x5,x6,c,b,a] t (0,0)):=heap_set r 6 x6;have u:((((((((W.setCell ⟨g,0,V⟩ x0).setCell ⟨g,1,V⟩ x1).setCell ⟨g,2,V⟩ x2).setCell ⟨g,3,V⟩ x3).setCell ⟨g,4,V⟩ x4).setCell ⟨g,5,V⟩ x5).setCell ⟨g,6,V⟩ x6).setCell ⟨g,7,V⟩ x7).heap[g]?=A (p8 #[x0,x1,x2,x3,x4,x5,x6,x7,b,a] t (0,0)):=heap_set s 7 x7;have v:(((((((((W.setCell ⟨g,0,V⟩ x0).setCell ⟨g,1,V⟩ x1).setCell ⟨g,2,V⟩ x2).setCell ⟨g,3,V⟩ x3).setCell ⟨g,4,V⟩ x4).setCell ⟨g,5,V⟩ x5).setCell ⟨g,6,V⟩ x6).setCell ⟨g,7,V⟩ x7).setCell ⟨g,8,V⟩ x8).heap[g]?=A (p8 #[x0,x1,x2,x3,x4,x5,x6,x7,x8,a] t (0,0)):=heap_set u 8 x8;have x:((((((((((W.setCell ⟨g,0,V⟩ x0).setCell ⟨g,1,V⟩ x1).setCell ⟨g,2,V⟩ x2).setCell ⟨g,3,V⟩ x3).setCell ⟨g,4,V⟩ x4).setCell ⟨g,5,V⟩ x5).setCell ⟨g,6,V⟩ x6).setCell ⟨g,7,V⟩ x7).setCell ⟨g,8,V⟩ x8).setCell ⟨g,9,V⟩ x9).heap[g]?=A (p8 #[x0,x1,x2,x3,x4,x5,x6,x7,x8,x9] t (0,0)):=heap_set v 9 x9;exact x
theorem zp(b:Below B w W)(a:B≤g):Below B w (nb W g x0 x1 x2 x3 x4 x5 x6 x7 x8 x9):=
 (((((((((b.setCell a x0).setCell a x1).setCell a x2).setCell a x3).setCell a x4).setCell a x5).setCell a x6).setCell a x7).setCell a x8).setCell a x9
theorem qP(k:Nat)(h:k≠g):(nb W g x0 x1 x2 x3 x4 x5 x6 x7 x8 x9).heap[k]?=W.heap[k]?:=by
 have a:∀(b:p7) (i:Nat) (u:r3),(b.setCell ⟨g,i,V⟩ u).heap[k]?=b.heap[k]?:=fun b i u=>EW b ⟨g,i,V⟩ u k h
 unfold nb;rw[a,a,a,a,a,a,a,a,a,a]
theorem zT:(nb W g x0 x1 x2 x3 x4 x5 x6 x7 x8 x9).heap.size=W.heap.size:=by simp[nb,World.setCell]
end
theorem dS{w:p7}{T:Nat}{a b c d e f g h i j:r3}{t:vn}(k:w.heap[T]?=A (p8 #[a,b,c,d,e,f,g,h,i,j] t (0,0))):w.cell? ⟨T,0,V⟩=A a∧w.cell? ⟨T,1,V⟩=A b∧w.cell? ⟨T,2,V⟩=A c∧w.cell? ⟨T,3,V⟩=A d∧w.cell? ⟨T,4,V⟩=A e∧w.cell? ⟨T,5,V⟩=A f∧w.cell? ⟨T,6,V⟩=A g∧w.cell? ⟨T,7,V⟩=A h∧w.cell? ⟨T,8,V⟩=A i∧w.cell? ⟨T,9,V⟩=A j:=by simp[World.cell?,k]
theorem cH{w:p7}{T:Nat}{cs:Array r3}{t:vn}(a:w.heap[T]?=A (p8 cs t (0,0))):∀i:Nat,w.frozen? ⟨T,i,V⟩=false:=fun i=>bM a i
theorem A9(F:Nat→Prop)(d M:Nat)(ts:List ap)(rs:List au)(vars:List ByteArray)(nm:ByteArray)(sal nv:Int)(cs:List aK)(acs:List bm)(vT vR vV vC vA:r3)(T:ah)(p:Option Addr)(n c:Nat)(w:p7)
  (hw:MkW F d M ts rs vars nm sal nv cs acs vT vR vV vC vA w) (b:T.b≠5∧T.b≠6∧T.b≠7) :
  r9 r6 51 #[tv (A ⟨M,0,V⟩),s3 #[I J T.b,p9 T.h,I Y T.q,I Y T.t,O p n c]] w (fun e w'=>e=tF (ur false)∧FS w w'∧MkW F d M ts rs vars nm sal nv cs acs vT vR vV vC vA w'):=by
 have i:¬((T.b:Int)=5):=by have:=b.1;omega
 have j:¬((T.b:Int)=6):=by have:=b.2.1;omega
 have k:¬((T.b:Int)=7):=by have:=b.2.2;omega
 have a:FS w ((w.alloc (p8 #[I J T.b,p9 T.h,I Y T.q,I Y T.t,O p n c] 64)).alloc (p8 #[I J 0,I Y 0,O V 0 0,I J 0,I J 0,I Y 0,p9 ⟨#[]⟩,I Y 0,I J 0,O V 0 0] 53)):=((EU _ w).alloc (ET _) _).alloc (by simp) _;obtain⟨f,h⟩:=zz2 a (hw.C a);clear a hw b
 go_enter Tryz.func51,Tryz.ntmps51
 go_wp2_with fail
 go_ret;exact⟨Z,f.o,h.o⟩
theorem gY{w:p7}{F G:Nat→Prop}{d:Nat}{a:List aw}{s:r3}(c:∀b,F b→G b)(h:ey w F d a s):ey w G d a s:=by
 cases d with
 | zero=>exact h
 | succ d=>exact Rd.sb c h
theorem iy{w w':p7}{F:Nat→Prop}{d:Nat}{a:List aw}{s:r3}(c:∀b,F b→∀o,w.heap[b]?=A o→w'.heap[b]?=A o)(h:ey w F d a s):ey w' F d a s:=by
 cases d with
 | zero=>exact h
 | succ d=>exact Rd.qv c h
def jC(vars:List ByteArray) (r:Except Flt aw):Except Flt (List ByteArray×aK):=match r with
 | .error e=>wD e
 | .ok x=>vb (vars,⟨3,0,[],x⟩)
theorem zr(F:Nat→Prop)(d M:Nat)(ts:List ap)(rs:List au)(vars:List ByteArray)(nm:ByteArray)(sal nv:Int)(cs:List aK)(acs:List bm)(vT vR vV vC vA:r3)(T K:ah)(b off c:Nat)(s:r3)(r:Except Flt aw)(n:Nat)(w:p7)
  (hw:MkW F d M ts rs vars nm sal nv cs acs vT vR vV vC vA w) (hk:T.b=7) (b2:cs.length≤10000) (hn:0<n)
  (c0:w.cell? ⟨b,off,V⟩=A (I J K.b)) (c1:w.cell? ⟨b,off+1,V⟩=A (p9 K.h)) (c2:w.cell? ⟨b,off+2,V⟩=A (I Y K.q)) (c3:w.cell? ⟨b,off+3,V⟩=A (I Y K.t)) (c4:w.cell? ⟨b,off+4,V⟩=A s)
  (hex:∀W,FS w W→r9 r6 109 #[tv (A ⟨M,0,V⟩),s3 #[I J K.b,p9 K.h,I Y K.q,I Y K.t,s]] W (dM d r W)) :
  r9 r6 51 #[tv (A ⟨M,0,V⟩),s3 #[I J T.b,p9 T.h,I Y T.q,I Y T.t,O (A ⟨b,off,V⟩) n c]] w (kD F d M ts rs nm sal nv cs acs vT vR vV vC vA (jC vars r) w):=by
 rw[hk];obtain⟨y,cC,b3⟩:=hw.c.b;subst b3;obtain⟨z,U⟩:=zzy (cs.length);have X:=Hd U;rw[U]at b2;obtain⟨w1,G⟩:=zzx ((w.alloc (p8 #[I J 7,p9 T.h,I Y T.q,I Y T.t,O (A ⟨b,off,V⟩) n c] 64)).alloc (p8 #[I J 0,I Y 0,O V 0 0,I J 0,I J 0,I Y 0,p9 ⟨#[]⟩,I Y 0,I J 0,O V 0 0] 53));obtain⟨H,ad,_⟩:=ay w (p8 #[I J 7,p9 T.h,I Y T.q,I Y T.t,O (A ⟨b,off,V⟩) n c] 64) (p8 #[I J 0,I Y 0,O V 0 0,I J 0,I J 0,I Y 0,p9 ⟨#[]⟩,I Y 0,I J 0,O V 0 0] 53);have k:FS w w1:=by rw[G];exact ((EU _ w).alloc (ET _) _).alloc (by simp) _
 rw[←G]at H ad;obtain⟨a6,P⟩:=zz2 (fun g hg=>hw.c.lt (g:=g) hg) (fun b i=>hw.b (b:=b) i);have Q:=Hd (fun b (i:F b)=>(hw.f b i).1);obtain⟨b9,af,a7,b4⟩:=zz4 H ad k (hw.C k);have C:Hid (w.heap.size+2≤w1.heap.size):=by
  have h:=(ES.1 af.o).1
  show _≤_
  omega
 have HC:=Hd (hex w1 k);obtain⟨e0,e1,e2,e3,e4⟩:=cells5 H;have d0:=(k.cell (p:=⟨b,off,V⟩) (dW c0)).trans c0;have d1:=(k.cell (p:=⟨b,off+1,V⟩) (dW c1)).trans c1;have d2:=(k.cell (p:=⟨b,off+2,V⟩) (dW c2)).trans c2;have d3:=(k.cell (p:=⟨b,off+3,V⟩) (dW c3)).trans c3;have d4:=(k.cell (p:=⟨b,off+4,V⟩) (dW c4)).trans c4;have ca:(0:Int)<n:=by omega
 clear H ad k hw hk hex U c0 c1 c2 c3 c4
 go_enter Tryz.func51,Tryz.ntmps51
 go_upto_region 16 with fail
 change wB _ _ _ _ ((w.alloc (p8 #[I J 7,p9 T.h,I Y T.q,I Y T.t,O (A ⟨b,off,V⟩) n c] 64)).alloc (p8 #[I J 0,I Y 0,O V 0 0,I J 0,I J 0,I Y 0,p9 ⟨#[]⟩,I Y 0,I J 0,O V 0 0] 53));rw[←G];clear G;go_wp2_with fail
 refine HC.o.mono ?_;rintro e W2 ⟨L,he⟩;obtain⟨a8,ak,ba⟩:=zz3 (a7.o.trans (L.mono a7.o.size)) (ag L af.o (ES.1 af.o).1) (b4.o.C L);clear e0 e1 e2 e3 e4 d0 d1 d2 d3 d4 L
 cases r with
 | error er =>
  have he:e=aQ er.1 er.2:=he;subst he;exact⟨Z,Chg.b a8.o,Z⟩
 | ok E =>
 obtain⟨v,rfl,R,aq⟩:=he;obtain⟨q,t,hv⟩:=eS.b aq;obtain⟨nq,bb⟩:=zzy (E.u.length);rw[bb]at hv;subst hv;have bc:=Hd R;have bd:Hid (jC vars (vb E)=vb (vars,⟨3,0,[],E⟩)):=rfl;obtain⟨a,u⟩:=zzx (nb W2 (w.heap.size+1) (I J 3) (I Y 0) (O V 0 0) (I J E.b) (I J E.h.b) (I Y E.h.q) (p9 E.h.h) (I Y E.q) (I J E.op) (O q nq t));have j:Hid (a.heap[w.heap.size+1]?=A (p8 #[I J 3,I Y 0,O V 0 0,I J E.b,I J E.h.b,I Y E.h.q,p9 E.h.h,I Y E.q,I J E.op,O q nq t] 53 (0,0))):=by show _=_;rw[u];exact Ds _ _ _ _ _ _ _ _ _ _ ak.o
 have bk:Hid (FS w a):=by show Below _ _ _;rw[u];exact zp _ _ _ _ _ _ _ _ _ _ a8.o (Fw _)
 have b5:Hid (w.heap.size≤a.heap.size):=bk.o.size;have b6:Hid (eS a (aW w1 W2) d E.u (O q nq t)):=by
  show eS _ _ _ _ _
  rw[u];exact (jR (fun b i o ho=>(qP _ _ _ _ _ _ _ _ _ _ b (by have:=i.1;have:=C.o;omega)).trans ho) aq)
 have l:Hid (MkG (fun b=>F b∨aW w1 W2 b) F d M ts rs vars nm sal nv cs acs vT vR vV (O y cs.length cC) vA a):=by
  show MkG _ _ _ _ _ _ _ _ _ _ _ _ _ _ _ _ _ _
  rw[u];refine (ba.o.grow (F':=(fun b=>F b∨aW w1 W2 b)) (fun _ h=>tE h) (fun b i=>?_)).upd (by rw[zT];exact ET _) (fun x N=>qP _ _ _ _ _ _ _ _ _ _ x ?_)
  ·rcases i with i|i
   ·exact ba.o.f b i
   ·have h1:=i.1;have h2:=C.o;exact⟨i.2,fun ho=>by have:=P.o _ ho;omega⟩
  ·rcases N with (N|N)|N
   ·have:=Q.o x N;omega
   ·have h1:=N.1;have h2:=C.o;omega
   ·have:=P.o _ N;omega
 obtain⟨e0,e1,e2,e3,e4,e5,e6,e7,e8,e9⟩:=dS ak.o;have f0:=cH ak.o;clear R aq bb;go_upto_region 17 with fail
 change wB _ _ _ _ (nb W2 (w.heap.size+1) (I J 3) (I Y 0) (O V 0 0) (I J E.b) (I J E.h.b) (I Y E.h.q) (p9 E.h.h) (I Y E.q) (I J E.op) (O q nq t));rw[←u];clear u e0 e1 e2 e3 e4 e5 e6 e7 e8 e9 f0;obtain⟨us,D,bl⟩:=l.o.cc;rw[X.o,jG,gr]at D;obtain⟨bn,b7⟩:=zz2 D bl;have e0:a.cell? ⟨w.heap.size+1,0,V⟩=A (I J 3):=by rw[FR _ _ _ _ _ _ j.o];rfl
 have e1:a.cell? ⟨w.heap.size+1,1,V⟩=A (I Y 0):=by rw[FR _ _ _ _ _ _ j.o];rfl
 have e2:a.cell? ⟨w.heap.size+1,2,V⟩=A (O V 0 0):=by rw[FR _ _ _ _ _ _ j.o];rfl
 have e3:a.cell? ⟨w.heap.size+1,3,V⟩=A (I J E.b):=by rw[FR _ _ _ _ _ _ j.o];rfl
 have e4:a.cell? ⟨w.heap.size+1,4,V⟩=A (I J E.h.b):=by rw[FR _ _ _ _ _ _ j.o];rfl
 have e5:a.cell? ⟨w.heap.size+1,5,V⟩=A (I Y E.h.q):=by rw[FR _ _ _ _ _ _ j.o];rfl
 have e6:a.cell? ⟨w.heap.size+1,6,V⟩=A (p9 E.h.h):=by rw[FR _ _ _ _ _ _ j.o];rfl
 have e7:a.cell? ⟨w.heap.size+1,7,V⟩=A (I Y E.q):=by rw[FR _ _ _ _ _ _ j.o];rfl
 have e8:a.cell? ⟨w.heap.size+1,8,V⟩=A (I J E.op):=by rw[FR _ _ _ _ _ _ j.o];rfl
 have e9:a.cell? ⟨w.heap.size+1,9,V⟩=A (O q nq t):=by rw[FR _ _ _ _ _ _ j.o];rfl
 have ar:a.cell? ⟨M,6,V⟩=A (O y z cC):=by rw[FR _ _ _ _ _ _ l.o.m,←X.o];rfl
 have hK:∀b,(b=M∨b=w.heap.size+1)→b<a.heap.size∧(O y z cC).ownBlock≠A b:=fun b i=>by
  rw[←X.o];rcases i with rfl|rfl
  ·exact⟨l.o.lt,row_ne l.o.m l.o.c (by decide)⟩
  ·exact⟨(ES.1 j.o).1,fun e=>by have:=a6.o _ e;omega⟩
 have bq:=Hd (kb (E:=53) (sz:=10) (row:=us++[I J 3,I Y 0,O V 0 0,I J E.b,I J E.h.b,I Y E.h.q,p9 E.h.h,I Y E.q,I J E.op,O q nq t]) (K:=(fun b=>b=M∨b=w.heap.size+1)) hK);have E0:=fun x:Ks a (fun b=>b=M∨b=w.heap.size+1)=>x.b (tS Z) e0
 have E1:=fun x:Ks a (fun b=>b=M∨b=w.heap.size+1)=>x.b (tS Z) e1
 have E2:=fun x:Ks a (fun b=>b=M∨b=w.heap.size+1)=>x.b (tS Z) e2
 have E3:=fun x:Ks a (fun b=>b=M∨b=w.heap.size+1)=>x.b (tS Z) e3
 have E4:=fun x:Ks a (fun b=>b=M∨b=w.heap.size+1)=>x.b (tS Z) e4
 have E5:=fun x:Ks a (fun b=>b=M∨b=w.heap.size+1)=>x.b (tS Z) e5
 have E6:=fun x:Ks a (fun b=>b=M∨b=w.heap.size+1)=>x.b (tS Z) e6
 have E7:=fun x:Ks a (fun b=>b=M∨b=w.heap.size+1)=>x.b (tS Z) e7
 have E8:=fun x:Ks a (fun b=>b=M∨b=w.heap.size+1)=>x.b (tS Z) e8
 have E9:=fun x:Ks a (fun b=>b=M∨b=w.heap.size+1)=>x.b (tS Z) e9
 have M2:=fun x:Ks a (fun b=>b=M∨b=w.heap.size+1)=>x.b (tE Z) ar
 clear D bl e0 e1 e2 e3 e4 e5 e6 e7 e8 e9 ar hK;refine RE.t (by kernel_rfl) 9 [7,8] [8] (stA 53 10 a y z cC (us++[I J 3,I Y 0,O V 0 0,I J E.b,I J E.h.b,I Y E.h.q,p9 E.h.h,I Y E.q,I J E.op,O q nq t])) (ApR a) (fun _ ys=>ys.getD 0 tT) (phA 53 10 a y z cC [I J 3,I Y 0,O V 0 0,I J E.b,I J E.h.b,I Y E.h.q,p9 E.h.h,I Y E.q,I J E.op,O q nq t] (us++[I J 3,I Y 0,O V 0 0,I J E.b,I J E.h.b,I Y E.h.q,p9 E.h.h,I Y E.q,I J E.op,O q nq t]) 7 8) (by kernel_rfl) (fun _ _ _ _ _ _ h i=>h.C i) (fun _ _ _ _ h _ hR=>h.t hR) stA.zero ?_;simp only[Fg,Fu,Fh,Ft]
 repeat (refine RE.h (fun W=>∃x:Ks a (fun b=>b=M∨b=w.heap.size+1),W=x.1) (bq.o _) Z Z Z stA.zero ?_;go_big_quiet_step (fail);refine vk ?_)
 refine RE.b Z Z ?_ (fun b8=>?_)
 ·intro W hC hS hE;obtain⟨s9,_,h9⟩:=hC;exact eL lM (vs:=[I J 3,I Y 0,O V 0 0,I J E.b,I J E.h.b,I Y E.h.q,p9 E.h.h,I Y E.q,I J E.op,O q nq t]) _ Z Z Z h9.u (fun v W' i ho=>⟨[v],Z,i,ApR.b i,ho⟩)
 simp only[wj,EV,Fe,Fc];refine RE.b Z Z ?_ (fun br=>?_)
 ·intro W hC hS hE;obtain⟨x,rfl⟩:∃x:Wb a,W=x.1:=hS Z;exact iH lM (p:=y) (n:=z) (c:=cC) (w4:=a) (vs:=[I J 3,I Y 0,O V 0 0,I J E.b,I J E.h.b,I Y E.h.q,p9 E.h.h,I Y E.q,I J E.op,O q nq t]) (xs:=us) _ _ Z Z (hE 7 b8 (by kernel_rfl) Z) Z (by simp[Value.oneCell']) x.2 bn.o (by omega) (fun v' W' h1 h2 h3=>⟨[v'],Z,h1,h2,h3⟩)
 simp only[wj,EV,Fe,Fc];refine RE.q ?_;intro W hS hE;have hS:ApS 53 10 a y z cC (us++[I J 3,I Y 0,O V 0 0,I J E.b,I J E.h.b,I Y E.h.q,p9 E.h.h,I Y E.q,I J E.op,O q nq t]) W:=hS;have hV:ApV 53 10 a y z cC (us++[I J 3,I Y 0,O V 0 0,I J E.b,I J E.h.b,I Y E.h.q,p9 E.h.h,I Y E.q,I J E.op,O q nq t]) W (br.getD 0 tT):=hE 8 br Z;obtain⟨g',cap,eg,hg,hC,S⟩:=jq hS hV;rw[eg];have bt:Chg (fun b=>(O y cs.length cC).ownBlock=A b) a W:=by rw[X.o];exact hC
 have av:(O y cs.length cC).ownBlock=A g'∨a.heap.size≤g':=by rw[X.o];exact hg
 have bB:(ft d).at_ a (aW w1 W2) ⟨3,0,[],E⟩ [I J 3,I Y 0,O V 0 0,I J E.b,I J E.h.b,I Y E.h.q,p9 E.h.h,I Y E.q,I J E.op,O q nq t]:=lS.2 ⟨show U8 3 from ⟨by decide,by decide⟩,show I64 0 from ⟨by decide,by decide⟩,bc.o,O V 0 0,O q nq t,Z,Rd.tk,b6.o⟩;obtain⟨bR,b1,a1⟩:=l.o.pushC X.o b7.o bB (fun b i=>⟨tS i,fun h=>by have:=Q.o b h;have:=C.o;have:=i.1;omega⟩) av bt (by rw[jG,gr];exact S);have ar:W.cell? ⟨M,6,V⟩=A (O y z cC):=by rw[FR _ _ _ _ _ _ (a1.trans l.o.m),←X.o];rfl
 have cb:=bM (a1.trans l.o.m) 6;have HP:Hid (kD F d M ts rs nm sal nv cs acs vT vR vV (O y cs.length cC) vA (vb (vars,⟨3,0,[],E⟩)) w (tF (ur true)) (W.setCell ⟨M,6,V⟩ (O (A ⟨g',0,V⟩) (z+1) cap))):=by
  refine⟨dz (Chg.b bk.o) b1 (fun x N=>tE N),Z,(fun b=>F b∨aW w1 W2 b),vV,_,bR,fun b i=>tE i,fun b i=>?_,fun _ h=>tE h,fun b h=>h.imp id (fun h=>by have:=C.o;have:=h.1;omega)⟩;injection i with i
  have i:g'=b:=i;subst i;rcases av with h|h
  ·exact tE h
  ·have:=b5.o;exact tS (by omega)
 clear hS hV hE eg hg hC S bt av bR b1 a1 E0 E1 E2 E3 E4 E5 E6 E7 E8 E9 M2 bq bB;go_wp2_with fail
 go_ret;rw[bd.o];exact HP.o
