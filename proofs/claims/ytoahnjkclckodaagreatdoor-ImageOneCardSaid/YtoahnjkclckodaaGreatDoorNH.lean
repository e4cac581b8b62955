/- Parts of one proof, joined; conditions stand in each theorem. -/
import Derived.Test.YtoahnjkclckodaaGreatDoorNF
import Derived.Test.YtoahnjkclckodaaGreatDoorNG
open Go renaming Value→tT,World→J,TypeId→zs,Calls→wg,undef→wF,wpQuiet_nil→xL
open Option renaming none→Y,some→A
open Go.Obj renaming cells→r9
open Go.Value renaming agg→xk,bool→xv,int→I,pointer→vv,slice→O,string→tS,tuple→y9
open Go.IntKind renaming i64→U,u8→tF
open Go.Proofs.Tryz renaming prog→vo
open Except renaming error→z6,ok→xt
open Go.Code renaming wp→xD
open Or renaming inl→wD,inr→wP
open Go.Act renaming put→xS
open Go.Ending renaming returned→wj
namespace Go.Proofs.YtoahnjkclckodaaGreatDoor
set_option maxHeartbeats 4000000
set_option maxRecDepth 100000
open Go.RowKit
theorem MkW.vars{F:Nat→Prop}{d M:Nat}{ts:List ay}{rs:List aK}{vars:List ByteArray}{nm:ByteArray}{sal nv:Int}{cs:List br}{acs:List dr}{vT vR vV vC vA:tT}{w:J}(h:MkW F d M ts rs vars nm sal nv cs acs vT vR vV vC vA w):nV M vars vV w:=
 ⟨by rw[Gk _ _ _ _ _ _ h.m];rfl,h.lt,h.v.h (fun b a=>(h.f b a).1) (fun g c=>h.v.lt c)⟩
def st4(W:J) (g:Nat) (a b c d:tT):World:=(((W.setCell ⟨g,0,Y⟩ a).setCell ⟨g,1,Y⟩ b).setCell ⟨g,2,Y⟩ c).setCell ⟨g,3,Y⟩ d
theorem vE{W:J}{g:Nat}{x0 x1 x2 x3:tT}{t:zs}(h:W.heap[g]?=A (r9 #[x0,x1,x2,x3] t (0,0)))(a b c e:tT):(st4 W g a b c e).heap[g]?=A (r9 #[a,b,c,e] t (0,0)):=
 heap_set (heap_set (heap_set (heap_set h 0 a) 1 b) 2 c) 3 e
theorem oH{B:Nat}{w W:J}{g:Nat}(f:Below B w W)(e:B≤g)(a b c d:tT):Below B w (st4 W g a b c d):=
 (((f.setCell e a).setCell e b).setCell e c).setCell e d
theorem oL{W:J}{g:Nat}(a b c d:tT)(k:Nat)(h:k≠g):(st4 W g a b c d).heap[k]?=W.heap[k]?:=by
 have e:∀(V:J) (i:Nat) (u:tT),(V.setCell ⟨g,i,Y⟩ u).heap[k]?=V.heap[k]?:=fun V i u=>FC V ⟨g,i,Y⟩ u k h
 unfold st4;rw[e,e,e,e]
theorem CE{W:J}{g:Nat}(a b c d:tT):(st4 W g a b c d).heap.size=W.heap.size:=by simp[st4,World.setCell]
theorem rK{w:J}{T:Nat}{a b c d:tT}{t:zs}(e:w.heap[T]?=A (r9 #[a,b,c,d] t (0,0))):w.cell? ⟨T,0,Y⟩=A a∧w.cell? ⟨T,1,Y⟩=A b∧w.cell? ⟨T,2,Y⟩=A c∧w.cell? ⟨T,3,Y⟩=A d:=by simp[World.cell?,e]
theorem ve{F F':Nat→Prop}{d M:Nat}{ts:List ay}{rs:List aK}{vars:List ByteArray}{nm:ByteArray}{sal nv:Int}{cs:List br}{acs:List dr}{vT vR vV vC vA:tT}{w:J}{g:Nat}(h:MkW F d M ts rs vars nm sal nv cs acs vT vR vV vC vA w)(k:∀b,F b→F' b)
  (i:∀b,F' b→b<w.heap.size∧¬aZ M [vT,vR,vV,vC,vA] b∧b≠g) (l:¬aZ M [vT,vR,vV,vC,vA] g) (a b c e:tT):MkW F' d M ts rs vars nm sal nv cs acs vT vR vV vC vA (st4 w g a b c e):=
 (h.grow k (fun b j=>⟨(i b j).1,(i b j).2.1⟩)).upd (by rw[CE];exact Fy _) (fun x f=>oL _ _ _ _ x (by
  rcases f with f|f
  ·exact (i x f).2.2
  ·exact fun e=>l (e ▸ f)))
def jo(w1:J) (d:Nat) (es:List a8) (W:J) (v:tT):Prop:=(bM d).h W (bf w1 W) es v
theorem jo.C{w1 W W':J}{d:Nat}{es:List a8}{v:tT}(h:jo w1 d es W v)(b:Gl W W'):jo w1 d es W' v:=
 Rd.sv (fun _ a=>⟨a.1,FG a.2 b.size⟩) (Rd.sm h (fun _ a=>a.2) b)
theorem jo.of{w1 W W':J}{d:Nat}{es:List a8}{v:tT}(c:w1.heap.size≤W.heap.size)(h:aw W' (fun b=>bf W W' b∧v.ownBlock≠A b) 166 (bM d) es v)(f:∀g,v.ownBlock=A g→W.heap.size≤g):jo w1 d es W' v:=
 h.h (fun _ e=>⟨FH c e.1.1,e.1.2⟩) (fun g a=>⟨FH c (f g a),h.lt a⟩)
theorem yA(a:Bool)(b:Int)(z:tT)(h:z.cells.size=2):Instr.fill (fun i=>A (i*2,2)) ((Array.range (1*2)).map (z.cells[· % z.cells.size]!)) [(0,xk #[xv a,I U b])]=A (fk [(a,b)]).toArray:=by
 obtain⟨x,y,c⟩:=size2 h;rw[c]
 kernel_rfl
theorem kG{o:Oper}{a:Act}{W:J}{G:tT→J→Prop}{L:Nat}(b:Bool)(c:Int)(x:Operand)(d:o.op=.buildSlice 257 1 #[(0,x)])(f:a.eval x=xk #[xv b,I U c])(h:L≤W.heap.size)
  (i:∀v W',Gl W W'→cF L [(b,c)] W' v→G v W'):RE.Upon vo o a W G:=by
 refine nE (l:=[(b,c)]) d Z (by decide) (fun z j=>?_) h i;have e:((#[(0,x)]:Array (Nat×Operand)).map fun (q:Nat×Operand)=>(q.1,a.eval q.2)).toList=[(0,a.eval x)]:=by simp
 rw[e,f];exact yA b c z j
def nG(r:Except Flt (List a8)):Except Flt dr:=match r with
 | .error e=>z6 e
 | .ok xs=>xt ⟨3,0,0,xs⟩
theorem Em(F:Nat→Prop)(d M:Nat)(ts:List ay)(rs:List aK)(vars:List ByteArray)(nm:ByteArray)(sal nv:Int)(cs:List br)(acs:List dr)(vT vR vV vC vA:tT)(T:ac)(p:Option Addr)(n c:Nat)(r:Except Flt (List a8))(w:J)
  (hw:MkW F d M ts rs vars nm sal nv cs acs vT vR vV vC vA w) (hk:T.q=10) (b5:acs.length≤10000)
  (hex:∀W,Gl w W→wg vo 159 #[vv (A ⟨M,0,Y⟩),O p n c] W (jA d r W)) :
  wg vo 131 #[vv (A ⟨M,0,Y⟩),xk #[I tF T.q,tS T.h,I U T.u,I U T.t,O p n c]] w (iD F d M ts rs vars nm sal nv cs acs vT vR vV vC vA (nG r) w):=by
 rw[hk];obtain⟨y,z,b6⟩:=hw.a.q;subst b6;obtain⟨C,R⟩:=zzy (acs.length);have S:=Hd R;rw[R]at b5;obtain⟨w1,H⟩:=zzx ((w.alloc (r9 #[I tF 10,tS T.h,I U T.u,I U T.t,O p n c] 145)).alloc (r9 #[I tF 4,I U 0,I U 0,O Y 0 0] 272));obtain⟨L,V,_⟩:=aW w (r9 #[I tF 10,tS T.h,I U T.u,I U T.t,O p n c] 145) (r9 #[I tF 4,I U 0,I U 0,O Y 0 0] 272);have N:Gl w w1:=by rw[H];exact ((Fz _ w).alloc (Fy _) _).alloc (by simp) _
 rw[←H]at L V;obtain⟨ba,Q,cc,X,bb,b7⟩:=zz6 (fun g hg=>hw.a.lt (g:=g) hg) (fun b j=>hw.h (b:=b) j) L V N (hw.C N);have ad:Hid (w.heap.size+2≤w1.heap.size):=by
  have h:=(Fx.1 X.o).1
  show _≤_
  omega
 have bd:=Hd (fun b (j:F b)=>(hw.f b j).1);have HC:=Hd (hex w1 N);obtain⟨e0,e1,e2,e3,e4⟩:=cells5 L;clear L V N hw hk hex R
 go_enter Tryz.func131,Tryz.ntmps131
 go_upto_region 9 with fail
 change xD _ _ _ _ ((w.alloc (r9 #[I tF 10,tS T.h,I U T.u,I U T.t,O p n c] 145)).alloc (r9 #[I tF 4,I U 0,I U 0,O Y 0 0] 272));rw[←H];clear H;go_wp2_with fail
 refine HC.o.mono ?_;rintro e W2 ⟨P,he⟩;obtain⟨bk,af,aq⟩:=zz3 (bb.o.trans (P.mono bb.o.size)) (aa P X.o (Fx.1 X.o).1) (b7.o.C P);clear e0 e1 e2 e3 e4 P
 cases r with
 | error er =>
  have he:e=aJ er.1 er.2:=he;subst he;exact⟨Z,Chg.t bk.o,Z⟩
 | ok xs =>
 obtain⟨v,rfl,k,bl⟩:=he;obtain⟨q,t,hv⟩:=k.q;obtain⟨l,bm⟩:=zzy (xs.length);rw[bm]at hv;subst hv;have b8:Hid ((bM d).h W2 (bf w1 W2) xs (O q l t)):=jo.of (Fy _) k bl;have bn:Hid (nG (xt xs)=xt ⟨3,0,0,xs⟩):=rfl;clear k bl bm;obtain⟨i,u⟩:=zzx (st4 W2 (w.heap.size+1) (I tF 3) (I U 0) (I U 0) (O q l t));have D:Hid (i.heap[w.heap.size+1]?=A (r9 #[I tF 3,I U 0,I U 0,O q l t] 272 (0,0))):=by show _=_;rw[u];exact vE af.o _ _ _ _
 have bq:Hid (Gl w i):=by show Below _ _ _;rw[u];exact oH bk.o (F3 _) _ _ _ _
 have s:Hid (MkW (fun b=>F b∨bf w1 W2 b) d M ts rs vars nm sal nv cs acs vT vR vV vC (O y acs.length z) i):=by
  show MkW _ _ _ _ _ _ _ _ _ _ _ _ _ _ _ _ _
  rw[u];refine ve aq.o (fun _ h=>wD h) (fun b j=>?_) (fun ho=>by have:=Q.o _ ho;omega) _ _ _ _;rcases j with j|j
  ·exact⟨(aq.o.f b j).1,(aq.o.f b j).2,by have:=bd.o b j;omega⟩
  ·have h1:=j.1;have h2:=ad.o;exact⟨j.2,fun ho=>by have:=Q.o _ ho;omega,by omega⟩
 have b9:Hid ((bM d).h i (fun b=>F b∨bf w1 W2 b) xs (O q l t)):=by
  show (bM d).h _ _ _ _
  rw[u];exact Rd.sv (fun _ h=>wP h) (Rd.sb (fun b j o ho=>(oL _ _ _ _ b (by have:=j.1;have:=ad.o;omega)).trans ho) b8.o)
 obtain⟨e0,e1,e2,e3⟩:=rK af.o;have f0:=ab af.o;go_upto_region 10 with fail
 change xD _ _ _ _ (st4 W2 (w.heap.size+1) (I tF 3) (I U 0) (I U 0) (O q l t));rw[←u];clear u e0 e1 e2 e3 f0;obtain⟨us,G,bt⟩:=s.o.a;rw[S.o]at G;obtain⟨bB,ca⟩:=zz2 G bt;have e0:i.cell? ⟨w.heap.size+1,0,Y⟩=A (I tF 3):=by rw[Gk _ _ _ _ _ _ D.o];rfl
 have e1:i.cell? ⟨w.heap.size+1,1,Y⟩=A (I U 0):=by rw[Gk _ _ _ _ _ _ D.o];rfl
 have e2:i.cell? ⟨w.heap.size+1,2,Y⟩=A (I U 0):=by rw[Gk _ _ _ _ _ _ D.o];rfl
 have e3:i.cell? ⟨w.heap.size+1,3,Y⟩=A (O q l t):=by rw[Gk _ _ _ _ _ _ D.o];rfl
 have ar:i.cell? ⟨M,7,Y⟩=A (O y C z):=by rw[Gk _ _ _ _ _ _ s.o.m,←S.o];rfl
 have hK:∀b,(b=M∨b=w.heap.size+1)→b<i.heap.size∧(O y C z).ownBlock≠A b:=fun b j=>by
  rw[←S.o];rcases j with rfl|rfl
  ·exact⟨s.o.lt,row_ne s.o.m s.o.a (by decide)⟩
  ·exact⟨(Fx.1 D.o).1,fun e=>by have:=ba.o _ e;omega⟩
 have bR:=Hd (jp (E:=272) (sz:=4) (row:=us++[I tF 3,I U 0,I U 0,O q l t]) (K:=(fun b=>b=M∨b=w.heap.size+1)) hK);have E0:=fun x:Ks i (fun b=>b=M∨b=w.heap.size+1)=>x.h (wP Z) e0
 have E1:=fun x:Ks i (fun b=>b=M∨b=w.heap.size+1)=>x.h (wP Z) e1
 have E2:=fun x:Ks i (fun b=>b=M∨b=w.heap.size+1)=>x.h (wP Z) e2
 have E3:=fun x:Ks i (fun b=>b=M∨b=w.heap.size+1)=>x.h (wP Z) e3
 have M2:=fun x:Ks i (fun b=>b=M∨b=w.heap.size+1)=>x.h (wD Z) ar
 clear G bt e0 e1 e2 e3 ar hK;refine RE.u (by kernel_rfl) 9 [7,8] [8] (stA 272 4 i y C z (us++[I tF 3,I U 0,I U 0,O q l t])) (ApR i) (fun _ ys=>ys.getD 0 wF) (phA 272 4 i y C z [I tF 3,I U 0,I U 0,O q l t] (us++[I tF 3,I U 0,I U 0,O q l t]) 7 8) (by kernel_rfl) (fun _ _ _ _ _ _ h j=>h.C j) (fun _ _ _ _ h _ hR=>h.t hR) stA.zero ?_;simp only[FO,FY,FQ,FX]
 repeat (refine RE.q (fun W=>∃x:Ks i (fun b=>b=M∨b=w.heap.size+1),W=x.1) (bR.o _) Z Z Z stA.zero ?_;go_big_quiet_step (fail);refine xL ?_)
 refine RE.h Z Z ?_ (fun cb=>?_)
 ·intro W hC hS hE;obtain⟨s9,_,h9⟩:=hC;exact dU i9 (vs:=[I tF 3,I U 0,I U 0,O q l t]) _ Z Z Z h9.u (fun v W' j ho=>⟨[v],Z,j,ApR.t j,ho⟩)
 simp only[xS,FA,FM,FK];refine RE.h Z Z ?_ (fun b0=>?_)
 ·intro W hC hS hE;obtain⟨x,rfl⟩:∃x:Wb i,W=x.1:=hS Z;exact iF i9 (p:=y) (n:=C) (c:=z) (w4:=i) (vs:=[I tF 3,I U 0,I U 0,O q l t]) (xs:=us) _ _ Z Z (hE 7 cb (by kernel_rfl) Z) Z (by simp[Value.oneCell']) x.2 bB.o (by omega) (fun v' W' h1 h2 h3=>⟨[v'],Z,h1,h2,h3⟩)
 simp only[xS,FA,FM,FK];refine RE.t ?_;intro W hS hE;have hS:ApS 272 4 i y C z (us++[I tF 3,I U 0,I U 0,O q l t]) W:=hS;have hV:ApV 272 4 i y C z (us++[I tF 3,I U 0,I U 0,O q l t]) W (b0.getD 0 wF):=hE 8 b0 Z;obtain⟨g',cap,eg,hg,hC,k⟩:=ju hS hV;rw[eg];have b1:Chg (fun b=>(O y acs.length z).ownBlock=A b) i W:=by rw[S.o];exact hC
 have a1:(O y acs.length z).ownBlock=A g'∨i.heap.size≤g':=by rw[S.o];exact hg
 have b2:(iU d).at_ i (fun b=>F b∨bf w1 W2 b) ⟨3,0,0,xs⟩ [I tF 3,I U 0,I U 0,O q l t]:=qE.2 ⟨show U8 3 from ⟨by decide,by decide⟩,(show I64 0 from ⟨by decide,by decide⟩),(show I64 0 from ⟨by decide,by decide⟩),O q l t,Z,b9.o⟩;obtain⟨b3,b4,a6⟩:=s.o.pushA S.o ca.o b2 a1 b1 k;have ar:W.cell? ⟨M,7,Y⟩=A (O y C z):=by rw[Gk _ _ _ _ _ _ (a6.trans s.o.m),←S.o];rfl
 have cf:=ax (a6.trans s.o.m) 7;have HP:Hid (iD F d M ts rs vars nm sal nv cs acs vT vR vV vC (O y acs.length z) (xt ⟨3,0,0,xs⟩) w (wj (y9 #[])) (W.setCell ⟨M,7,Y⟩ (O (A ⟨g',0,Y⟩) (C+1) cap))):=by
  refine⟨dw (Chg.t bq.o) b4 (fun x hx=>wD hx),Z,(fun b=>F b∨bf w1 W2 b),_,b3,fun b j=>?_,fun _ h=>wD h,fun b h=>h.imp id (fun h=>by have:=ad.o;have:=h.1;omega)⟩;injection j with j
  have j:g'=b:=j;subst j;rcases a1 with h|h
  ·exact wD h
  ·have:=bq.o.size;exact wP (by omega)
 clear hS hV hE eg hg hC k b1 a1 b3 b4 a6 E0 E1 E2 E3 M2 bR b2;go_wp2_with fail
 go_end0
 rw[bn.o];exact HP.o
def ib(cs:List br) (T:ac):Except Flt dr:=if T.u<1||decide ((bD cs:Int)<T.u) then z6 (214,T.t) else xt ⟨2,0,T.u-1,[]⟩
theorem BE(F:Nat→Prop)(d M:Nat)(ts:List ay)(rs:List aK)(vars:List ByteArray)(nm:ByteArray)(sal nv:Int)(cs:List br)(acs:List dr)(vT vR vV vC vA:tT)(T:ac)(p:Option Addr)(n c:Nat)(w:J)
  (hw:MkW F d M ts rs vars nm sal nv cs acs vT vR vV vC vA w) (hk:T.q=9) (cu:acs.length≤10000) (b8:cs.length≤10000) (b9:I64 T.u) :
  wg vo 131 #[vv (A ⟨M,0,Y⟩),xk #[I tF T.q,tS T.h,I U T.u,I U T.t,O p n c]] w (iD F d M ts rs vars nm sal nv cs acs vT vR vV vC vA (ib cs T) w):=by
 rw[hk];obtain⟨P,Q,cv⟩:=hw.a.q;subst cv;obtain⟨S,bm⟩:=zzy (acs.length);have HN:=Hd bm;rw[bm]at cu;obtain⟨w1,ar⟩:=zzx ((w.alloc (r9 #[I tF 9,tS T.h,I U T.u,I U T.t,O p n c] 145)).alloc (r9 #[I tF 4,I U 0,I U 0,O Y 0 0] 272));obtain⟨a6,bn,_⟩:=aW w (r9 #[I tF 9,tS T.h,I U T.u,I U T.t,O p n c] 145) (r9 #[I tF 4,I U 0,I U 0,O Y 0 0] 272);have z:Gl w w1:=by rw[ar];exact ((Fz _ w).alloc (Fy _) _).alloc (by simp) _
 rw[←ar]at a6 bn;obtain⟨ca,bd,cb,bq,H,cy⟩:=zz6 (fun g C=>hw.a.lt (g:=g) C) (fun b j=>hw.h (b:=b) j) a6 bn z (hw.C z);have cc:Hid (w.heap.size+2≤w1.heap.size):=by
  have h:=(Fx.1 bq.o).1
  show _≤_
  omega
 have cf:=Hd (fun b (j:F b)=>(hw.f b j).1);have bt:=Hd (fun (W:J) (h:Gl w1 W)=>zI d cs vC (fun b=>b<w.heap.size) M W (Rd.sm (hw.c.h (G:=fun b=>b<w.heap.size) (fun b j=>(hw.f b j).1) (fun g C=>hw.c.lt C)) (fun _ h=>h) (z.trans (h.mono z.size))) (fun b j=>by have:=h.size;have:=z.size;omega) (by rw[Gk _ _ _ _ _ _ (((hw.C z).C h).m)];rfl) b8);obtain⟨e0,e1,e2,e3,e4⟩:=cells5 a6;obtain⟨R,bB⟩:=zzy (bD cs);have bR:Hid (ib cs T=if T.u<1||decide ((R:Int)<T.u) then z6 (214,T.t) else xt ⟨2,0,T.u-1,[]⟩):=by show _=_;rw[←bB];rfl
 rw[bB]at bt;clear a6 bn z hw hk bm bB b8
 go_enter Tryz.func131,Tryz.ntmps131
 go_upto_region 6 with fail
 change xD _ _ _ _ ((w.alloc (r9 #[I tF 9,tS T.h,I U T.u,I U T.t,O p n c] 145)).alloc (r9 #[I tF 4,I U 0,I U 0,O Y 0 0] 272));rw[←ar];clear ar;have E0:=fun x:Wb w1=>x.h e0
 have E1:=fun x:Wb w1=>x.h e1
 have E2:=fun x:Wb w1=>x.h e2
 have E3:=fun x:Wb w1=>x.h e3
 have E4:=fun x:Wb w1=>x.h e4
 by_cases b0:T.u<1
 ·have r:Hid (ib cs T=z6 (214,T.t)):=by show _=_;rw[bR.o,decide_eq_true b0];rfl
  have bk:decide (T.u<1)=true:=decide_eq_true b0;refine RE.u (by kernel_rfl) 13 [8,12] [] (fun _ W=>∃x:Wb w1,W=x.1) (fun W W'=>Gl W W') (fun i k=>if i=8 then I U (R:Int) else k.getD 0 wF) (fun i W k=>if i=12 then cF w1.heap.size [(true,214)] W (k.getD 0 wF) else True) (by kernel_rfl) (fun _ _ _ _ _ _ h j=>cY h j) (fun i W W' k h _ j=>by split at h;(rw[oE (by assumption)];exact h.C j);rw[oB (by assumption)];trivial) ⟨⟨w1.drew,(Fz _ _).drew⟩,Z⟩ ?_;simp only[FO,FY,FQ,FX]
  repeat (refine RE.q (fun W=>∃x:Wb w1,W=x.1) (fun _ _ _ h=>h) Z Z Z ⟨⟨w1.drew,(Fz _ _).drew⟩,Z⟩ ?_;go_big_quiet_step (fail);refine xL ?_)
  refine RE.wpE_off Z (fun W h=>by cases h) ?_;simp only[xS,FA,FM,FK]
  repeat (refine RE.q (fun W=>∃x:Wb w1,W=x.1) (fun _ _ _ h=>h) Z Z Z ⟨⟨w1.drew,(Fz _ _).drew⟩,Z⟩ ?_;go_big_quiet_step (fail);refine xL ?_)
  refine RE.h Z Z ?_ (fun k=>?_)
  ·intro W D _ q;obtain⟨s9,_,x,rfl⟩:=D;exact kG true 214 _ Z Z x.2.size (fun v W' j V=>⟨[v],Z,j,j,V⟩)
  simp only[xS,FA,FM,FK];refine RE.t ?_;intro W L q;obtain⟨x,rfl⟩:=L;obtain⟨g,s,lg,C⟩:cF w1.heap.size [(true,214)] x.1 (k.getD 0 wF):=q 12 k Z;have s:(if (12:Nat)=8 then I U (R:Int) else k.getD 0 wF)=O (A ⟨g,0,Y⟩) 1 1:=s;rw[s];obtain⟨X,t⟩:=zz2 (bO [(true,214)] 9 T.h T.u T.t (O p n c) g 1 1 x.1 Z (by omega) C) x.2;clear q s lg C E0 E1 E2 E3 E4;go_wp2_with fail
  refine X.o.mono ?_;rintro e W2 ⟨N,he⟩;have he:e=aJ 214 T.t:=he;subst he;refine⟨Z,Chg.t (H.o.trans ((t.o.trans (N.mono t.o.size)).mono H.o.size)),?_⟩;rw[r.o];rfl
 ·have bk:decide (T.u<1)=false:=oT b0
  by_cases ba:(R:Int)<T.u
  ·have r:Hid (ib cs T=z6 (214,T.t)):=by show _=_;rw[bR.o,decide_eq_true ba,Bool.or_true];rfl
   have ch:decide ((R:Int)<T.u)=true:=decide_eq_true ba;refine RE.u (by kernel_rfl) 13 [8,12] [] (fun _ W=>∃x:Wb w1,W=x.1) (fun W W'=>Gl W W') (fun i k=>if i=8 then I U (R:Int) else k.getD 0 wF) (fun i W k=>if i=12 then cF w1.heap.size [(true,214)] W (k.getD 0 wF) else True) (by kernel_rfl) (fun _ _ _ _ _ _ h j=>cY h j) (fun i W W' k h _ j=>by split at h;(rw[oE (by assumption)];exact h.C j);rw[oB (by assumption)];trivial) ⟨⟨w1.drew,(Fz _ _).drew⟩,Z⟩ ?_;simp only[FO,FY,FQ,FX]
   repeat (refine RE.q (fun W=>∃x:Wb w1,W=x.1) (fun _ _ _ h=>h) Z Z Z ⟨⟨w1.drew,(Fz _ _).drew⟩,Z⟩ ?_;go_big_quiet_step (fail);refine xL ?_)
   refine RE.h Z Z ?_ (fun bb=>?_)
   ·intro W D _ q;obtain⟨s9,_,x,rfl⟩:=D;refine RE.z 160 _ _ Z (enters_of Tryz.func160 (by kernel_rfl) Z) #[vv (A ⟨M,0,Y⟩)] (by simp[Act.eval]) ((bt.o x.1 x.2).mono ?_);rintro e W' ⟨rfl,j⟩;exact⟨_,Z,[],Z,j,j,trivial⟩
   simp only[o4];simp only[xS,FA,FM,FK]
   repeat (refine RE.q (fun W=>∃x:Wb w1,W=x.1) (fun _ _ _ h=>h) Z Z Z ⟨⟨w1.drew,(Fz _ _).drew⟩,Z⟩ ?_;go_big_quiet_step (fail);refine xL ?_)
   refine RE.h Z Z ?_ (fun k=>?_)
   ·intro W D _ q;obtain⟨s9,_,x,rfl⟩:=D;exact kG true 214 _ Z Z x.2.size (fun v W' j V=>⟨[v],Z,j,j,V⟩)
   simp only[xS,FA,FM,FK];refine RE.t ?_;intro W L q;obtain⟨x,rfl⟩:=L;obtain⟨g,s,lg,C⟩:cF w1.heap.size [(true,214)] x.1 (k.getD 0 wF):=q 12 k Z;have s:(if (12:Nat)=8 then I U (R:Int) else k.getD 0 wF)=O (A ⟨g,0,Y⟩) 1 1:=s;rw[s];obtain⟨X,t⟩:=zz2 (bO [(true,214)] 9 T.h T.u T.t (O p n c) g 1 1 x.1 Z (by omega) C) x.2;clear q s lg C E0 E1 E2 E3 E4;go_wp2_with fail
   refine X.o.mono ?_;rintro e W2 ⟨N,he⟩;have he:e=aJ 214 T.t:=he;subst he;refine⟨Z,Chg.t (H.o.trans ((t.o.trans (N.mono t.o.size)).mono H.o.size)),?_⟩;rw[r.o];rfl
  ·have r:Hid (ib cs T=xt ⟨2,0,T.u-1,[]⟩):=by show _=_;rw[bR.o,oT ba,bk];rfl
   have ch:decide ((R:Int)<T.u)=false:=oT ba;refine RE.u (by kernel_rfl) 13 [8,12] [] (fun _ W=>∃x:Wb w1,W=x.1) (fun W W'=>Gl W W') (fun i k=>if i=8 then I U (R:Int) else k.getD 0 wF) (fun i W k=>if i=12 then cF w1.heap.size [(false,214)] W (k.getD 0 wF) else True) (by kernel_rfl) (fun _ _ _ _ _ _ h j=>cY h j) (fun i W W' k h _ j=>by split at h;(rw[oE (by assumption)];exact h.C j);rw[oB (by assumption)];trivial) ⟨⟨w1.drew,(Fz _ _).drew⟩,Z⟩ ?_;simp only[FO,FY,FQ,FX]
   repeat (refine RE.q (fun W=>∃x:Wb w1,W=x.1) (fun _ _ _ h=>h) Z Z Z ⟨⟨w1.drew,(Fz _ _).drew⟩,Z⟩ ?_;go_big_quiet_step (fail);refine xL ?_)
   refine RE.h Z Z ?_ (fun bb=>?_)
   ·intro W D _ q;obtain⟨s9,_,x,rfl⟩:=D;refine RE.z 160 _ _ Z (enters_of Tryz.func160 (by kernel_rfl) Z) #[vv (A ⟨M,0,Y⟩)] (by simp[Act.eval]) ((bt.o x.1 x.2).mono ?_);rintro e W' ⟨rfl,j⟩;exact⟨_,Z,[],Z,j,j,trivial⟩
   simp only[o4];simp only[xS,FA,FM,FK]
   repeat (refine RE.q (fun W=>∃x:Wb w1,W=x.1) (fun _ _ _ h=>h) Z Z Z ⟨⟨w1.drew,(Fz _ _).drew⟩,Z⟩ ?_;go_big_quiet_step (fail);refine xL ?_)
   refine RE.h Z Z ?_ (fun k=>?_)
   ·intro W D _ q;obtain⟨s9,_,x,rfl⟩:=D;exact kG false 214 _ Z Z x.2.size (fun v W' j V=>⟨[v],Z,j,j,V⟩)
   simp only[xS,FA,FM,FK];refine RE.t ?_;intro W L q;obtain⟨x,rfl⟩:=L;obtain⟨g,s,lg,C⟩:cF w1.heap.size [(false,214)] x.1 (k.getD 0 wF):=q 12 k Z;have s:(if (12:Nat)=8 then I U (R:Int) else k.getD 0 wF)=O (A ⟨g,0,Y⟩) 1 1:=s;rw[s];obtain⟨X,t⟩:=zz2 (bO [(false,214)] 9 T.h T.u T.t (O p n c) g 1 1 x.1 Z (by omega) C) x.2;clear q s lg C E0 E1 E2 E3 E4;go_wp2_with fail
   refine X.o.mono ?_;rintro e W2 ⟨N,he⟩;have he:e=wj (y9 #[]):=he;subst he;have u:=t.o.trans (N.mono t.o.size);obtain⟨cC,b1,cR,b2⟩:=zz4 (H.o.trans (u.mono H.o.size)) (aa u bq.o (Fx.1 bq.o).1) (aa u cb.o (Fx.1 cb.o).1) (cy.o.C u);clear e0 e1 e2 e3 e4 N u;have b3:(-9223372036854775808:Int)≤T.u-1:=by omega
   have b4:T.u-1<9223372036854775808:=by have:=b9.2;omega
   obtain⟨l,ad⟩:=zzx (st4 W2 (w.heap.size+1) (I tF 2) (I U 0) (I U (T.u-1)) (O Y 0 0));have af:Hid (l.heap[w.heap.size+1]?=A (r9 #[I tF 2,I U 0,I U (T.u-1),O Y 0 0] 272 (0,0))):=by show _=_;rw[ad];exact vE b1.o _ _ _ _
   have ck:Hid (Gl w l):=by show Below _ _ _;rw[ad];exact oH cC.o (F3 _) _ _ _ _
   have y:Hid (MkW (fun b=>F b∨bf w1 W2 b) d M ts rs vars nm sal nv cs acs vT vR vV vC (O P acs.length Q) l):=by
    show MkW _ _ _ _ _ _ _ _ _ _ _ _ _ _ _ _ _
    rw[ad];refine ve b2.o (fun _ h=>wD h) (fun b j=>?_) (fun V=>by have:=bd.o _ V;omega) _ _ _ _;rcases j with j|j
    ·exact⟨(b2.o.f b j).1,(b2.o.f b j).2,by have:=cf.o b j;omega⟩
    ·have h1:=j.1;have h2:=cc.o;exact⟨j.2,fun V=>by have:=bd.o _ V;omega,by omega⟩
   obtain⟨a0,a1,a2,a3,a4⟩:=cells5 cR.o;obtain⟨e0,e1,e2,e3⟩:=rK b1.o;have f0:=ab b1.o;go_upto_region 10 with fail
   change xD _ _ _ _ (st4 W2 (w.heap.size+1) (I tF 2) (I U 0) (I U (T.u-1)) (O Y 0 0));rw[←ad];clear ad e0 e1 e2 e3 f0 a0 a1 a2 a3 a4;obtain⟨us,aq,cl⟩:=y.o.a;rw[HN.o]at aq;obtain⟨cm,cT⟩:=zz2 aq cl;have e0:l.cell? ⟨w.heap.size+1,0,Y⟩=A (I tF 2):=by rw[Gk _ _ _ _ _ _ af.o];rfl
   have e1:l.cell? ⟨w.heap.size+1,1,Y⟩=A (I U 0):=by rw[Gk _ _ _ _ _ _ af.o];rfl
   have e2:l.cell? ⟨w.heap.size+1,2,Y⟩=A (I U (T.u-1)):=by rw[Gk _ _ _ _ _ _ af.o];rfl
   have e3:l.cell? ⟨w.heap.size+1,3,Y⟩=A (O Y 0 0):=by rw[Gk _ _ _ _ _ _ af.o];rfl
   have b5:l.cell? ⟨M,7,Y⟩=A (O P S Q):=by rw[Gk _ _ _ _ _ _ y.o.m,←HN.o];rfl
   have hK:∀b,(b=M∨b=w.heap.size+1)→b<l.heap.size∧(O P S Q).ownBlock≠A b:=fun b j=>by
    rw[←HN.o];rcases j with rfl|rfl
    ·exact⟨y.o.lt,row_ne y.o.m y.o.a (by decide)⟩
    ·exact⟨(Fx.1 af.o).1,fun e=>by have:=ca.o _ e;omega⟩
   have cn:=Hd (jp (E:=272) (sz:=4) (row:=us++[I tF 2,I U 0,I U (T.u-1),O Y 0 0]) (K:=(fun b=>b=M∨b=w.heap.size+1)) hK);have E0:=fun x:Ks l (fun b=>b=M∨b=w.heap.size+1)=>x.h (wP Z) e0
   have E1:=fun x:Ks l (fun b=>b=M∨b=w.heap.size+1)=>x.h (wP Z) e1
   have E2:=fun x:Ks l (fun b=>b=M∨b=w.heap.size+1)=>x.h (wP Z) e2
   have E3:=fun x:Ks l (fun b=>b=M∨b=w.heap.size+1)=>x.h (wP Z) e3
   have M2:=fun x:Ks l (fun b=>b=M∨b=w.heap.size+1)=>x.h (wD Z) b5
   clear aq cl e0 e1 e2 e3 b5 hK;refine RE.u (by kernel_rfl) 9 [7,8] [8] (stA 272 4 l P S Q (us++[I tF 2,I U 0,I U (T.u-1),O Y 0 0])) (ApR l) (fun _ k=>k.getD 0 wF) (phA 272 4 l P S Q [I tF 2,I U 0,I U (T.u-1),O Y 0 0] (us++[I tF 2,I U 0,I U (T.u-1),O Y 0 0]) 7 8) (by kernel_rfl) (fun _ _ _ _ _ _ h j=>h.C j) (fun _ _ _ _ h _ hR=>h.t hR) stA.zero ?_;simp only[FO,FY,FQ,FX]
   repeat (refine RE.q (fun W=>∃x:Ks l (fun b=>b=M∨b=w.heap.size+1),W=x.1) (cn.o _) Z Z Z stA.zero ?_;go_big_quiet_step (fail);refine xL ?_)
   refine RE.h Z Z ?_ (fun cV=>?_)
   ·intro W D L q;obtain⟨s9,_,h9⟩:=D;exact dU i9 (vs:=[I tF 2,I U 0,I U (T.u-1),O Y 0 0]) _ Z Z Z h9.u (fun v W' j V=>⟨[v],Z,j,ApR.t j,V⟩)
   simp only[xS,FA,FM,FK];refine RE.h Z Z ?_ (fun bb=>?_)
   ·intro W D L q;obtain⟨x,rfl⟩:∃x:Wb l,W=x.1:=L Z;exact iF i9 (p:=P) (n:=S) (c:=Q) (w4:=l) (vs:=[I tF 2,I U 0,I U (T.u-1),O Y 0 0]) (xs:=us) _ _ Z Z (q 7 cV (by kernel_rfl) Z) Z (by simp[Value.oneCell']) x.2 cm.o (by omega) (fun v' W' h1 h2 h3=>⟨[v'],Z,h1,h2,h3⟩)
   simp only[xS,FA,FM,FK];refine RE.t ?_;intro W L q;have L:ApS 272 4 l P S Q (us++[I tF 2,I U 0,I U (T.u-1),O Y 0 0]) W:=L;have hV:ApV 272 4 l P S Q (us++[I tF 2,I U 0,I U (T.u-1),O Y 0 0]) W (bb.getD 0 wF):=q 8 bb Z;obtain⟨g',cap,s,C,D,bl⟩:=ju L hV;rw[s];have cp:Chg (fun b=>(O P acs.length Q).ownBlock=A b) l W:=by rw[HN.o];exact D
   have b6:(O P acs.length Q).ownBlock=A g'∨l.heap.size≤g':=by rw[HN.o];exact C
   have cq:(iU d).at_ l (fun b=>F b∨bf w1 W2 b) ⟨2,0,T.u-1,[]⟩ [I tF 2,I U 0,I U (T.u-1),O Y 0 0]:=qE.2 ⟨show U8 2 from ⟨by decide,by decide⟩,(show I64 0 from ⟨by decide,by decide⟩),⟨b3,b4⟩,O Y 0 0,Z,Rd.th⟩;obtain⟨cr,ct,b7⟩:=y.o.pushA HN.o cT.o cq b6 cp bl;have b5:W.cell? ⟨M,7,Y⟩=A (O P S Q):=by rw[Gk _ _ _ _ _ _ (b7.trans y.o.m),←HN.o];rfl
   have cW:=ax (b7.trans y.o.m) 7;have HP:Hid (iD F d M ts rs vars nm sal nv cs acs vT vR vV vC (O P acs.length Q) (xt ⟨2,0,T.u-1,[]⟩) w (wj (y9 #[])) (W.setCell ⟨M,7,Y⟩ (O (A ⟨g',0,Y⟩) (S+1) cap))):=by
    refine⟨dw (Chg.t ck.o) ct (fun x hx=>wD hx),Z,(fun b=>F b∨bf w1 W2 b),_,cr,fun b j=>?_,fun _ h=>wD h,fun b h=>h.imp id (fun h=>by have:=cc.o;have:=h.1;omega)⟩;injection j with j
    have j:g'=b:=j;subst j;rcases b6 with h|h
    ·exact wD h
    ·have:=ck.o.size;exact wP (by omega)
   clear L hV q s C D bl cp b6 cr ct b7 E0 E1 E2 E3 M2 cn cq;go_wp2_with fail
   go_end0
   rw[r.o];exact HP.o
def okN:Except Flt Nat→Nat
 | .ok k=>k
 | .error _=>0
def jR(a:Except Flt Nat) (r:Except Flt (List a8)):Except Flt dr:=match a with
 | .error e=>z6 e
 | .ok k=>match r with
  | .error e=>z6 e
  | .ok xs=>xt ⟨1,k,0,xs⟩
theorem Ay(F:Nat→Prop)(d M:Nat)(ts:List ay)(rs:List aK)(vars:List ByteArray)(nm:ByteArray)(sal nv:Int)(cs:List br)(acs:List dr)(vT vR vV vC vA:tT)(T:ac)(p:Option Addr)(n c:Nat)(L:Except Flt Nat)(r:Except Flt (List a8))(w:J)
  (hw:MkW F d M ts rs vars nm sal nv cs acs vT vR vV vC vA w) (hk:T.q=8) (cl:acs.length≤10000) (D:∀k,L=xt k→k≤10000)
  (bq:∀W,Gl w W→wg vo 156 #[vv (A ⟨M,0,Y⟩),xk #[I tF 8,tS T.h,I U T.u,I U T.t,O p n c]] W (oS L mh W))
  (hex:∀W,Gl w W→wg vo 159 #[vv (A ⟨M,0,Y⟩),O p n c] W (jA d r W)) :
  wg vo 131 #[vv (A ⟨M,0,Y⟩),xk #[I tF T.q,tS T.h,I U T.u,I U T.t,O p n c]] w (iD F d M ts rs vars nm sal nv cs acs vT vR vV vC vA (jR L r) w):=by
 rw[hk];obtain⟨N,P,cm⟩:=hw.a.q;subst cm;obtain⟨R,ar⟩:=zzy (acs.length);have HN:=Hd ar;rw[ar]at cl;obtain⟨w1,ad⟩:=zzx ((w.alloc (r9 #[I tF 8,tS T.h,I U T.u,I U T.t,O p n c] 145)).alloc (r9 #[I tF 4,I U 0,I U 0,O Y 0 0] 272));obtain⟨af,a1,_⟩:=aW w (r9 #[I tF 8,tS T.h,I U T.u,I U T.t,O p n c] 145) (r9 #[I tF 4,I U 0,I U 0,O Y 0 0] 272);have C:Gl w w1:=by rw[ad];exact ((Fz _ w).alloc (Fy _) _).alloc (by simp) _
 rw[←ad]at af a1;obtain⟨bt,aq,cV,a6,G,cn⟩:=zz6 (fun g hg=>hw.a.lt (g:=g) hg) (fun b j=>hw.h (b:=b) j) af a1 C (hw.C C);have ba:Hid (w.heap.size+2≤w1.heap.size):=by
  have h:=(Fx.1 a6.o).1
  show _≤_
  omega
 have bB:=Hd (fun b (j:F b)=>(hw.f b j).1);obtain⟨cp,cr⟩:=zz2 (fun (W:J) (h:Gl w1 W)=>bq W (C.trans (h.mono C.size))) (fun (W:J) (h:Gl w1 W)=>hex W (C.trans (h.mono C.size)));obtain⟨e0,e1,e2,e3,e4⟩:=cells5 af;obtain⟨t,bb⟩:∃t:Nat,t=okN L:=⟨_,rfl⟩;have bR:Hid (∀k,L=xt k→t=k):=fun k h=>by rw[bb,h];rfl
 have cW:t≤10000:=by
  rw[bb]
  cases L with
  | ok k=>exact D k Z
  | error e=>exact FR _
 clear af a1 C hw hk ar bq hex bb D
 go_enter Tryz.func131,Tryz.ntmps131
 go_upto_region 4 with fail
 change xD _ _ _ _ ((w.alloc (r9 #[I tF 8,tS T.h,I U T.u,I U T.t,O p n c] 145)).alloc (r9 #[I tF 4,I U 0,I U 0,O Y 0 0] 272));rw[←ad];clear ad;have E0:=fun x:Wb w1=>x.h e0
 have E1:=fun x:Wb w1=>x.h e1
 have E2:=fun x:Wb w1=>x.h e2
 have E3:=fun x:Wb w1=>x.h e3
 have E4:=fun x:Wb w1=>x.h e4
 refine RP.wp_region_effP (by kernel_rfl) 7 [2,6] [] (fun _ W=>∃x:Wb w1,W=x.1) (fun W W'=>Gl W W') (fun i ys=>if i=2 then mh t else ys.getD 0 wF) (fun i W ys=>if i=2 then (∃k,L=xt k) else if i=6 then (∃es,r=xt es∧jo w1 d es W (ys.getD 0 wF)) else True)
  (fun ch W=>Gl w W∧∃er,jR L r=z6 er∧Ending.panicked ch=aJ er.1 er.2) ?_ (by kernel_rfl) (fun _ _ _ _ _ _ h j=>cY h j) (fun i W W' ys h _ j=>by
   split at h
   ·rw[oE (by assumption)];exact h
   ·rw[oB (by assumption)]
    split at h
    ·rw[oE (by assumption)];obtain⟨es,h1,h2⟩:=h;exact⟨es,h1,h2.C j⟩
    ·rw[oB (by assumption)];trivial) ⟨⟨w1.drew,(Fz _ _).drew⟩,Z⟩ ?_
 ·rintro a ch W hd ⟨j,er,h1,h2⟩;refine⟨hd,Chg.t j,?_⟩;rw[h1];exact h2
 simp only[FO,FY,FQ,FX]
 repeat (refine RP.q (fun W=>∃x:Wb w1,W=x.1) (fun _ _ _ h=>h) Z Z Z ⟨⟨w1.drew,(Fz _ _).drew⟩,Z⟩ ?_;go_big_quiet_step (fail);refine xL ?_)
 refine RP.h Z Z ?_ (fun b0=>?_)
 ·intro W hC _ Q;obtain⟨s9,_,x,rfl⟩:=hC;refine RP.uponP_call 156 _ _ Z (enters_of Tryz.func156 (by kernel_rfl) Z) #[vv (A ⟨M,0,Y⟩),xk #[I tF 8,tS T.h,I U T.u,I U T.t,O p n c]] (by simp[Act.eval]) ((cp.o x.1 x.2).mono ?_);rintro e W' ⟨j,he⟩
  cases D:L with
  | error er =>
   rw[D]at he;have he:e=aJ er.1 er.2:=he;subst he;exact wP ⟨_,Z,G.o.trans ((x.2.trans (j.mono x.2.size)).mono G.o.size),er,Z,Z⟩
  | ok k =>
   rw[D]at he;have he:e=wj (mh k):=he;subst he;exact wD ⟨_,Z,[],by show mh k=mh t;rw[bR.o k D],j,j,k,Z⟩
 simp only[xS,FA,FM,FK,Nat.reduceAdd,↓reduceIte,mh]
 repeat (refine RP.q (fun W=>∃x:Wb w1,W=x.1) (fun _ _ _ h=>h) Z Z Z ⟨⟨w1.drew,(Fz _ _).drew⟩,Z⟩ ?_;go_big_quiet_step (fail);refine xL ?_)
 refine RP.h Z Z ?_ (fun b1=>?_)
 ·intro W hC _ Q;obtain⟨s9,_,x,rfl⟩:=hC;have ct:∃k,L=xt k:=Q 2 b0 (by kernel_rfl) Z;refine RP.uponP_call 159 _ _ Z (enters_of Tryz.func159 (by kernel_rfl) Z) #[vv (A ⟨M,0,Y⟩),O p n c] (by simp[Act.eval]) ((cr.o x.1 x.2).mono ?_);rintro e W' ⟨j,he⟩;obtain⟨k,hk⟩:=ct
  cases hr:r with
  | error er =>
   rw[hr]at he;have he:e=aJ er.1 er.2:=he;subst he;exact wP ⟨_,Z,G.o.trans ((x.2.trans (j.mono x.2.size)).mono G.o.size),er,by rw[hk];rfl,Z⟩
  | ok es =>
   rw[hr]at he;obtain⟨v,rfl,l,cu⟩:=he;exact wD ⟨_,Z,[v],Z,j,j,es,Z,jo.of x.2.size l cu⟩
 simp only[xS,FA,FM,FK,Nat.reduceAdd,Nat.reduceEqDiff,↓reduceIte]
 repeat (refine RP.q (fun W=>∃x:Wb w1,W=x.1) (fun _ _ _ h=>h) Z Z Z ⟨⟨w1.drew,(Fz _ _).drew⟩,Z⟩ ?_;go_big_quiet_step (fail);refine wpQuiet_nil ?_)
 refine RP.t ?_;intro W hS Q;obtain⟨x,rfl⟩:=hS;obtain⟨k,hk⟩:∃k,L=xt k:=Q 2 b0 Z;obtain⟨xs,b2,l⟩:∃es,r=xt es∧jo w1 d es x.1 (b1.getD 0 wF):=Q 6 b1 Z;obtain⟨q,z,hv⟩:=Rd.q l;obtain⟨u,b3⟩:=zzy (xs.length);rw[b3]at hv;rw[hv];rw[hv]at l;have b4:Hid (jR L r=xt ⟨1,t,0,xs⟩):=by show _=_;rw[hk,b2,bR.o k hk];rfl
 obtain⟨W2,b5⟩:=zzx (x.1);have S:=x.2;rw[←b5]at l S ⊢;have cv:Hid ((bM d).h W2 (bf w1 W2) xs (O q u z)):=l;obtain⟨cy,bd,bk⟩:=zz3 (G.o.trans (S.mono G.o.size)) (aa S a6.o (Fx.1 a6.o).1) (cn.o.C S);clear l Q hv b2 hk E0 E1 E2 E3 E4 e0 e1 e2 e3 e4 b3 S b5 x;obtain⟨s,H⟩:=zzx (st4 W2 (w.heap.size+1) (I tF 1) (I U (t:Int)) (I U 0) (O q u z));have V:Hid (s.heap[w.heap.size+1]?=A (r9 #[I tF 1,I U (t:Int),I U 0,O q u z] 272 (0,0))):=by show _=_;rw[H];exact vE bd.o _ _ _ _
 have b6:Hid (Gl w s):=by show Below _ _ _;rw[H];exact oH cy.o (F3 _) _ _ _ _
 have y:Hid (MkW (fun b=>F b∨bf w1 W2 b) d M ts rs vars nm sal nv cs acs vT vR vV vC (O N acs.length P) s):=by
  show MkW _ _ _ _ _ _ _ _ _ _ _ _ _ _ _ _ _
  rw[H];refine ve bk.o (fun _ h=>wD h) (fun b j=>?_) (fun ho=>by have:=aq.o _ ho;omega) _ _ _ _;rcases j with j|j
  ·exact⟨(bk.o.f b j).1,(bk.o.f b j).2,by have:=bB.o b j;omega⟩
  ·have h1:=j.1;have h2:=ba.o;exact⟨j.2,fun ho=>by have:=aq.o _ ho;omega,by omega⟩
 have cC:Hid ((bM d).h s (fun b=>F b∨bf w1 W2 b) xs (O q u z)):=by
  show (bM d).h _ _ _ _
  rw[H];exact Rd.sv (fun _ h=>wP h) (Rd.sb (fun b j o ho=>(oL _ _ _ _ b (by have:=j.1;have:=ba.o;omega)).trans ho) cv.o)
 obtain⟨e0,e1,e2,e3⟩:=rK bd.o;have f0:=ab bd.o;go_upto_region 10 with fail
 change xD _ _ _ _ (st4 W2 (w.heap.size+1) (I tF 1) (I U (t:Int)) (I U 0) (O q u z));rw[←H];clear H e0 e1 e2 e3 f0;obtain⟨us,X,b7⟩:=y.o.a;rw[HN.o]at X;obtain⟨b8,cR⟩:=zz2 X b7;have e0:s.cell? ⟨w.heap.size+1,0,Y⟩=A (I tF 1):=by rw[Gk _ _ _ _ _ _ V.o];rfl
 have e1:s.cell? ⟨w.heap.size+1,1,Y⟩=A (I U (t:Int)):=by rw[Gk _ _ _ _ _ _ V.o];rfl
 have e2:s.cell? ⟨w.heap.size+1,2,Y⟩=A (I U 0):=by rw[Gk _ _ _ _ _ _ V.o];rfl
 have e3:s.cell? ⟨w.heap.size+1,3,Y⟩=A (O q u z):=by rw[Gk _ _ _ _ _ _ V.o];rfl
 have bl:s.cell? ⟨M,7,Y⟩=A (O N R P):=by rw[Gk _ _ _ _ _ _ y.o.m,←HN.o];rfl
 have hK:∀b,(b=M∨b=w.heap.size+1)→b<s.heap.size∧(O N R P).ownBlock≠A b:=fun b j=>by
  rw[←HN.o];rcases j with rfl|rfl
  ·exact⟨y.o.lt,row_ne y.o.m y.o.a (by decide)⟩
  ·exact⟨(Fx.1 V.o).1,fun e=>by have:=bt.o _ e;omega⟩
 have b9:=Hd (jp (E:=272) (sz:=4) (row:=us++[I tF 1,I U (t:Int),I U 0,O q u z]) (K:=(fun b=>b=M∨b=w.heap.size+1)) hK);have E0:=fun x:Ks s (fun b=>b=M∨b=w.heap.size+1)=>x.h (wP Z) e0
 have E1:=fun x:Ks s (fun b=>b=M∨b=w.heap.size+1)=>x.h (wP Z) e1
 have E2:=fun x:Ks s (fun b=>b=M∨b=w.heap.size+1)=>x.h (wP Z) e2
 have E3:=fun x:Ks s (fun b=>b=M∨b=w.heap.size+1)=>x.h (wP Z) e3
 have M2:=fun x:Ks s (fun b=>b=M∨b=w.heap.size+1)=>x.h (wD Z) bl
 clear X b7 e0 e1 e2 e3 bl hK;refine RE.u (by kernel_rfl) 9 [7,8] [8] (stA 272 4 s N R P (us++[I tF 1,I U (t:Int),I U 0,O q u z])) (ApR s) (fun _ ys=>ys.getD 0 wF) (phA 272 4 s N R P [I tF 1,I U (t:Int),I U 0,O q u z] (us++[I tF 1,I U (t:Int),I U 0,O q u z]) 7 8) (by kernel_rfl) (fun _ _ _ _ _ _ h j=>h.C j) (fun _ _ _ _ h _ hR=>h.t hR) stA.zero ?_;simp only[FO,FY,FQ,FX]
 repeat (refine RE.q (fun W=>∃x:Ks s (fun b=>b=M∨b=w.heap.size+1),W=x.1) (b9.o _) Z Z Z stA.zero ?_;go_big_quiet_step (fail);refine xL ?_)
 refine RE.h Z Z ?_ (fun cT=>?_)
 ·intro W hC hS Q;obtain⟨s9,_,h9⟩:=hC;exact dU i9 (vs:=[I tF 1,I U (t:Int),I U 0,O q u z]) _ Z Z Z h9.u (fun v W' j ho=>⟨[v],Z,j,ApR.t j,ho⟩)
 simp only[xS,FA,FM,FK];refine RE.h Z Z ?_ (fun ca=>?_)
 ·intro W hC hS Q;obtain⟨x,rfl⟩:∃x:Wb s,W=x.1:=hS Z;exact iF i9 (p:=N) (n:=R) (c:=P) (w4:=s) (vs:=[I tF 1,I U (t:Int),I U 0,O q u z]) (xs:=us) _ _ Z Z (Q 7 cT (by kernel_rfl) Z) Z (by simp[Value.oneCell']) x.2 b8.o (by omega) (fun v' W' h1 h2 h3=>⟨[v'],Z,h1,h2,h3⟩)
 simp only[xS,FA,FM,FK];refine RE.t ?_;intro W hS Q;have hS:ApS 272 4 s N R P (us++[I tF 1,I U (t:Int),I U 0,O q u z]) W:=hS;have hV:ApV 272 4 s N R P (us++[I tF 1,I U (t:Int),I U 0,O q u z]) W (ca.getD 0 wF):=Q 8 ca Z;obtain⟨g',cap,eg,hg,hC,l⟩:=ju hS hV;rw[eg];have cb:Chg (fun b=>(O N acs.length P).ownBlock=A b) s W:=by rw[HN.o];exact hC
 have bm:(O N acs.length P).ownBlock=A g'∨s.heap.size≤g':=by rw[HN.o];exact hg
 have cc:(iU d).at_ s (fun b=>F b∨bf w1 W2 b) ⟨1,(t:Int),0,xs⟩ [I tF 1,I U (t:Int),I U 0,O q u z]:=qE.2 ⟨show U8 1 from ⟨by decide,by decide⟩,⟨by show (-9223372036854775808:Int)≤(t:Int);omega,by show (t:Int)<9223372036854775808;omega⟩,(show I64 0 from ⟨by decide,by decide⟩),O q u z,Z,cC.o⟩;obtain⟨cf,ck,bn⟩:=y.o.pushA HN.o cR.o cc bm cb l;have bl:W.cell? ⟨M,7,Y⟩=A (O N R P):=by rw[Gk _ _ _ _ _ _ (bn.trans y.o.m),←HN.o];rfl
 have c0:=ax (bn.trans y.o.m) 7;have HP:Hid (iD F d M ts rs vars nm sal nv cs acs vT vR vV vC (O N acs.length P) (xt ⟨1,(t:Int),0,xs⟩) w (wj (y9 #[])) (W.setCell ⟨M,7,Y⟩ (O (A ⟨g',0,Y⟩) (R+1) cap))):=by
  refine⟨dw (Chg.t b6.o) ck (fun x hx=>wD hx),Z,(fun b=>F b∨bf w1 W2 b),_,cf,fun b j=>?_,fun _ h=>wD h,fun b h=>h.imp id (fun h=>by have:=ba.o;have:=h.1;omega)⟩;injection j with j
  have j:g'=b:=j;subst j;rcases bm with h|h
  ·exact wD h
  ·have:=b6.o.size;exact wP (by omega)
 clear hS hV Q eg hg hC l cb bm cf ck bn E0 E1 E2 E3 M2 b9 cc;go_wp2_with fail
 go_end0
 rw[b4.o];exact HP.o
theorem mq:Elem 168 156 10 120:=Elem.of (z:=xk #[I tF 0,I U 0,O Y 0 0,I tF 0,I tF 0,I U 0,tS ByteArray.empty,I U 0,I tF 0,O Y 0 0]) Tryz.underlying156 (by kernel_rfl) (by kernel_rfl) (by decide) (by decide)
def kV(F:Nat→Prop) (d M:Nat) (ts:List ay) (rs:List aK) (nm:ByteArray) (sal nv:Int) (cs:List br) (acs:List dr) (vT vR vV vC vA:tT) (r:Except Flt (List ByteArray×br)) (w:J) (e:Ending) (w':J):Prop:=
 Chg (aZ M [vT,vR,vV,vC,vA]) w w'∧match r with
 | .ok x=>e=wj (xv true)∧∃(F':Nat→Prop) (a c:tT),MkW F' d M ts rs x.1 nm sal nv (cs++[x.2]) acs vT vR a c vA w'∧Grew vV a w.heap.size∧Grew vC c w.heap.size∧(∀b,F b→F' b)∧∀b,F' b→F b∨w.heap.size≤b
 | .error er=>e=aJ er.1 er.2
def oo(W:J) (g:Nat) (x0 x1 x2 x3 x4 x5 x6 x7 x8 x9:tT):World:=(((((((((W.setCell ⟨g,0,Y⟩ x0).setCell ⟨g,1,Y⟩ x1).setCell ⟨g,2,Y⟩ x2).setCell ⟨g,3,Y⟩ x3).setCell ⟨g,4,Y⟩ x4).setCell ⟨g,5,Y⟩ x5).setCell ⟨g,6,Y⟩ x6).setCell ⟨g,7,Y⟩ x7).setCell ⟨g,8,Y⟩ x8).setCell ⟨g,9,Y⟩ x9
section
variable {W w:J} {g B:Nat} (x0 x1 x2 x3 x4 x5 x6 x7 x8 x9:tT)
theorem DR{l k j i f e d c b a:tT}{t:zs}(h:W.heap[g]?=A (r9 #[l,k,j,i,f,e,d,c,b,a] t (0,0))):(oo W g x0 x1 x2 x3 x4 x5 x6 x7 x8 x9).heap[g]?=A (r9 #[x0,x1,x2,x3,x4,x5,x6,x7,x8,x9] t (0,0)):=by
 have m:(W.setCell ⟨g,0,Y⟩ x0).heap[g]?=A (r9 #[x0,k,j,i,f,e,d,c,b,a] t (0,0)):=heap_set h 0 x0;have n:((W.setCell ⟨g,0,Y⟩ x0).setCell ⟨g,1,Y⟩ x1).heap[g]?=A (r9 #[x0,x1,j,i,f,e,d,c,b,a] t (0,0)):=heap_set m 1 x1;have o:(((W.setCell ⟨g,0,Y⟩ x0).setCell ⟨g,1,Y⟩ x1).setCell ⟨g,2,Y⟩ x2).heap[g]?=A (r9 #[x0,x1,x2,i,f,e,d,c,b,a] t (0,0)):=heap_set n 2 x2;have p:((((W.setCell ⟨g,0,Y⟩ x0).setCell ⟨g,1,Y⟩ x1).setCell ⟨g,2,Y⟩ x2).setCell ⟨g,3,Y⟩ x3).heap[g]?=A (r9 #[x0,x1,x2,x3,f,e,d,c,b,a] t (0,0)):=heap_set o 3 x3;have q:(((((W.setCell ⟨g,0,Y⟩ x0).setCell ⟨g,1,Y⟩ x1).setCell ⟨g,2,Y⟩ x2).setCell ⟨g,3,Y⟩ x3).setCell ⟨g,4,Y⟩ x4).heap[g]?=A (r9 #[x0,x1,x2,x3,x4,e,d,c,b,a] t (0,0)):=heap_set p 4 x4;have r:((((((W.setCell ⟨g,0,Y⟩ x0).setCell ⟨g,1,Y⟩ x1).setCell ⟨g,2,Y⟩ x2).setCell ⟨g,3,Y⟩ x3).setCell ⟨g,4,Y⟩ x4).setCell ⟨g,5,Y⟩ x5).heap[g]?=A (r9 #[x0,x1,x2,x3,x4,x5,d,c,b,a] t (0,0)):=heap_set q 5 x5;have s:(((((((W.setCell ⟨g,0,Y⟩ x0).setCell ⟨g,1,Y⟩ x1).setCell ⟨g,2,Y⟩ x2).setCell ⟨g,3,Y⟩ x3).setCell ⟨g,4,Y⟩ x4).setCell ⟨g,5,Y⟩ x5).setCell ⟨g,6,Y⟩ x6).heap[g]?=A (r9 #[x0,x1,x2,x3,x4,x5,x6,c,b,a] t (0,0)):=heap_set r 6 x6;have u:((((((((W.setCell ⟨g,0,Y⟩ x0).setCell ⟨g,1,Y⟩ x1).setCell ⟨g,2,Y⟩ x2).setCell ⟨g,3,Y⟩ x3).setCell ⟨g,4,Y⟩ x4).setCell ⟨g,5,Y⟩ x5).setCell ⟨g,6,Y⟩ x6).setCell ⟨g,7,Y⟩ x7).heap[g]?=A (r9 #[x0,x1,x2,x3,x4,x5,x6,x7,b,a] t (0,0)):=heap_set s 7 x7;have v:(((((((((W.setCell ⟨g,0,Y⟩ x0).setCell ⟨g,1,Y⟩ x1).setCell ⟨g,2,Y⟩ x2).setCell ⟨g,3,Y⟩ x3).setCell ⟨g,4,Y⟩ x4).setCell ⟨g,5,Y⟩ x5).setCell ⟨g,6,Y⟩ x6).setCell ⟨g,7,Y⟩ x7).setCell ⟨g,8,Y⟩ x8).heap[g]?=A (r9 #[x0,x1,x2,x3,x4,x5,x6,x7,x8,a] t (0,0)):=heap_set u 8 x8;have x:((((((((((W.setCell ⟨g,0,Y⟩ x0).setCell ⟨g,1,Y⟩ x1).setCell ⟨g,2,Y⟩ x2).setCell ⟨g,3,Y⟩ x3).setCell ⟨g,4,Y⟩ x4).setCell ⟨g,5,Y⟩ x5).setCell ⟨g,6,Y⟩ x6).setCell ⟨g,7,Y⟩ x7).setCell ⟨g,8,Y⟩ x8).setCell ⟨g,9,Y⟩ x9).heap[g]?=A (r9 #[x0,x1,x2,x3,x4,x5,x6,x7,x8,x9] t (0,0)):=heap_set v 9 x9;exact x
theorem zE(b:Below B w W)(a:B≤g):Below B w (oo W g x0 x1 x2 x3 x4 x5 x6 x7 x8 x9):=
 (((((((((b.setCell a x0).setCell a x1).setCell a x2).setCell a x3).setCell a x4).setCell a x5).setCell a x6).setCell a x7).setCell a x8).setCell a x9
theorem rB(k:Nat)(h:k≠g):(oo W g x0 x1 x2 x3 x4 x5 x6 x7 x8 x9).heap[k]?=W.heap[k]?:=by
 have a:∀(V:J) (i:Nat) (u:tT),(V.setCell ⟨g,i,Y⟩ u).heap[k]?=V.heap[k]?:=fun V i u=>FC V ⟨g,i,Y⟩ u k h
 unfold oo;rw[a,a,a,a,a,a,a,a,a,a]
theorem Aj:(oo W g x0 x1 x2 x3 x4 x5 x6 x7 x8 x9).heap.size=W.heap.size:=by simp[oo,World.setCell]
end
theorem mg{w:J}{T:Nat}{a b c d e f g h i j:tT}{t:zs}(k:w.heap[T]?=A (r9 #[a,b,c,d,e,f,g,h,i,j] t (0,0))):w.cell? ⟨T,0,Y⟩=A a∧w.cell? ⟨T,1,Y⟩=A b∧w.cell? ⟨T,2,Y⟩=A c∧w.cell? ⟨T,3,Y⟩=A d∧w.cell? ⟨T,4,Y⟩=A e∧w.cell? ⟨T,5,Y⟩=A f∧w.cell? ⟨T,6,Y⟩=A g∧w.cell? ⟨T,7,Y⟩=A h∧w.cell? ⟨T,8,Y⟩=A i∧w.cell? ⟨T,9,Y⟩=A j:=by simp[World.cell?,k]
theorem dR{w:J}{T:Nat}{cs:Array tT}{t:zs}(a:w.heap[T]?=A (r9 cs t (0,0))):∀i:Nat,w.frozen? ⟨T,i,Y⟩=false:=fun i=>ax a i
theorem Br(F:Nat→Prop)(d M:Nat)(ts:List ay)(rs:List aK)(vars:List ByteArray)(nm:ByteArray)(sal nv:Int)(cs:List br)(acs:List dr)(vT vR vV vC vA:tT)(T:ac)(p:Option Addr)(n c:Nat)(w:J)
  (hw:MkW F d M ts rs vars nm sal nv cs acs vT vR vV vC vA w) (b:T.q≠5∧T.q≠6∧T.q≠7) :
  wg vo 130 #[vv (A ⟨M,0,Y⟩),xk #[I tF T.q,tS T.h,I U T.u,I U T.t,O p n c]] w (fun e w'=>e=wj (xv false)∧Gl w w'∧MkW F d M ts rs vars nm sal nv cs acs vT vR vV vC vA w'):=by
 have i:¬((T.q:Int)=5):=by have:=b.1;omega
 have j:¬((T.q:Int)=6):=by have:=b.2.1;omega
 have k:¬((T.q:Int)=7):=by have:=b.2.2;omega
 have a:Gl w ((w.alloc (r9 #[I tF T.q,tS T.h,I U T.u,I U T.t,O p n c] 145)).alloc (r9 #[I tF 0,I U 0,O Y 0 0,I tF 0,I tF 0,I U 0,tS ⟨#[]⟩,I U 0,I tF 0,O Y 0 0] 168)):=((Fz _ w).alloc (Fy _) _).alloc (by simp) _;obtain⟨f,h⟩:=zz2 a (hw.C a);clear a hw b
 go_enter Tryz.func130,Tryz.ntmps130
 go_wp2_with fail
 go_ret;exact⟨Z,f.o,h.o⟩
theorem AL{w:J}{F G:Nat→Prop}{d:Nat}{ks:List a8}{s:tT}(a:∀b,F b→G b)(h:fu w F d ks s):fu w G d ks s:=by
 cases d with
 | zero=>exact h
 | succ d=>exact Rd.sv a h
theorem yP{w w':J}{F:Nat→Prop}{d:Nat}{ks:List a8}{s:tT}(a:∀b,F b→∀o,w.heap[b]?=A o→w'.heap[b]?=A o)(h:fu w F d ks s):fu w' F d ks s:=by
 cases d with
 | zero=>exact h
 | succ d=>exact Rd.sb a h
def jG(vars:List ByteArray) (r:Except Flt a8):Except Flt (List ByteArray×br):=match r with
 | .error e=>z6 e
 | .ok x=>xt (vars,⟨3,0,[],x⟩)
theorem zG(F:Nat→Prop)(d M:Nat)(ts:List ay)(rs:List aK)(vars:List ByteArray)(nm:ByteArray)(sal nv:Int)(cs:List br)(acs:List dr)(vT vR vV vC vA:tT)(T K:ac)(b off c:Nat)(s:tT)(r:Except Flt a8)(n:Nat)(w:J)
  (hw:MkW F d M ts rs vars nm sal nv cs acs vT vR vV vC vA w) (hk:T.q=7) (b7:cs.length≤10000) (hn:0<n)
  (c0:w.cell? ⟨b,off,Y⟩=A (I tF K.q)) (c1:w.cell? ⟨b,off+1,Y⟩=A (tS K.h)) (c2:w.cell? ⟨b,off+2,Y⟩=A (I U K.u)) (c3:w.cell? ⟨b,off+3,Y⟩=A (I U K.t)) (c4:w.cell? ⟨b,off+4,Y⟩=A s)
  (hex:∀W,Gl w W→wg vo 158 #[vv (A ⟨M,0,Y⟩),xk #[I tF K.q,tS K.h,I U K.u,I U K.t,s]] W (dK d r W)) :
  wg vo 130 #[vv (A ⟨M,0,Y⟩),xk #[I tF T.q,tS T.h,I U T.u,I U T.t,O (A ⟨b,off,Y⟩) n c]] w (kV F d M ts rs nm sal nv cs acs vT vR vV vC vA (jG vars r) w):=by
 rw[hk];obtain⟨y,z,b8⟩:=hw.c.q;subst b8;obtain⟨C,V⟩:=zzy (cs.length);have X:=Hd V;rw[V]at b7;obtain⟨w1,G⟩:=zzx ((w.alloc (r9 #[I tF 7,tS T.h,I U T.u,I U T.t,O (A ⟨b,off,Y⟩) n c] 145)).alloc (r9 #[I tF 0,I U 0,O Y 0 0,I tF 0,I tF 0,I U 0,tS ⟨#[]⟩,I U 0,I tF 0,O Y 0 0] 168));obtain⟨H,ad,_⟩:=aW w (r9 #[I tF 7,tS T.h,I U T.u,I U T.t,O (A ⟨b,off,Y⟩) n c] 145) (r9 #[I tF 0,I U 0,O Y 0 0,I tF 0,I tF 0,I U 0,tS ⟨#[]⟩,I U 0,I tF 0,O Y 0 0] 168);have k:Gl w w1:=by rw[G];exact ((Fz _ w).alloc (Fy _) _).alloc (by simp) _
 rw[←G]at H ad;obtain⟨bb,Q⟩:=zz2 (fun g hg=>hw.c.lt (g:=g) hg) (fun b i=>hw.h (b:=b) i);have bd:=Hd (fun b (i:F b)=>(hw.f b i).1);obtain⟨ch,af,bk,b9⟩:=zz4 H ad k (hw.C k);have L:Hid (w.heap.size+2≤w1.heap.size):=by
  have h:=(Fx.1 af.o).1
  show _≤_
  omega
 have HC:=Hd (hex w1 k);obtain⟨e0,e1,e2,e3,e4⟩:=cells5 H;have d0:=(k.cell (p:=⟨b,off,Y⟩) (fx c0)).trans c0;have d1:=(k.cell (p:=⟨b,off+1,Y⟩) (fx c1)).trans c1;have d2:=(k.cell (p:=⟨b,off+2,Y⟩) (fx c2)).trans c2;have d3:=(k.cell (p:=⟨b,off+3,Y⟩) (fx c3)).trans c3;have d4:=(k.cell (p:=⟨b,off+4,Y⟩) (fx c4)).trans c4;have ck:(0:Int)<n:=by omega
 clear H ad k hw hk hex V c0 c1 c2 c3 c4
 go_enter Tryz.func130,Tryz.ntmps130
 go_upto_region 16 with fail
 change xD _ _ _ _ ((w.alloc (r9 #[I tF 7,tS T.h,I U T.u,I U T.t,O (A ⟨b,off,Y⟩) n c] 145)).alloc (r9 #[I tF 0,I U 0,O Y 0 0,I tF 0,I tF 0,I U 0,tS ⟨#[]⟩,I U 0,I tF 0,O Y 0 0] 168));rw[←G];clear G;go_wp2_with fail
 refine HC.o.mono ?_;rintro e W2 ⟨N,he⟩;obtain⟨bl,aq,bm⟩:=zz3 (bk.o.trans (N.mono bk.o.size)) (aa N af.o (Fx.1 af.o).1) (b9.o.C N);clear e0 e1 e2 e3 e4 d0 d1 d2 d3 d4 N
 cases r with
 | error er =>
  have he:e=aJ er.1 er.2:=he;subst he;exact⟨Z,Chg.t bl.o,Z⟩
 | ok E =>
 obtain⟨v,rfl,R,ar⟩:=he;obtain⟨q,t,hv⟩:=fM ar;obtain⟨nq,bn⟩:=zzy (E.z.length);rw[bn]at hv;subst hv;have bq:=Hd R;have bt:Hid (jG vars (xt E)=xt (vars,⟨3,0,[],E⟩)):=rfl;obtain⟨a,u⟩:=zzx (oo W2 (w.heap.size+1) (I tF 3) (I U 0) (O Y 0 0) (I tF E.q) (I tF E.h.q) (I U E.h.u) (tS E.h.h) (I U E.t) (I tF E.op) (O q nq t));have j:Hid (a.heap[w.heap.size+1]?=A (r9 #[I tF 3,I U 0,O Y 0 0,I tF E.q,I tF E.h.q,I U E.h.u,tS E.h.h,I U E.t,I tF E.op,O q nq t] 168 (0,0))):=by show _=_;rw[u];exact DR _ _ _ _ _ _ _ _ _ _ aq.o
 have bB:Hid (Gl w a):=by show Below _ _ _;rw[u];exact zE _ _ _ _ _ _ _ _ _ _ bl.o (F3 _)
 have ca:Hid (w.heap.size≤a.heap.size):=bB.o.size;have cb:Hid (fu a (fun b=>F b∨bf w1 W2 b) d E.z (O q nq t)):=by
  show fu _ _ _ _ _
  rw[u];exact AL (fun _ h=>wP h) (yP (fun b i o ho=>(rB _ _ _ _ _ _ _ _ _ _ b (by have:=i.1;have:=L.o;omega)).trans ho) ar)
 have l:Hid (MkW (fun b=>F b∨bf w1 W2 b) d M ts rs vars nm sal nv cs acs vT vR vV (O y cs.length z) vA a):=by
  show MkW _ _ _ _ _ _ _ _ _ _ _ _ _ _ _ _ _
  rw[u];refine (bm.o.grow (F':=(fun b=>F b∨bf w1 W2 b)) (fun _ h=>wD h) (fun b i=>?_)).upd (by rw[Aj];exact Fy _) (fun x P=>rB _ _ _ _ _ _ _ _ _ _ x ?_)
  ·rcases i with i|i
   ·exact bm.o.f b i
   ·have h1:=i.1;have h2:=L.o;exact⟨i.2,fun ho=>by have:=Q.o _ ho;omega⟩
  ·rcases P with (P|P)|P
   ·have:=bd.o x P;omega
   ·have h1:=P.1;have h2:=L.o;omega
   ·have:=Q.o _ P;omega
 obtain⟨e0,e1,e2,e3,e4,e5,e6,e7,e8,e9⟩:=mg aq.o;have f0:=dR aq.o;clear R ar bn;go_upto_region 17 with fail
 change xD _ _ _ _ (oo W2 (w.heap.size+1) (I tF 3) (I U 0) (O Y 0 0) (I tF E.q) (I tF E.h.q) (I U E.h.u) (tS E.h.h) (I U E.t) (I tF E.op) (O q nq t));rw[←u];clear u e0 e1 e2 e3 e4 e5 e6 e7 e8 e9 f0;obtain⟨us,D,bR⟩:=l.o.c;rw[X.o,lh]at D;obtain⟨b0,cc⟩:=zz2 D bR;have e0:a.cell? ⟨w.heap.size+1,0,Y⟩=A (I tF 3):=by rw[Gk _ _ _ _ _ _ j.o];rfl
 have e1:a.cell? ⟨w.heap.size+1,1,Y⟩=A (I U 0):=by rw[Gk _ _ _ _ _ _ j.o];rfl
 have e2:a.cell? ⟨w.heap.size+1,2,Y⟩=A (O Y 0 0):=by rw[Gk _ _ _ _ _ _ j.o];rfl
 have e3:a.cell? ⟨w.heap.size+1,3,Y⟩=A (I tF E.q):=by rw[Gk _ _ _ _ _ _ j.o];rfl
 have e4:a.cell? ⟨w.heap.size+1,4,Y⟩=A (I tF E.h.q):=by rw[Gk _ _ _ _ _ _ j.o];rfl
 have e5:a.cell? ⟨w.heap.size+1,5,Y⟩=A (I U E.h.u):=by rw[Gk _ _ _ _ _ _ j.o];rfl
 have e6:a.cell? ⟨w.heap.size+1,6,Y⟩=A (tS E.h.h):=by rw[Gk _ _ _ _ _ _ j.o];rfl
 have e7:a.cell? ⟨w.heap.size+1,7,Y⟩=A (I U E.t):=by rw[Gk _ _ _ _ _ _ j.o];rfl
 have e8:a.cell? ⟨w.heap.size+1,8,Y⟩=A (I tF E.op):=by rw[Gk _ _ _ _ _ _ j.o];rfl
 have e9:a.cell? ⟨w.heap.size+1,9,Y⟩=A (O q nq t):=by rw[Gk _ _ _ _ _ _ j.o];rfl
 have a1:a.cell? ⟨M,6,Y⟩=A (O y C z):=by rw[Gk _ _ _ _ _ _ l.o.m,←X.o];rfl
 have hK:∀b,(b=M∨b=w.heap.size+1)→b<a.heap.size∧(O y C z).ownBlock≠A b:=fun b i=>by
  rw[←X.o];rcases i with rfl|rfl
  ·exact⟨l.o.lt,row_ne l.o.m l.o.c (by decide)⟩
  ·exact⟨(Fx.1 j.o).1,fun e=>by have:=bb.o _ e;omega⟩
 have b1:=Hd (jp (E:=168) (sz:=10) (row:=us++[I tF 3,I U 0,O Y 0 0,I tF E.q,I tF E.h.q,I U E.h.u,tS E.h.h,I U E.t,I tF E.op,O q nq t]) (K:=(fun b=>b=M∨b=w.heap.size+1)) hK);have E0:=fun x:Ks a (fun b=>b=M∨b=w.heap.size+1)=>x.h (wP Z) e0
 have E1:=fun x:Ks a (fun b=>b=M∨b=w.heap.size+1)=>x.h (wP Z) e1
 have E2:=fun x:Ks a (fun b=>b=M∨b=w.heap.size+1)=>x.h (wP Z) e2
 have E3:=fun x:Ks a (fun b=>b=M∨b=w.heap.size+1)=>x.h (wP Z) e3
 have E4:=fun x:Ks a (fun b=>b=M∨b=w.heap.size+1)=>x.h (wP Z) e4
 have E5:=fun x:Ks a (fun b=>b=M∨b=w.heap.size+1)=>x.h (wP Z) e5
 have E6:=fun x:Ks a (fun b=>b=M∨b=w.heap.size+1)=>x.h (wP Z) e6
 have E7:=fun x:Ks a (fun b=>b=M∨b=w.heap.size+1)=>x.h (wP Z) e7
 have E8:=fun x:Ks a (fun b=>b=M∨b=w.heap.size+1)=>x.h (wP Z) e8
 have E9:=fun x:Ks a (fun b=>b=M∨b=w.heap.size+1)=>x.h (wP Z) e9
 have M2:=fun x:Ks a (fun b=>b=M∨b=w.heap.size+1)=>x.h (wD Z) a1
 clear D bR e0 e1 e2 e3 e4 e5 e6 e7 e8 e9 a1 hK;refine RE.u (by kernel_rfl) 9 [7,8] [8] (stA 168 10 a y C z (us++[I tF 3,I U 0,O Y 0 0,I tF E.q,I tF E.h.q,I U E.h.u,tS E.h.h,I U E.t,I tF E.op,O q nq t])) (ApR a) (fun _ ys=>ys.getD 0 wF) (phA 168 10 a y C z [I tF 3,I U 0,O Y 0 0,I tF E.q,I tF E.h.q,I U E.h.u,tS E.h.h,I U E.t,I tF E.op,O q nq t] (us++[I tF 3,I U 0,O Y 0 0,I tF E.q,I tF E.h.q,I U E.h.u,tS E.h.h,I U E.t,I tF E.op,O q nq t]) 7 8) (by kernel_rfl) (fun _ _ _ _ _ _ h i=>h.C i) (fun _ _ _ _ h _ hR=>h.t hR) stA.zero ?_;simp only[FO,FY,FQ,FX]
 repeat (refine RE.q (fun W=>∃x:Ks a (fun b=>b=M∨b=w.heap.size+1),W=x.1) (b1.o _) Z Z Z stA.zero ?_;go_big_quiet_step (fail);refine xL ?_)
 refine RE.h Z Z ?_ (fun cf=>?_)
 ·intro W hC hS hE;obtain⟨s9,_,h9⟩:=hC;exact dU mq (vs:=[I tF 3,I U 0,O Y 0 0,I tF E.q,I tF E.h.q,I U E.h.u,tS E.h.h,I U E.t,I tF E.op,O q nq t]) _ Z Z Z h9.u (fun v W' i ho=>⟨[v],Z,i,ApR.t i,ho⟩)
 simp only[xS,FA,FM,FK];refine RE.h Z Z ?_ (fun b2=>?_)
 ·intro W hC hS hE;obtain⟨x,rfl⟩:∃x:Wb a,W=x.1:=hS Z;exact iF mq (p:=y) (n:=C) (c:=z) (w4:=a) (vs:=[I tF 3,I U 0,O Y 0 0,I tF E.q,I tF E.h.q,I U E.h.u,tS E.h.h,I U E.t,I tF E.op,O q nq t]) (xs:=us) _ _ Z Z (hE 7 cf (by kernel_rfl) Z) Z (by simp[Value.oneCell']) x.2 b0.o (by omega) (fun v' W' h1 h2 h3=>⟨[v'],Z,h1,h2,h3⟩)
 simp only[xS,FA,FM,FK];refine RE.t ?_;intro W hS hE;have hS:ApS 168 10 a y C z (us++[I tF 3,I U 0,O Y 0 0,I tF E.q,I tF E.h.q,I U E.h.u,tS E.h.h,I U E.t,I tF E.op,O q nq t]) W:=hS;have hV:ApV 168 10 a y C z (us++[I tF 3,I U 0,O Y 0 0,I tF E.q,I tF E.h.q,I U E.h.u,tS E.h.h,I U E.t,I tF E.op,O q nq t]) W (b2.getD 0 wF):=hE 8 b2 Z;obtain⟨g',cap,eg,hg,hC,S⟩:=ju hS hV;rw[eg];have b3:Chg (fun b=>(O y cs.length z).ownBlock=A b) a W:=by rw[X.o];exact hC
 have a6:(O y cs.length z).ownBlock=A g'∨a.heap.size≤g':=by rw[X.o];exact hg
 have b4:(gu d).at_ a (fun b=>F b∨bf w1 W2 b) ⟨3,0,[],E⟩ [I tF 3,I U 0,O Y 0 0,I tF E.q,I tF E.h.q,I U E.h.u,tS E.h.h,I U E.t,I tF E.op,O q nq t]:=pd.2 ⟨show U8 3 from ⟨by decide,by decide⟩,show I64 0 from ⟨by decide,by decide⟩,bq.o,O Y 0 0,O q nq t,Z,Rd.th,cb.o⟩;obtain⟨b5,b6,ba⟩:=l.o.pushC X.o cc.o b4 a6 b3 (by rw[lh];exact S);have a1:W.cell? ⟨M,6,Y⟩=A (O y C z):=by rw[Gk _ _ _ _ _ _ (ba.trans l.o.m),←X.o];rfl
 have cl:=ax (ba.trans l.o.m) 6;have HP:Hid (kV F d M ts rs nm sal nv cs acs vT vR vV (O y cs.length z) vA (xt (vars,⟨3,0,[],E⟩)) w (wj (xv true)) (W.setCell ⟨M,6,Y⟩ (O (A ⟨g',0,Y⟩) (C+1) cap))):=by
  refine⟨dw (Chg.t bB.o) b6 (fun x P=>wD P),Z,(fun b=>F b∨bf w1 W2 b),vV,_,b5,fun b i=>wD i,fun b i=>?_,fun _ h=>wD h,fun b h=>h.imp id (fun h=>by have:=L.o;have:=h.1;omega)⟩;injection i with i
  have i:g'=b:=i;subst i;rcases a6 with h|h
  ·exact wD h
  ·have:=ca.o;exact wP (by omega)
 clear hS hV hE eg hg hC S b3 a6 b5 b6 ba E0 E1 E2 E3 E4 E5 E6 E7 E8 E9 M2 b1 b4;go_wp2_with fail
 go_ret;rw[bt.o];exact HP.o
