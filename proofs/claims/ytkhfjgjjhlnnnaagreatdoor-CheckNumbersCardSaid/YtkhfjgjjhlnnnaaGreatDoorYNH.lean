/- Parts of one proof, joined; conditions stand in each theorem. -/
import Derived.Test.YtkhfjgjjhlnnnaaGreatDoorYNF
import Derived.Test.YtkhfjgjjhlnnnaaGreatDoorYNG
open Go renaming Value→wF,World→wD,TypeId→CD,Calls→xL,undef→At,wpQuiet_nil→Bk
open Option renaming none→U,some→Y
open Go.Obj renaming cells→wq
open Go.Value renaming agg→xS,bool→AJ,int→I,pointer→xV,slice→A,string→J,tuple→CA
open Go.IntKind renaming i64→Z,u8→O
open Go.Proofs.Tryz renaming prog→xD
open Except renaming error→BT,ok→AF
open Go.Code renaming wp→AR
open Or renaming inl→z6,inr→z7
open Go.Act renaming put→B4
open Go.Ending renaming returned→z8
namespace Go.Proofs.YtkhfjgjjhlnnnaaGreatDoor
set_option maxHeartbeats 4000000
set_option maxRecDepth 100000
open Go.RowKit
theorem MkW.vars{F:Nat→Prop}{d M:Nat}{ts:List ae}{rs:List an}{vars:List ByteArray}{nm:ByteArray}{sal nv:Int}{cs:List aW}{acs:List bW}{vT vR vV vC vA:wF}{w:wD}(h:MkW F d M ts rs vars nm sal nv cs acs vT vR vV vC vA w):nB M vars vV w:=
 ⟨by rw[FI _ _ _ _ _ _ h.m];rfl,h.lt,h.v.K (fun b a=>(h.f b a).1) (fun g c=>h.v.lt c)⟩
def st4(W:wD) (g:Nat) (a b c d:wF):World:=(((W.setCell ⟨g,0,U⟩ a).setCell ⟨g,1,U⟩ b).setCell ⟨g,2,U⟩ c).setCell ⟨g,3,U⟩ d
theorem vg{W:wD}{g:Nat}{x0 x1 x2 x3:wF}{t:CD}(h:W.heap[g]?=Y (wq #[x0,x1,x2,x3] t (0,0)))(a b c e:wF):(st4 W g a b c e).heap[g]?=Y (wq #[a,b,c,e] t (0,0)):=
 heap_set (heap_set (heap_set (heap_set h 0 a) 1 b) 2 c) 3 e
theorem od{B:Nat}{w W:wD}{g:Nat}(f:Below B w W)(e:B≤g)(a b c d:wF):Below B w (st4 W g a b c d):=
 (((f.setCell e a).setCell e b).setCell e c).setCell e d
theorem ow{W:wD}{g:Nat}(a b c d:wF)(k:Nat)(h:k≠g):(st4 W g a b c d).heap[k]?=W.heap[k]?:=by
 have e:∀(f:wD) (i:Nat) (u:wF),(f.setCell ⟨g,i,U⟩ u).heap[k]?=f.heap[k]?:=fun f i u=>ER f ⟨g,i,U⟩ u k h
 unfold st4;rw[e,e,e,e]
theorem Cb{W:wD}{g:Nat}(a b c d:wF):(st4 W g a b c d).heap.size=W.heap.size:=by simp[st4,World.setCell]
theorem gu{w:wD}{T:Nat}{a b c d:wF}{t:CD}(e:w.heap[T]?=Y (wq #[a,b,c,d] t (0,0))):w.cell? ⟨T,0,U⟩=Y a∧w.cell? ⟨T,1,U⟩=Y b∧w.cell? ⟨T,2,U⟩=Y c∧w.cell? ⟨T,3,U⟩=Y d:=by simp[World.cell?,e]
theorem uQ{F F':Nat→Prop}{d M:Nat}{ts:List ae}{rs:List an}{vars:List ByteArray}{nm:ByteArray}{sal nv:Int}{cs:List aW}{acs:List bW}{vT vR vV vC vA:wF}{w:wD}{g:Nat}(h:MkW F d M ts rs vars nm sal nv cs acs vT vR vV vC vA w)(k:∀b,F b→F' b)
  (i:∀b,F' b→b<w.heap.size∧¬bj M [vT,vR,vV,vC,vA] b∧b≠g) (l:¬bj M [vT,vR,vV,vC,vA] g) (a b c e:wF):MkW F' d M ts rs vars nm sal nv cs acs vT vR vV vC vA (st4 w g a b c e):=
 (h.grow k (fun b j=>⟨(i b j).1,(i b j).2.1⟩)).upd (by rw[Cb];exact EO _) (fun x f=>ow _ _ _ _ x (by
  rcases f with f|f
  ·exact (i x f).2.2
  ·exact fun e=>l (e ▸ f)))
def ju(w1:wD) (d:Nat) (es:List aw) (W:wD) (v:wF):Prop:=(aL d).K W (ai w1 W) es v
theorem ju.z{w1 W W':wD}{d:Nat}{es:List aw}{v:wF}(h:ju w1 d es W v)(b:FK W W'):ju w1 d es W' v:=
 Rd.y (fun _ a=>⟨a.1,ET a.2 b.size⟩) (Rd.X h (fun _ a=>a.2) b)
theorem ju.of{w1 W W':wD}{d:Nat}{es:List aw}{v:wF}(c:w1.heap.size≤W.heap.size)(h:aH W' (fun b=>ai W W' b∧v.ownBlock≠Y b) 62 (aL d) es v)(f:∀g,v.ownBlock=Y g→W.heap.size≤g):ju w1 d es W' v:=
 h.K (fun _ e=>⟨EU c e.1.1,e.1.2⟩) (fun g a=>⟨EU c (f g a),h.lt a⟩)
theorem xZ(a:Bool)(b:Int)(z:wF)(h:z.cells.size=2):Instr.fill (fun i=>Y (i*2,2)) ((Array.range (1*2)).map (z.cells[· % z.cells.size]!)) [(0,xS #[AJ a,I Z b])]=Y (fE [(a,b)]).toArray:=by
 obtain⟨x,y,c⟩:=size2 h;rw[c]
 kernel_rfl
theorem kD{o:Oper}{a:Act}{W:wD}{G:wF→wD→Prop}{L:Nat}(b:Bool)(c:Int)(x:Operand)(d:o.op=.buildSlice 173 1 #[(0,x)])(f:a.eval x=xS #[AJ b,I Z c])(h:L≤W.heap.size)
  (i:∀v W',FK W W'→cH L [(b,c)] W' v→G v W'):RE.Upon xD o a W G:=by
 refine mY (l:=[(b,c)]) d V (by decide) (fun z j=>?_) h i;have e:((#[(0,x)]:Array (Nat×Operand)).map fun (q:Nat×Operand)=>(q.1,a.eval q.2)).toList=[(0,a.eval x)]:=by simp
 rw[e,f];exact xZ b c z j
def m8(r:Except Flt (List aw)):Except Flt bW:=match r with
 | .error e=>BT e
 | .ok xs=>AF ⟨3,0,0,xs⟩
theorem D3(F:Nat→Prop)(d M:Nat)(ts:List ae)(rs:List an)(vars:List ByteArray)(nm:ByteArray)(sal nv:Int)(cs:List aW)(acs:List bW)(vT vR vV vC vA:wF)(T:ab)(p:Option Addr)(n c:Nat)(r:Except Flt (List aw))(w:wD)
  (hw:MkW F d M ts rs vars nm sal nv cs acs vT vR vV vC vA w) (hk:T.b=10) (b1:acs.length≤10000)
  (hex:∀W,FK w W→xL xD 77 #[xV (Y ⟨M,0,U⟩),A p n c] W (jI d r W)) :
  xL xD 44 #[xV (Y ⟨M,0,U⟩),xS #[I O T.b,J T.f,I Z T.h,I Z T.y,A p n c]] w (iM F d M ts rs vars nm sal nv cs acs vT vR vV vC vA (m8 r) w):=by
 rw[hk];obtain⟨u,y,b2⟩:=hw.a.b;subst b2;obtain⟨z,Q⟩:=zzy (acs.length);have R:=Hd Q;rw[Q]at b1;obtain⟨w1,G⟩:=zzx ((w.alloc (wq #[I O 10,J T.f,I Z T.h,I Z T.y,A p n c] 25)).alloc (wq #[I O 4,I Z 0,I Z 0,A U 0 0] 70));obtain⟨H,S,_⟩:=ap w (wq #[I O 10,J T.f,I Z T.h,I Z T.y,A p n c] 25) (wq #[I O 4,I Z 0,I Z 0,A U 0 0] 70);have L:FK w w1:=by rw[G];exact ((EP _ w).alloc (EO _) _).alloc (by simp) _
 rw[←G]at H S;obtain⟨av,P,b8,X,a1,b3⟩:=zz6 (fun g hg=>hw.a.lt (g:=g) hg) (fun b j=>hw.b (b:=b) j) H S L (hw.z L);have ad:Hid (w.heap.size+2≤w1.heap.size):=by
  have h:=(EN.1 X.o).1
  show _≤_
  omega
 have a6:=Hd (fun b (j:F b)=>(hw.f b j).1);have HC:=Hd (hex w1 L);obtain⟨e0,e1,e2,e3,e4⟩:=cells5 H;clear H S L hw hk hex Q
 go_enter Tryz.func44,Tryz.ntmps44
 go_upto_region 9 with fail
 change AR _ _ _ _ ((w.alloc (wq #[I O 10,J T.f,I Z T.h,I Z T.y,A p n c] 25)).alloc (wq #[I O 4,I Z 0,I Z 0,A U 0 0] 70));rw[←G];clear G;go_wp2_with fail
 refine HC.o.mono ?_;rintro e W2 ⟨N,he⟩;obtain⟨ba,af,ak⟩:=zz3 (a1.o.trans (N.mono a1.o.size)) (aa N X.o (EN.1 X.o).1) (b3.o.z N);clear e0 e1 e2 e3 e4 N
 cases r with
 | error er =>
  have he:e=aU er.1 er.2:=he;subst he;exact⟨V,Chg.f ba.o,V⟩
 | ok xs =>
 obtain⟨v,rfl,k,bb⟩:=he;obtain⟨q,cq,hv⟩:=k.b;obtain⟨l,bc⟩:=zzy (xs.length);rw[bc]at hv;subst hv;have b4:Hid ((aL d).K W2 (ai w1 W2) xs (A q l cq)):=ju.of (EO _) k bb;have bd:Hid (m8 (AF xs)=AF ⟨3,0,0,xs⟩):=rfl;clear k bb bc;obtain⟨i,t⟩:=zzx (st4 W2 (w.heap.size+1) (I O 3) (I Z 0) (I Z 0) (A q l cq));have C:Hid (i.heap[w.heap.size+1]?=Y (wq #[I O 3,I Z 0,I Z 0,A q l cq] 70 (0,0))):=by show _=_;rw[t];exact vg af.o _ _ _ _
 have bk:Hid (FK w i):=by show Below _ _ _;rw[t];exact od ba.o (Fl _) _ _ _ _
 have s:Hid (MkW (fun b=>F b∨ai w1 W2 b) d M ts rs vars nm sal nv cs acs vT vR vV vC (A u acs.length y) i):=by
  show MkW _ _ _ _ _ _ _ _ _ _ _ _ _ _ _ _ _
  rw[t];refine uQ ak.o (fun _ h=>z6 h) (fun b j=>?_) (fun ho=>by have:=P.o _ ho;omega) _ _ _ _;rcases j with j|j
  ·exact⟨(ak.o.f b j).1,(ak.o.f b j).2,by have:=a6.o b j;omega⟩
  ·have h1:=j.1;have h2:=ad.o;exact⟨j.2,fun ho=>by have:=P.o _ ho;omega,by omega⟩
 have b5:Hid ((aL d).K i (fun b=>F b∨ai w1 W2 b) xs (A q l cq)):=by
  show (aL d).K _ _ _ _
  rw[t];exact Rd.y (fun _ h=>z7 h) (Rd.f (fun b j o ho=>(ow _ _ _ _ b (by have:=j.1;have:=ad.o;omega)).trans ho) b4.o)
 obtain⟨e0,e1,e2,e3⟩:=gu af.o;have f0:=ac af.o;go_upto_region 10 with fail
 change AR _ _ _ _ (st4 W2 (w.heap.size+1) (I O 3) (I Z 0) (I Z 0) (A q l cq));rw[←t];clear t e0 e1 e2 e3 f0;obtain⟨us,D,bl⟩:=s.o.a;rw[R.o]at D;obtain⟨bn,b6⟩:=zz2 D bl;have e0:i.cell? ⟨w.heap.size+1,0,U⟩=Y (I O 3):=by rw[FI _ _ _ _ _ _ C.o];rfl
 have e1:i.cell? ⟨w.heap.size+1,1,U⟩=Y (I Z 0):=by rw[FI _ _ _ _ _ _ C.o];rfl
 have e2:i.cell? ⟨w.heap.size+1,2,U⟩=Y (I Z 0):=by rw[FI _ _ _ _ _ _ C.o];rfl
 have e3:i.cell? ⟨w.heap.size+1,3,U⟩=Y (A q l cq):=by rw[FI _ _ _ _ _ _ C.o];rfl
 have al:i.cell? ⟨M,7,U⟩=Y (A u z y):=by rw[FI _ _ _ _ _ _ s.o.m,←R.o];rfl
 have hK:∀b,(b=M∨b=w.heap.size+1)→b<i.heap.size∧(A u z y).ownBlock≠Y b:=fun b j=>by
  rw[←R.o];rcases j with rfl|rfl
  ·exact⟨s.o.lt,row_ne s.o.m s.o.a (by decide)⟩
  ·exact⟨(EN.1 C.o).1,fun e=>by have:=av.o _ e;omega⟩
 have bq:=Hd (gl (E:=70) (sz:=4) (row:=us++[I O 3,I Z 0,I Z 0,A q l cq]) (K:=(fun b=>b=M∨b=w.heap.size+1)) hK);have E0:=fun x:Ks i (fun b=>b=M∨b=w.heap.size+1)=>x.b (z7 V) e0
 have E1:=fun x:Ks i (fun b=>b=M∨b=w.heap.size+1)=>x.b (z7 V) e1
 have E2:=fun x:Ks i (fun b=>b=M∨b=w.heap.size+1)=>x.b (z7 V) e2
 have E3:=fun x:Ks i (fun b=>b=M∨b=w.heap.size+1)=>x.b (z7 V) e3
 have M2:=fun x:Ks i (fun b=>b=M∨b=w.heap.size+1)=>x.b (z6 V) al
 clear D bl e0 e1 e2 e3 al hK;refine RE.u (by kernel_rfl) 9 [7,8] [8] (stA 70 4 i u z y (us++[I O 3,I Z 0,I Z 0,A q l cq])) (ApR i) (fun _ ys=>ys.getD 0 At) (phA 70 4 i u z y [I O 3,I Z 0,I Z 0,A q l cq] (us++[I O 3,I Z 0,I Z 0,A q l cq]) 7 8) (by kernel_rfl) (fun _ _ _ _ _ _ h j=>h.z j) (fun _ _ _ _ h _ hR=>h.C hR) stA.zero ?_;simp only[EY,Fi,EZ,Fh]
 repeat (refine RE.b (fun W=>∃x:Ks i (fun b=>b=M∨b=w.heap.size+1),W=x.1) (bq.o _) V V V stA.zero ?_;go_big_quiet_step (fail);refine Bk ?_)
 refine RE.f V V ?_ (fun b7=>?_)
 ·intro W hC hS hE;obtain⟨s9,_,h9⟩:=hC;exact cB fH (vs:=[I O 3,I Z 0,I Z 0,A q l cq]) _ V V V h9.h (fun v W' j ho=>⟨[v],V,j,ApR.f j,ho⟩)
 simp only[B4,EQ,EW,EV];refine RE.f V V ?_ (fun br=>?_)
 ·intro W hC hS hE;obtain⟨x,rfl⟩:∃x:Wb i,W=x.1:=hS V;exact eC fH (p:=u) (n:=z) (c:=y) (w4:=i) (vs:=[I O 3,I Z 0,I Z 0,A q l cq]) (xs:=us) _ _ V V (hE 7 b7 (by kernel_rfl) V) V (by simp[Value.oneCell']) x.2 bn.o (by omega) (fun v' W' h1 h2 h3=>⟨[v'],V,h1,h2,h3⟩)
 simp only[B4,EQ,EW,EV];refine RE.h ?_;intro W hS hE;have hS:ApS 70 4 i u z y (us++[I O 3,I Z 0,I Z 0,A q l cq]) W:=hS;have hV:ApV 70 4 i u z y (us++[I O 3,I Z 0,I Z 0,A q l cq]) W (br.getD 0 At):=hE 8 br V;obtain⟨g',cap,eg,hg,hC,k⟩:=eZ hS hV;rw[eg];have bt:Chg (fun b=>(A u acs.length y).ownBlock=Y b) i W:=by rw[R.o];exact hC
 have aq:(A u acs.length y).ownBlock=Y g'∨i.heap.size≤g':=by rw[R.o];exact hg
 have bB:(bA d).at_ i (fun b=>F b∨ai w1 W2 b) ⟨3,0,0,xs⟩ [I O 3,I Z 0,I Z 0,A q l cq]:=fP.2 ⟨show U8 3 from ⟨by decide,by decide⟩,(show I64 0 from ⟨by decide,by decide⟩),(show I64 0 from ⟨by decide,by decide⟩),A q l cq,V,b5.o⟩;obtain⟨bR,b0,ar⟩:=s.o.pushA R.o b6.o bB aq bt k;have al:W.cell? ⟨M,7,U⟩=Y (A u z y):=by rw[FI _ _ _ _ _ _ (ar.trans s.o.m),←R.o];rfl
 have b9:=bK (ar.trans s.o.m) 7;have HP:Hid (iM F d M ts rs vars nm sal nv cs acs vT vR vV vC (A u acs.length y) (AF ⟨3,0,0,xs⟩) w (z8 (CA #[])) (W.setCell ⟨M,7,U⟩ (A (Y ⟨g',0,U⟩) (z+1) cap))):=by
  refine⟨cj (Chg.f bk.o) b0 (fun x hx=>z6 hx),V,(fun b=>F b∨ai w1 W2 b),_,bR,fun b j=>?_,fun _ h=>z6 h,fun b h=>h.imp id (fun h=>by have:=ad.o;have:=h.1;omega)⟩;injection j with j
  have j:g'=b:=j;subst j;rcases aq with h|h
  ·exact z6 h
  ·have:=bk.o.size;exact z7 (by omega)
 clear hS hV hE eg hg hC k bt aq bR b0 ar E0 E1 E2 E3 M2 bq bB;go_wp2_with fail
 go_end0
 rw[bd.o];exact HP.o
def iq(cs:List aW) (T:ab):Except Flt bW:=if T.h<1||decide ((bE cs:Int)<T.h) then BT (214,T.y) else AF ⟨2,0,T.h-1,[]⟩
theorem Bg(F:Nat→Prop)(d M:Nat)(ts:List ae)(rs:List an)(vars:List ByteArray)(nm:ByteArray)(sal nv:Int)(cs:List aW)(acs:List bW)(vT vR vV vC vA:wF)(T:ab)(p:Option Addr)(n c:Nat)(w:wD)
  (hw:MkW F d M ts rs vars nm sal nv cs acs vT vR vV vC vA w) (hk:T.b=9) (cu:acs.length≤10000) (b4:cs.length≤10000) (b5:I64 T.h) :
  xL xD 44 #[xV (Y ⟨M,0,U⟩),xS #[I O T.b,J T.f,I Z T.h,I Z T.y,A p n c]] w (iM F d M ts rs vars nm sal nv cs acs vT vR vV vC vA (iq cs T) w):=by
 rw[hk];obtain⟨N,P,cv⟩:=hw.a.b;subst cv;obtain⟨R,bc⟩:=zzy (acs.length);have HN:=Hd bc;rw[bc]at cu;obtain⟨w1,al⟩:=zzx ((w.alloc (wq #[I O 9,J T.f,I Z T.h,I Z T.y,A p n c] 25)).alloc (wq #[I O 4,I Z 0,I Z 0,A U 0 0] 70));obtain⟨aq,bd,_⟩:=ap w (wq #[I O 9,J T.f,I Z T.h,I Z T.y,A p n c] 25) (wq #[I O 4,I Z 0,I Z 0,A U 0 0] 70);have y:FK w w1:=by rw[al];exact ((EP _ w).alloc (EO _) _).alloc (by simp) _
 rw[←al]at aq bd;obtain⟨b6,a6,b7,bk,D,cx⟩:=zz6 (fun g z=>hw.a.lt (g:=g) z) (fun b j=>hw.b (b:=b) j) aq bd y (hw.z y);have b8:Hid (w.heap.size+2≤w1.heap.size):=by
  have h:=(EN.1 bk.o).1
  show _≤_
  omega
 have b9:=Hd (fun b (j:F b)=>(hw.f b j).1);have bl:=Hd (fun (W:wD) (h:FK w1 W)=>zb d cs vC (fun b=>b<w.heap.size) M W (Rd.X (hw.c.K (G:=fun b=>b<w.heap.size) (fun b j=>(hw.f b j).1) (fun g z=>hw.c.lt z)) (fun _ h=>h) (y.trans (h.mono y.size))) (fun b j=>by have:=h.size;have:=y.size;omega) (by rw[FI _ _ _ _ _ _ (((hw.z y).z h).m)];rfl) b4);obtain⟨e0,e1,e2,e3,e4⟩:=cells5 aq;obtain⟨Q,bn⟩:=zzy (bE cs);have bq:Hid (iq cs T=if T.h<1||decide ((Q:Int)<T.h) then BT (214,T.y) else AF ⟨2,0,T.h-1,[]⟩):=by show _=_;rw[←bn];rfl
 rw[bn]at bl;clear aq bd y hw hk bc bn b4
 go_enter Tryz.func44,Tryz.ntmps44
 go_upto_region 6 with fail
 change AR _ _ _ _ ((w.alloc (wq #[I O 9,J T.f,I Z T.h,I Z T.y,A p n c] 25)).alloc (wq #[I O 4,I Z 0,I Z 0,A U 0 0] 70));rw[←al];clear al;have E0:=fun x:Wb w1=>x.b e0
 have E1:=fun x:Wb w1=>x.b e1
 have E2:=fun x:Wb w1=>x.b e2
 have E3:=fun x:Wb w1=>x.b e3
 have E4:=fun x:Wb w1=>x.b e4
 by_cases br:T.h<1
 ·have q:Hid (iq cs T=BT (214,T.y)):=by show _=_;rw[bq.o,decide_eq_true br];rfl
  have ba:decide (T.h<1)=true:=decide_eq_true br;refine RE.u (by kernel_rfl) 13 [8,12] [] (fun _ W=>∃x:Wb w1,W=x.1) (fun W W'=>FK W W') (fun i ys=>if i=8 then I Z (Q:Int) else ys.getD 0 At) (fun i W ys=>if i=12 then cH w1.heap.size [(true,214)] W (ys.getD 0 At) else True) (by kernel_rfl) (fun _ _ _ _ _ _ h j=>bC h j) (fun i W W' ys h _ j=>by split at h;(rw[rv (by assumption)];exact h.z j);rw[qv (by assumption)];trivial) ⟨⟨w1.drew,(EP _ _).drew⟩,V⟩ ?_;simp only[EY,Fi,EZ,Fh]
  repeat (refine RE.b (fun W=>∃x:Wb w1,W=x.1) (fun _ _ _ h=>h) V V V ⟨⟨w1.drew,(EP _ _).drew⟩,V⟩ ?_;go_big_quiet_step (fail);refine Bk ?_)
  refine RE.wpE_off V (fun W h=>by cases h) ?_;simp only[B4,EQ,EW,EV]
  repeat (refine RE.b (fun W=>∃x:Wb w1,W=x.1) (fun _ _ _ h=>h) V V V ⟨⟨w1.drew,(EP _ _).drew⟩,V⟩ ?_;go_big_quiet_step (fail);refine Bk ?_)
  refine RE.f V V ?_ (fun ys=>?_)
  ·intro W C _ l;obtain⟨s9,_,x,rfl⟩:=C;exact kD true 214 _ V V x.2.size (fun v W' j S=>⟨[v],V,j,j,S⟩)
  simp only[B4,EQ,EW,EV];refine RE.h ?_;intro W H l;obtain⟨x,rfl⟩:=H;obtain⟨g,r,lg,z⟩:cH w1.heap.size [(true,214)] x.1 (ys.getD 0 At):=l 12 ys V;have r:(if (12:Nat)=8 then I Z (Q:Int) else ys.getD 0 At)=A (Y ⟨g,0,U⟩) 1 1:=r;rw[r];obtain⟨X,s⟩:=zz2 (bY [(true,214)] 9 T.f T.h T.y (A p n c) g 1 1 x.1 V (by omega) z) x.2;clear l r lg z E0 E1 E2 E3 E4;go_wp2_with fail
  refine X.o.mono ?_;rintro e W2 ⟨L,he⟩;have he:e=aU 214 T.y:=he;subst he;refine⟨V,Chg.f (D.o.trans ((s.o.trans (L.mono s.o.size)).mono D.o.size)),?_⟩;rw[q.o];rfl
 ·have ba:decide (T.h<1)=false:=r6 br
  by_cases ar:(Q:Int)<T.h
  ·have q:Hid (iq cs T=BT (214,T.y)):=by show _=_;rw[bq.o,decide_eq_true ar,Bool.or_true];rfl
   have ca:decide ((Q:Int)<T.h)=true:=decide_eq_true ar;refine RE.u (by kernel_rfl) 13 [8,12] [] (fun _ W=>∃x:Wb w1,W=x.1) (fun W W'=>FK W W') (fun i ys=>if i=8 then I Z (Q:Int) else ys.getD 0 At) (fun i W ys=>if i=12 then cH w1.heap.size [(true,214)] W (ys.getD 0 At) else True) (by kernel_rfl) (fun _ _ _ _ _ _ h j=>bC h j) (fun i W W' ys h _ j=>by split at h;(rw[rv (by assumption)];exact h.z j);rw[qv (by assumption)];trivial) ⟨⟨w1.drew,(EP _ _).drew⟩,V⟩ ?_;simp only[EY,Fi,EZ,Fh]
   repeat (refine RE.b (fun W=>∃x:Wb w1,W=x.1) (fun _ _ _ h=>h) V V V ⟨⟨w1.drew,(EP _ _).drew⟩,V⟩ ?_;go_big_quiet_step (fail);refine Bk ?_)
   refine RE.f V V ?_ (fun av=>?_)
   ·intro W C _ l;obtain⟨s9,_,x,rfl⟩:=C;refine RE.y 78 _ _ V (enters_of Tryz.func78 (by kernel_rfl) V) #[xV (Y ⟨M,0,U⟩)] (by simp[Act.eval]) ((bl.o x.1 x.2).mono ?_);rintro e W' ⟨rfl,j⟩;exact⟨_,V,[],V,j,j,trivial⟩
   simp only[sx];simp only[B4,EQ,EW,EV]
   repeat (refine RE.b (fun W=>∃x:Wb w1,W=x.1) (fun _ _ _ h=>h) V V V ⟨⟨w1.drew,(EP _ _).drew⟩,V⟩ ?_;go_big_quiet_step (fail);refine Bk ?_)
   refine RE.f V V ?_ (fun ys=>?_)
   ·intro W C _ l;obtain⟨s9,_,x,rfl⟩:=C;exact kD true 214 _ V V x.2.size (fun v W' j S=>⟨[v],V,j,j,S⟩)
   simp only[B4,EQ,EW,EV];refine RE.h ?_;intro W H l;obtain⟨x,rfl⟩:=H;obtain⟨g,r,lg,z⟩:cH w1.heap.size [(true,214)] x.1 (ys.getD 0 At):=l 12 ys V;have r:(if (12:Nat)=8 then I Z (Q:Int) else ys.getD 0 At)=A (Y ⟨g,0,U⟩) 1 1:=r;rw[r];obtain⟨X,s⟩:=zz2 (bY [(true,214)] 9 T.f T.h T.y (A p n c) g 1 1 x.1 V (by omega) z) x.2;clear l r lg z E0 E1 E2 E3 E4;go_wp2_with fail
   refine X.o.mono ?_;rintro e W2 ⟨L,he⟩;have he:e=aU 214 T.y:=he;subst he;refine⟨V,Chg.f (D.o.trans ((s.o.trans (L.mono s.o.size)).mono D.o.size)),?_⟩;rw[q.o];rfl
  ·have q:Hid (iq cs T=AF ⟨2,0,T.h-1,[]⟩):=by show _=_;rw[bq.o,r6 ar,ba];rfl
   have ca:decide ((Q:Int)<T.h)=false:=r6 ar;refine RE.u (by kernel_rfl) 13 [8,12] [] (fun _ W=>∃x:Wb w1,W=x.1) (fun W W'=>FK W W') (fun i ys=>if i=8 then I Z (Q:Int) else ys.getD 0 At) (fun i W ys=>if i=12 then cH w1.heap.size [(false,214)] W (ys.getD 0 At) else True) (by kernel_rfl) (fun _ _ _ _ _ _ h j=>bC h j) (fun i W W' ys h _ j=>by split at h;(rw[rv (by assumption)];exact h.z j);rw[qv (by assumption)];trivial) ⟨⟨w1.drew,(EP _ _).drew⟩,V⟩ ?_;simp only[EY,Fi,EZ,Fh]
   repeat (refine RE.b (fun W=>∃x:Wb w1,W=x.1) (fun _ _ _ h=>h) V V V ⟨⟨w1.drew,(EP _ _).drew⟩,V⟩ ?_;go_big_quiet_step (fail);refine Bk ?_)
   refine RE.f V V ?_ (fun av=>?_)
   ·intro W C _ l;obtain⟨s9,_,x,rfl⟩:=C;refine RE.y 78 _ _ V (enters_of Tryz.func78 (by kernel_rfl) V) #[xV (Y ⟨M,0,U⟩)] (by simp[Act.eval]) ((bl.o x.1 x.2).mono ?_);rintro e W' ⟨rfl,j⟩;exact⟨_,V,[],V,j,j,trivial⟩
   simp only[sx];simp only[B4,EQ,EW,EV]
   repeat (refine RE.b (fun W=>∃x:Wb w1,W=x.1) (fun _ _ _ h=>h) V V V ⟨⟨w1.drew,(EP _ _).drew⟩,V⟩ ?_;go_big_quiet_step (fail);refine Bk ?_)
   refine RE.f V V ?_ (fun ys=>?_)
   ·intro W C _ l;obtain⟨s9,_,x,rfl⟩:=C;exact kD false 214 _ V V x.2.size (fun v W' j S=>⟨[v],V,j,j,S⟩)
   simp only[B4,EQ,EW,EV];refine RE.h ?_;intro W H l;obtain⟨x,rfl⟩:=H;obtain⟨g,r,lg,z⟩:cH w1.heap.size [(false,214)] x.1 (ys.getD 0 At):=l 12 ys V;have r:(if (12:Nat)=8 then I Z (Q:Int) else ys.getD 0 At)=A (Y ⟨g,0,U⟩) 1 1:=r;rw[r];obtain⟨X,s⟩:=zz2 (bY [(false,214)] 9 T.f T.h T.y (A p n c) g 1 1 x.1 V (by omega) z) x.2;clear l r lg z E0 E1 E2 E3 E4;go_wp2_with fail
   refine X.o.mono ?_;rintro e W2 ⟨L,he⟩;have he:e=z8 (CA #[]):=he;subst he;have t:=s.o.trans (L.mono s.o.size);obtain⟨cC,bt,cR,bB⟩:=zz4 (D.o.trans (t.mono D.o.size)) (aa t bk.o (EN.1 bk.o).1) (aa t b7.o (EN.1 b7.o).1) (cx.o.z t);clear e0 e1 e2 e3 e4 L t;have bR:(-9223372036854775808:Int)≤T.h-1:=by omega
   have b0:T.h-1<9223372036854775808:=by have:=b5.2;omega
   obtain⟨k,ad⟩:=zzx (st4 W2 (w.heap.size+1) (I O 2) (I Z 0) (I Z (T.h-1)) (A U 0 0));have af:Hid (k.heap[w.heap.size+1]?=Y (wq #[I O 2,I Z 0,I Z (T.h-1),A U 0 0] 70 (0,0))):=by show _=_;rw[ad];exact vg bt.o _ _ _ _
   have cb:Hid (FK w k):=by show Below _ _ _;rw[ad];exact od cC.o (Fl _) _ _ _ _
   have u:Hid (MkW (fun b=>F b∨ai w1 W2 b) d M ts rs vars nm sal nv cs acs vT vR vV vC (A N acs.length P) k):=by
    show MkW _ _ _ _ _ _ _ _ _ _ _ _ _ _ _ _ _
    rw[ad];refine uQ bB.o (fun _ h=>z6 h) (fun b j=>?_) (fun S=>by have:=a6.o _ S;omega) _ _ _ _;rcases j with j|j
    ·exact⟨(bB.o.f b j).1,(bB.o.f b j).2,by have:=b9.o b j;omega⟩
    ·have h1:=j.1;have h2:=b8.o;exact⟨j.2,fun S=>by have:=a6.o _ S;omega,by omega⟩
   obtain⟨a0,a1,a2,a3,a4⟩:=cells5 cR.o;obtain⟨e0,e1,e2,e3⟩:=gu bt.o;have f0:=ac bt.o;go_upto_region 10 with fail
   change AR _ _ _ _ (st4 W2 (w.heap.size+1) (I O 2) (I Z 0) (I Z (T.h-1)) (A U 0 0));rw[←ad];clear ad e0 e1 e2 e3 f0 a0 a1 a2 a3 a4;obtain⟨us,ak,cc⟩:=u.o.a;rw[HN.o]at ak;obtain⟨ch,cT⟩:=zz2 ak cc;have e0:k.cell? ⟨w.heap.size+1,0,U⟩=Y (I O 2):=by rw[FI _ _ _ _ _ _ af.o];rfl
   have e1:k.cell? ⟨w.heap.size+1,1,U⟩=Y (I Z 0):=by rw[FI _ _ _ _ _ _ af.o];rfl
   have e2:k.cell? ⟨w.heap.size+1,2,U⟩=Y (I Z (T.h-1)):=by rw[FI _ _ _ _ _ _ af.o];rfl
   have e3:k.cell? ⟨w.heap.size+1,3,U⟩=Y (A U 0 0):=by rw[FI _ _ _ _ _ _ af.o];rfl
   have b1:k.cell? ⟨M,7,U⟩=Y (A N R P):=by rw[FI _ _ _ _ _ _ u.o.m,←HN.o];rfl
   have hK:∀b,(b=M∨b=w.heap.size+1)→b<k.heap.size∧(A N R P).ownBlock≠Y b:=fun b j=>by
    rw[←HN.o];rcases j with rfl|rfl
    ·exact⟨u.o.lt,row_ne u.o.m u.o.a (by decide)⟩
    ·exact⟨(EN.1 af.o).1,fun e=>by have:=b6.o _ e;omega⟩
   have ck:=Hd (gl (E:=70) (sz:=4) (row:=us++[I O 2,I Z 0,I Z (T.h-1),A U 0 0]) (K:=(fun b=>b=M∨b=w.heap.size+1)) hK);have E0:=fun x:Ks k (fun b=>b=M∨b=w.heap.size+1)=>x.b (z7 V) e0
   have E1:=fun x:Ks k (fun b=>b=M∨b=w.heap.size+1)=>x.b (z7 V) e1
   have E2:=fun x:Ks k (fun b=>b=M∨b=w.heap.size+1)=>x.b (z7 V) e2
   have E3:=fun x:Ks k (fun b=>b=M∨b=w.heap.size+1)=>x.b (z7 V) e3
   have M2:=fun x:Ks k (fun b=>b=M∨b=w.heap.size+1)=>x.b (z6 V) b1
   clear ak cc e0 e1 e2 e3 b1 hK;refine RE.u (by kernel_rfl) 9 [7,8] [8] (stA 70 4 k N R P (us++[I O 2,I Z 0,I Z (T.h-1),A U 0 0])) (ApR k) (fun _ ys=>ys.getD 0 At) (phA 70 4 k N R P [I O 2,I Z 0,I Z (T.h-1),A U 0 0] (us++[I O 2,I Z 0,I Z (T.h-1),A U 0 0]) 7 8) (by kernel_rfl) (fun _ _ _ _ _ _ h j=>h.z j) (fun _ _ _ _ h _ hR=>h.C hR) stA.zero ?_;simp only[EY,Fi,EZ,Fh]
   repeat (refine RE.b (fun W=>∃x:Ks k (fun b=>b=M∨b=w.heap.size+1),W=x.1) (ck.o _) V V V stA.zero ?_;go_big_quiet_step (fail);refine Bk ?_)
   refine RE.f V V ?_ (fun cV=>?_)
   ·intro W C H l;obtain⟨s9,_,h9⟩:=C;exact cB fH (vs:=[I O 2,I Z 0,I Z (T.h-1),A U 0 0]) _ V V V h9.h (fun v W' j S=>⟨[v],V,j,ApR.f j,S⟩)
   simp only[B4,EQ,EW,EV];refine RE.f V V ?_ (fun av=>?_)
   ·intro W C H l;obtain⟨x,rfl⟩:∃x:Wb k,W=x.1:=H V;exact eC fH (p:=N) (n:=R) (c:=P) (w4:=k) (vs:=[I O 2,I Z 0,I Z (T.h-1),A U 0 0]) (xs:=us) _ _ V V (l 7 cV (by kernel_rfl) V) V (by simp[Value.oneCell']) x.2 ch.o (by omega) (fun v' W' h1 h2 h3=>⟨[v'],V,h1,h2,h3⟩)
   simp only[B4,EQ,EW,EV];refine RE.h ?_;intro W H l;have H:ApS 70 4 k N R P (us++[I O 2,I Z 0,I Z (T.h-1),A U 0 0]) W:=H;have hV:ApV 70 4 k N R P (us++[I O 2,I Z 0,I Z (T.h-1),A U 0 0]) W (av.getD 0 At):=l 8 av V;obtain⟨g',cap,r,z,C,bb⟩:=eZ H hV;rw[r];have cl:Chg (fun b=>(A N acs.length P).ownBlock=Y b) k W:=by rw[HN.o];exact C
   have b2:(A N acs.length P).ownBlock=Y g'∨k.heap.size≤g':=by rw[HN.o];exact z
   have cq:(bA d).at_ k (fun b=>F b∨ai w1 W2 b) ⟨2,0,T.h-1,[]⟩ [I O 2,I Z 0,I Z (T.h-1),A U 0 0]:=fP.2 ⟨show U8 2 from ⟨by decide,by decide⟩,(show I64 0 from ⟨by decide,by decide⟩),⟨bR,b0⟩,A U 0 0,V,Rd.vn⟩;obtain⟨cr,ct,b3⟩:=u.o.pushA HN.o cT.o cq b2 cl bb;have b1:W.cell? ⟨M,7,U⟩=Y (A N R P):=by rw[FI _ _ _ _ _ _ (b3.trans u.o.m),←HN.o];rfl
   have cW:=bK (b3.trans u.o.m) 7;have HP:Hid (iM F d M ts rs vars nm sal nv cs acs vT vR vV vC (A N acs.length P) (AF ⟨2,0,T.h-1,[]⟩) w (z8 (CA #[])) (W.setCell ⟨M,7,U⟩ (A (Y ⟨g',0,U⟩) (R+1) cap))):=by
    refine⟨cj (Chg.f cb.o) ct (fun x hx=>z6 hx),V,(fun b=>F b∨ai w1 W2 b),_,cr,fun b j=>?_,fun _ h=>z6 h,fun b h=>h.imp id (fun h=>by have:=b8.o;have:=h.1;omega)⟩;injection j with j
    have j:g'=b:=j;subst j;rcases b2 with h|h
    ·exact z6 h
    ·have:=cb.o.size;exact z7 (by omega)
   clear H hV l r z C bb cl b2 cr ct b3 E0 E1 E2 E3 M2 ck cq;go_wp2_with fail
   go_end0
   rw[q.o];exact HP.o
def okN:Except Flt Nat→Nat
 | .ok k=>k
 | .error _=>0
def jU(a:Except Flt Nat) (r:Except Flt (List aw)):Except Flt bW:=match a with
 | .error e=>BT e
 | .ok k=>match r with
  | .error e=>BT e
  | .ok xs=>AF ⟨1,k,0,xs⟩
theorem Ab(F:Nat→Prop)(d M:Nat)(ts:List ae)(rs:List an)(vars:List ByteArray)(nm:ByteArray)(sal nv:Int)(cs:List aW)(acs:List bW)(vT vR vV vC vA:wF)(T:ab)(p:Option Addr)(n c:Nat)(H:Except Flt Nat)(r:Except Flt (List aw))(w:wD)
  (hw:MkW F d M ts rs vars nm sal nv cs acs vT vR vV vC vA w) (hk:T.b=8) (cb:acs.length≤10000) (C:∀k,H=AF k→k≤10000)
  (bk:∀W,FK w W→xL xD 74 #[xV (Y ⟨M,0,U⟩),xS #[I O 8,J T.f,I Z T.h,I Z T.y,A p n c]] W (oH H lZ W))
  (hex:∀W,FK w W→xL xD 77 #[xV (Y ⟨M,0,U⟩),A p n c] W (jI d r W)) :
  xL xD 44 #[xV (Y ⟨M,0,U⟩),xS #[I O T.b,J T.f,I Z T.h,I Z T.y,A p n c]] w (iM F d M ts rs vars nm sal nv cs acs vT vR vV vC vA (jU H r) w):=by
 rw[hk];obtain⟨L,N,cc⟩:=hw.a.b;subst cc;obtain⟨Q,al⟩:=zzy (acs.length);have HN:=Hd al;rw[al]at cb;obtain⟨w1,ad⟩:=zzx ((w.alloc (wq #[I O 8,J T.f,I Z T.h,I Z T.y,A p n c] 25)).alloc (wq #[I O 4,I Z 0,I Z 0,A U 0 0] 70));obtain⟨af,aq,_⟩:=ap w (wq #[I O 8,J T.f,I Z T.h,I Z T.y,A p n c] 25) (wq #[I O 4,I Z 0,I Z 0,A U 0 0] 70);have z:FK w w1:=by rw[ad];exact ((EP _ w).alloc (EO _) _).alloc (by simp) _
 rw[←ad]at af aq;obtain⟨bl,ak,cV,ar,D,ck⟩:=zz6 (fun g hg=>hw.a.lt (g:=g) hg) (fun b j=>hw.b (b:=b) j) af aq z (hw.z z);have av:Hid (w.heap.size+2≤w1.heap.size):=by
  have h:=(EN.1 ar.o).1
  show _≤_
  omega
 have bn:=Hd (fun b (j:F b)=>(hw.f b j).1);obtain⟨cl,cr⟩:=zz2 (fun (W:wD) (h:FK w1 W)=>bk W (z.trans (h.mono z.size))) (fun (W:wD) (h:FK w1 W)=>hex W (z.trans (h.mono z.size)));obtain⟨e0,e1,e2,e3,e4⟩:=cells5 af;obtain⟨t,a1⟩:∃t:Nat,t=okN H:=⟨_,rfl⟩;have bq:Hid (∀k,H=AF k→t=k):=fun k h=>by rw[a1,h];rfl
 have cW:t≤10000:=by
  rw[a1]
  cases H with
  | ok k=>exact C k V
  | error e=>exact Fa _
 clear af aq z hw hk al bk hex a1 C
 go_enter Tryz.func44,Tryz.ntmps44
 go_upto_region 4 with fail
 change AR _ _ _ _ ((w.alloc (wq #[I O 8,J T.f,I Z T.h,I Z T.y,A p n c] 25)).alloc (wq #[I O 4,I Z 0,I Z 0,A U 0 0] 70));rw[←ad];clear ad;have E0:=fun x:Wb w1=>x.b e0
 have E1:=fun x:Wb w1=>x.b e1
 have E2:=fun x:Wb w1=>x.b e2
 have E3:=fun x:Wb w1=>x.b e3
 have E4:=fun x:Wb w1=>x.b e4
 refine RP.wp_region_effP (by kernel_rfl) 7 [2,6] [] (fun _ W=>∃x:Wb w1,W=x.1) (fun W W'=>FK W W') (fun i ys=>if i=2 then lZ t else ys.getD 0 At) (fun i W ys=>if i=2 then (∃k,H=AF k) else if i=6 then (∃es,r=AF es∧ju w1 d es W (ys.getD 0 At)) else True)
  (fun ch W=>FK w W∧∃er,jU H r=BT er∧Ending.panicked ch=aU er.1 er.2) ?_ (by kernel_rfl) (fun _ _ _ _ _ _ h j=>bC h j) (fun i W W' ys h _ j=>by
   split at h
   ·rw[rv (by assumption)];exact h
   ·rw[qv (by assumption)]
    split at h
    ·rw[rv (by assumption)];obtain⟨es,h1,h2⟩:=h;exact⟨es,h1,h2.z j⟩
    ·rw[qv (by assumption)];trivial) ⟨⟨w1.drew,(EP _ _).drew⟩,V⟩ ?_
 ·rintro a ch W hd ⟨j,er,h1,h2⟩;refine⟨hd,Chg.f j,?_⟩;rw[h1];exact h2
 simp only[EY,Fi,EZ,Fh]
 repeat (refine RP.b (fun W=>∃x:Wb w1,W=x.1) (fun _ _ _ h=>h) V V V ⟨⟨w1.drew,(EP _ _).drew⟩,V⟩ ?_;go_big_quiet_step (fail);refine Bk ?_)
 refine RP.f V V ?_ (fun br=>?_)
 ·intro W hC _ P;obtain⟨s9,_,x,rfl⟩:=hC;refine RP.uponP_call 74 _ _ V (enters_of Tryz.func74 (by kernel_rfl) V) #[xV (Y ⟨M,0,U⟩),xS #[I O 8,J T.f,I Z T.h,I Z T.y,A p n c]] (by simp[Act.eval]) ((cl.o x.1 x.2).mono ?_);rintro e W' ⟨j,he⟩
  cases C:H with
  | error er =>
   rw[C]at he;have he:e=aU er.1 er.2:=he;subst he;exact z7 ⟨_,V,D.o.trans ((x.2.trans (j.mono x.2.size)).mono D.o.size),er,V,V⟩
  | ok k =>
   rw[C]at he;have he:e=z8 (lZ k):=he;subst he;exact z6 ⟨_,V,[],by show lZ k=lZ t;rw[bq.o k C],j,j,k,V⟩
 simp only[B4,EQ,EW,EV,Nat.reduceAdd,↓reduceIte,lZ]
 repeat (refine RP.b (fun W=>∃x:Wb w1,W=x.1) (fun _ _ _ h=>h) V V V ⟨⟨w1.drew,(EP _ _).drew⟩,V⟩ ?_;go_big_quiet_step (fail);refine Bk ?_)
 refine RP.f V V ?_ (fun bt=>?_)
 ·intro W hC _ P;obtain⟨s9,_,x,rfl⟩:=hC;have ct:∃k,H=AF k:=P 2 br (by kernel_rfl) V;refine RP.uponP_call 77 _ _ V (enters_of Tryz.func77 (by kernel_rfl) V) #[xV (Y ⟨M,0,U⟩),A p n c] (by simp[Act.eval]) ((cr.o x.1 x.2).mono ?_);rintro e W' ⟨j,he⟩;obtain⟨k,hk⟩:=ct
  cases hr:r with
  | error er =>
   rw[hr]at he;have he:e=aU er.1 er.2:=he;subst he;exact z7 ⟨_,V,D.o.trans ((x.2.trans (j.mono x.2.size)).mono D.o.size),er,by rw[hk];rfl,V⟩
  | ok es =>
   rw[hr]at he;obtain⟨v,rfl,l,cu⟩:=he;exact z6 ⟨_,V,[v],V,j,j,es,V,ju.of x.2.size l cu⟩
 simp only[B4,EQ,EW,EV,Nat.reduceAdd,Nat.reduceEqDiff,↓reduceIte]
 repeat (refine RP.b (fun W=>∃x:Wb w1,W=x.1) (fun _ _ _ h=>h) V V V ⟨⟨w1.drew,(EP _ _).drew⟩,V⟩ ?_;go_big_quiet_step (fail);refine wpQuiet_nil ?_)
 refine RP.h ?_;intro W hS P;obtain⟨x,rfl⟩:=hS;obtain⟨k,hk⟩:∃k,H=AF k:=P 2 br V;obtain⟨xs,bB,l⟩:∃es,r=AF es∧ju w1 d es x.1 (bt.getD 0 At):=P 6 bt V;obtain⟨q,cq,hv⟩:=Rd.b l;obtain⟨u,bR⟩:=zzy (xs.length);rw[bR]at hv;rw[hv];rw[hv]at l;have b0:Hid (jU H r=AF ⟨1,t,0,xs⟩):=by show _=_;rw[hk,bB,bq.o k hk];rfl
 obtain⟨W2,b1⟩:=zzx (x.1);have R:=x.2;rw[←b1]at l R ⊢;have cv:Hid ((aL d).K W2 (ai w1 W2) xs (A q u cq)):=l;obtain⟨cx,a6,ba⟩:=zz3 (D.o.trans (R.mono D.o.size)) (aa R ar.o (EN.1 ar.o).1) (ck.o.z R);clear l P hv bB hk E0 E1 E2 E3 E4 e0 e1 e2 e3 e4 bR R b1 x;obtain⟨s,G⟩:=zzx (st4 W2 (w.heap.size+1) (I O 1) (I Z (t:Int)) (I Z 0) (A q u cq));have S:Hid (s.heap[w.heap.size+1]?=Y (wq #[I O 1,I Z (t:Int),I Z 0,A q u cq] 70 (0,0))):=by show _=_;rw[G];exact vg a6.o _ _ _ _
 have b2:Hid (FK w s):=by show Below _ _ _;rw[G];exact od cx.o (Fl _) _ _ _ _
 have y:Hid (MkW (fun b=>F b∨ai w1 W2 b) d M ts rs vars nm sal nv cs acs vT vR vV vC (A L acs.length N) s):=by
  show MkW _ _ _ _ _ _ _ _ _ _ _ _ _ _ _ _ _
  rw[G];refine uQ ba.o (fun _ h=>z6 h) (fun b j=>?_) (fun ho=>by have:=ak.o _ ho;omega) _ _ _ _;rcases j with j|j
  ·exact⟨(ba.o.f b j).1,(ba.o.f b j).2,by have:=bn.o b j;omega⟩
  ·have h1:=j.1;have h2:=av.o;exact⟨j.2,fun ho=>by have:=ak.o _ ho;omega,by omega⟩
 have cC:Hid ((aL d).K s (fun b=>F b∨ai w1 W2 b) xs (A q u cq)):=by
  show (aL d).K _ _ _ _
  rw[G];exact Rd.y (fun _ h=>z7 h) (Rd.f (fun b j o ho=>(ow _ _ _ _ b (by have:=j.1;have:=av.o;omega)).trans ho) cv.o)
 obtain⟨e0,e1,e2,e3⟩:=gu a6.o;have f0:=ac a6.o;go_upto_region 10 with fail
 change AR _ _ _ _ (st4 W2 (w.heap.size+1) (I O 1) (I Z (t:Int)) (I Z 0) (A q u cq));rw[←G];clear G e0 e1 e2 e3 f0;obtain⟨us,X,b3⟩:=y.o.a;rw[HN.o]at X;obtain⟨b4,cR⟩:=zz2 X b3;have e0:s.cell? ⟨w.heap.size+1,0,U⟩=Y (I O 1):=by rw[FI _ _ _ _ _ _ S.o];rfl
 have e1:s.cell? ⟨w.heap.size+1,1,U⟩=Y (I Z (t:Int)):=by rw[FI _ _ _ _ _ _ S.o];rfl
 have e2:s.cell? ⟨w.heap.size+1,2,U⟩=Y (I Z 0):=by rw[FI _ _ _ _ _ _ S.o];rfl
 have e3:s.cell? ⟨w.heap.size+1,3,U⟩=Y (A q u cq):=by rw[FI _ _ _ _ _ _ S.o];rfl
 have bb:s.cell? ⟨M,7,U⟩=Y (A L Q N):=by rw[FI _ _ _ _ _ _ y.o.m,←HN.o];rfl
 have hK:∀b,(b=M∨b=w.heap.size+1)→b<s.heap.size∧(A L Q N).ownBlock≠Y b:=fun b j=>by
  rw[←HN.o];rcases j with rfl|rfl
  ·exact⟨y.o.lt,row_ne y.o.m y.o.a (by decide)⟩
  ·exact⟨(EN.1 S.o).1,fun e=>by have:=bl.o _ e;omega⟩
 have b5:=Hd (gl (E:=70) (sz:=4) (row:=us++[I O 1,I Z (t:Int),I Z 0,A q u cq]) (K:=(fun b=>b=M∨b=w.heap.size+1)) hK);have E0:=fun x:Ks s (fun b=>b=M∨b=w.heap.size+1)=>x.b (z7 V) e0
 have E1:=fun x:Ks s (fun b=>b=M∨b=w.heap.size+1)=>x.b (z7 V) e1
 have E2:=fun x:Ks s (fun b=>b=M∨b=w.heap.size+1)=>x.b (z7 V) e2
 have E3:=fun x:Ks s (fun b=>b=M∨b=w.heap.size+1)=>x.b (z7 V) e3
 have M2:=fun x:Ks s (fun b=>b=M∨b=w.heap.size+1)=>x.b (z6 V) bb
 clear X b3 e0 e1 e2 e3 bb hK;refine RE.u (by kernel_rfl) 9 [7,8] [8] (stA 70 4 s L Q N (us++[I O 1,I Z (t:Int),I Z 0,A q u cq])) (ApR s) (fun _ ys=>ys.getD 0 At) (phA 70 4 s L Q N [I O 1,I Z (t:Int),I Z 0,A q u cq] (us++[I O 1,I Z (t:Int),I Z 0,A q u cq]) 7 8) (by kernel_rfl) (fun _ _ _ _ _ _ h j=>h.z j) (fun _ _ _ _ h _ hR=>h.C hR) stA.zero ?_;simp only[EY,Fi,EZ,Fh]
 repeat (refine RE.b (fun W=>∃x:Ks s (fun b=>b=M∨b=w.heap.size+1),W=x.1) (b5.o _) V V V stA.zero ?_;go_big_quiet_step (fail);refine Bk ?_)
 refine RE.f V V ?_ (fun cT=>?_)
 ·intro W hC hS P;obtain⟨s9,_,h9⟩:=hC;exact cB fH (vs:=[I O 1,I Z (t:Int),I Z 0,A q u cq]) _ V V V h9.h (fun v W' j ho=>⟨[v],V,j,ApR.f j,ho⟩)
 simp only[B4,EQ,EW,EV];refine RE.f V V ?_ (fun b6=>?_)
 ·intro W hC hS P;obtain⟨x,rfl⟩:∃x:Wb s,W=x.1:=hS V;exact eC fH (p:=L) (n:=Q) (c:=N) (w4:=s) (vs:=[I O 1,I Z (t:Int),I Z 0,A q u cq]) (xs:=us) _ _ V V (P 7 cT (by kernel_rfl) V) V (by simp[Value.oneCell']) x.2 b4.o (by omega) (fun v' W' h1 h2 h3=>⟨[v'],V,h1,h2,h3⟩)
 simp only[B4,EQ,EW,EV];refine RE.h ?_;intro W hS P;have hS:ApS 70 4 s L Q N (us++[I O 1,I Z (t:Int),I Z 0,A q u cq]) W:=hS;have hV:ApV 70 4 s L Q N (us++[I O 1,I Z (t:Int),I Z 0,A q u cq]) W (b6.getD 0 At):=P 8 b6 V;obtain⟨g',cap,eg,hg,hC,l⟩:=eZ hS hV;rw[eg];have b7:Chg (fun b=>(A L acs.length N).ownBlock=Y b) s W:=by rw[HN.o];exact hC
 have bc:(A L acs.length N).ownBlock=Y g'∨s.heap.size≤g':=by rw[HN.o];exact hg
 have b8:(bA d).at_ s (fun b=>F b∨ai w1 W2 b) ⟨1,(t:Int),0,xs⟩ [I O 1,I Z (t:Int),I Z 0,A q u cq]:=fP.2 ⟨show U8 1 from ⟨by decide,by decide⟩,⟨by show (-9223372036854775808:Int)≤(t:Int);omega,by show (t:Int)<9223372036854775808;omega⟩,(show I64 0 from ⟨by decide,by decide⟩),A q u cq,V,cC.o⟩;obtain⟨b9,ca,bd⟩:=y.o.pushA HN.o cR.o b8 bc b7 l;have bb:W.cell? ⟨M,7,U⟩=Y (A L Q N):=by rw[FI _ _ _ _ _ _ (bd.trans y.o.m),←HN.o];rfl
 have c0:=bK (bd.trans y.o.m) 7;have HP:Hid (iM F d M ts rs vars nm sal nv cs acs vT vR vV vC (A L acs.length N) (AF ⟨1,(t:Int),0,xs⟩) w (z8 (CA #[])) (W.setCell ⟨M,7,U⟩ (A (Y ⟨g',0,U⟩) (Q+1) cap))):=by
  refine⟨cj (Chg.f b2.o) ca (fun x hx=>z6 hx),V,(fun b=>F b∨ai w1 W2 b),_,b9,fun b j=>?_,fun _ h=>z6 h,fun b h=>h.imp id (fun h=>by have:=av.o;have:=h.1;omega)⟩;injection j with j
  have j:g'=b:=j;subst j;rcases bc with h|h
  ·exact z6 h
  ·have:=b2.o.size;exact z7 (by omega)
 clear hS hV P eg hg hC l b7 bc b9 ca bd E0 E1 E2 E3 M2 b5 b8;go_wp2_with fail
 go_end0
 rw[b0.o];exact HP.o
theorem i8:Elem 64 47 10 120:=Elem.of (z:=xS #[I O 0,I Z 0,A U 0 0,I O 0,I O 0,I Z 0,J ByteArray.empty,I Z 0,I O 0,A U 0 0]) Tryz.underlying47 (by kernel_rfl) (by kernel_rfl) (by decide) (by decide)
def kY(F:Nat→Prop) (d M:Nat) (ts:List ae) (rs:List an) (nm:ByteArray) (sal nv:Int) (cs:List aW) (acs:List bW) (vT vR vV vC vA:wF) (r:Except Flt (List ByteArray×aW)) (w:wD) (e:Ending) (w':wD):Prop:=
 Chg (bj M [vT,vR,vV,vC,vA]) w w'∧match r with
 | .ok x=>e=z8 (AJ true)∧∃(F':Nat→Prop) (a c:wF),MkW F' d M ts rs x.1 nm sal nv (cs++[x.2]) acs vT vR a c vA w'∧Grew vV a w.heap.size∧Grew vC c w.heap.size∧(∀b,F b→F' b)∧∀b,F' b→F b∨w.heap.size≤b
 | .error er=>e=aU er.1 er.2
def nM(W:wD) (g:Nat) (x0 x1 x2 x3 x4 x5 x6 x7 x8 x9:wF):World:=(((((((((W.setCell ⟨g,0,U⟩ x0).setCell ⟨g,1,U⟩ x1).setCell ⟨g,2,U⟩ x2).setCell ⟨g,3,U⟩ x3).setCell ⟨g,4,U⟩ x4).setCell ⟨g,5,U⟩ x5).setCell ⟨g,6,U⟩ x6).setCell ⟨g,7,U⟩ x7).setCell ⟨g,8,U⟩ x8).setCell ⟨g,9,U⟩ x9
section
variable {W w:wD} {g B:Nat} (x0 x1 x2 x3 x4 x5 x6 x7 x8 x9:wF)
theorem Dp{l k j i f e d c b a:wF}{t:CD}(h:W.heap[g]?=Y (wq #[l,k,j,i,f,e,d,c,b,a] t (0,0))):(nM W g x0 x1 x2 x3 x4 x5 x6 x7 x8 x9).heap[g]?=Y (wq #[x0,x1,x2,x3,x4,x5,x6,x7,x8,x9] t (0,0)):=by
 have m:(W.setCell ⟨g,0,U⟩ x0).heap[g]?=Y (wq #[x0,k,j,i,f,e,d,c,b,a] t (0,0)):=heap_set h 0 x0;have n:((W.setCell ⟨g,0,U⟩ x0).setCell ⟨g,1,U⟩ x1).heap[g]?=Y (wq #[x0,x1,j,i,f,e,d,c,b,a] t (0,0)):=heap_set m 1 x1;have o:(((W.setCell ⟨g,0,U⟩ x0).setCell ⟨g,1,U⟩ x1).setCell ⟨g,2,U⟩ x2).heap[g]?=Y (wq #[x0,x1,x2,i,f,e,d,c,b,a] t (0,0)):=heap_set n 2 x2;have p:((((W.setCell ⟨g,0,U⟩ x0).setCell ⟨g,1,U⟩ x1).setCell ⟨g,2,U⟩ x2).setCell ⟨g,3,U⟩ x3).heap[g]?=Y (wq #[x0,x1,x2,x3,f,e,d,c,b,a] t (0,0)):=heap_set o 3 x3;have q:(((((W.setCell ⟨g,0,U⟩ x0).setCell ⟨g,1,U⟩ x1).setCell ⟨g,2,U⟩ x2).setCell ⟨g,3,U⟩ x3).setCell ⟨g,4,U⟩ x4).heap[g]?=Y (wq #[x0,x1,x2,x3,x4,e,d,c,b,a] t (0,0)):=heap_set p 4 x4;have r:((((((W.setCell ⟨g,0,U⟩ x0).setCell ⟨g,1,U⟩ x1).setCell ⟨g,2,U⟩ x2).setCell ⟨g,3,U⟩ x3).setCell ⟨g,4,U⟩ x4).setCell ⟨g,5,U⟩ x5).heap[g]?=Y (wq #[x0,x1,x2,x3,x4,x5,d,c,b,a] t (0,0)):=heap_set q 5 x5;have s:(((((((W.setCell ⟨g,0,U⟩ x0).setCell ⟨g,1,U⟩ x1).setCell ⟨g,2,U⟩ x2).setCell ⟨g,3,U⟩ x3).setCell ⟨g,4,U⟩ x4).setCell ⟨g,5,U⟩ x5).setCell ⟨g,6,U⟩ x6).heap[g]?=Y (wq #[x0,x1,x2,x3,x4,x5,x6,c,b,a] t (0,0)):=heap_set r 6 x6;have u:((((((((W.setCell ⟨g,0,U⟩ x0).setCell ⟨g,1,U⟩ x1).setCell ⟨g,2,U⟩ x2).setCell ⟨g,3,U⟩ x3).setCell ⟨g,4,U⟩ x4).setCell ⟨g,5,U⟩ x5).setCell ⟨g,6,U⟩ x6).setCell ⟨g,7,U⟩ x7).heap[g]?=Y (wq #[x0,x1,x2,x3,x4,x5,x6,x7,b,a] t (0,0)):=heap_set s 7 x7;have v:(((((((((W.setCell ⟨g,0,U⟩ x0).setCell ⟨g,1,U⟩ x1).setCell ⟨g,2,U⟩ x2).setCell ⟨g,3,U⟩ x3).setCell ⟨g,4,U⟩ x4).setCell ⟨g,5,U⟩ x5).setCell ⟨g,6,U⟩ x6).setCell ⟨g,7,U⟩ x7).setCell ⟨g,8,U⟩ x8).heap[g]?=Y (wq #[x0,x1,x2,x3,x4,x5,x6,x7,x8,a] t (0,0)):=heap_set u 8 x8;have x:((((((((((W.setCell ⟨g,0,U⟩ x0).setCell ⟨g,1,U⟩ x1).setCell ⟨g,2,U⟩ x2).setCell ⟨g,3,U⟩ x3).setCell ⟨g,4,U⟩ x4).setCell ⟨g,5,U⟩ x5).setCell ⟨g,6,U⟩ x6).setCell ⟨g,7,U⟩ x7).setCell ⟨g,8,U⟩ x8).setCell ⟨g,9,U⟩ x9).heap[g]?=Y (wq #[x0,x1,x2,x3,x4,x5,x6,x7,x8,x9] t (0,0)):=heap_set v 9 x9;exact x
theorem yX(b:Below B w W)(a:B≤g):Below B w (nM W g x0 x1 x2 x3 x4 x5 x6 x7 x8 x9):=
 (((((((((b.setCell a x0).setCell a x1).setCell a x2).setCell a x3).setCell a x4).setCell a x5).setCell a x6).setCell a x7).setCell a x8).setCell a x9
theorem re(k:Nat)(h:k≠g):(nM W g x0 x1 x2 x3 x4 x5 x6 x7 x8 x9).heap[k]?=W.heap[k]?:=by
 have a:∀(b:wD) (i:Nat) (u:wF),(b.setCell ⟨g,i,U⟩ u).heap[k]?=b.heap[k]?:=fun b i u=>ER b ⟨g,i,U⟩ u k h
 unfold nM;rw[a,a,a,a,a,a,a,a,a,a]
theorem zK:(nM W g x0 x1 x2 x3 x4 x5 x6 x7 x8 x9).heap.size=W.heap.size:=by simp[nM,World.setCell]
end
theorem cL{w:wD}{T:Nat}{a b c d e f g h i j:wF}{t:CD}(k:w.heap[T]?=Y (wq #[a,b,c,d,e,f,g,h,i,j] t (0,0))):w.cell? ⟨T,0,U⟩=Y a∧w.cell? ⟨T,1,U⟩=Y b∧w.cell? ⟨T,2,U⟩=Y c∧w.cell? ⟨T,3,U⟩=Y d∧w.cell? ⟨T,4,U⟩=Y e∧w.cell? ⟨T,5,U⟩=Y f∧w.cell? ⟨T,6,U⟩=Y g∧w.cell? ⟨T,7,U⟩=Y h∧w.cell? ⟨T,8,U⟩=Y i∧w.cell? ⟨T,9,U⟩=Y j:=by simp[World.cell?,k]
theorem aE{w:wD}{T:Nat}{cs:Array wF}{t:CD}(a:w.heap[T]?=Y (wq cs t (0,0))):∀i:Nat,w.frozen? ⟨T,i,U⟩=false:=fun i=>bK a i
theorem A5(F:Nat→Prop)(d M:Nat)(ts:List ae)(rs:List an)(vars:List ByteArray)(nm:ByteArray)(sal nv:Int)(cs:List aW)(acs:List bW)(vT vR vV vC vA:wF)(T:ab)(p:Option Addr)(n c:Nat)(w:wD)
  (hw:MkW F d M ts rs vars nm sal nv cs acs vT vR vV vC vA w) (b:T.b≠5∧T.b≠6∧T.b≠7) :
  xL xD 43 #[xV (Y ⟨M,0,U⟩),xS #[I O T.b,J T.f,I Z T.h,I Z T.y,A p n c]] w (fun e w'=>e=z8 (AJ false)∧FK w w'∧MkW F d M ts rs vars nm sal nv cs acs vT vR vV vC vA w'):=by
 have i:¬((T.b:Int)=5):=by have:=b.1;omega
 have j:¬((T.b:Int)=6):=by have:=b.2.1;omega
 have k:¬((T.b:Int)=7):=by have:=b.2.2;omega
 have a:FK w ((w.alloc (wq #[I O T.b,J T.f,I Z T.h,I Z T.y,A p n c] 25)).alloc (wq #[I O 0,I Z 0,A U 0 0,I O 0,I O 0,I Z 0,J ⟨#[]⟩,I Z 0,I O 0,A U 0 0] 64)):=((EP _ w).alloc (EO _) _).alloc (by simp) _;obtain⟨f,h⟩:=zz2 a (hw.z a);clear a hw b
 go_enter Tryz.func43,Tryz.ntmps43
 go_wp2_with fail
 go_ret;exact⟨V,f.o,h.o⟩
theorem fo{w:wD}{F G:Nat→Prop}{d:Nat}{a:List aw}{s:wF}(c:∀b,F b→G b)(h:cZ w F d a s):cZ w G d a s:=by
 cases d with
 | zero=>exact h
 | succ d=>exact Rd.y c h
theorem fc{w w':wD}{F:Nat→Prop}{d:Nat}{a:List aw}{s:wF}(c:∀b,F b→∀o,w.heap[b]?=Y o→w'.heap[b]?=Y o)(h:cZ w F d a s):cZ w' F d a s:=by
 cases d with
 | zero=>exact h
 | succ d=>exact Rd.f c h
def jL(vars:List ByteArray) (r:Except Flt aw):Except Flt (List ByteArray×aW):=match r with
 | .error e=>BT e
 | .ok x=>AF (vars,⟨3,0,[],x⟩)
theorem yZ(F:Nat→Prop)(d M:Nat)(ts:List ae)(rs:List an)(vars:List ByteArray)(nm:ByteArray)(sal nv:Int)(cs:List aW)(acs:List bW)(vT vR vV vC vA:wF)(T K:ab)(b off c:Nat)(s:wF)(r:Except Flt aw)(n:Nat)(w:wD)
  (hw:MkW F d M ts rs vars nm sal nv cs acs vT vR vV vC vA w) (hk:T.b=7) (b3:cs.length≤10000) (hn:0<n)
  (c0:w.cell? ⟨b,off,U⟩=Y (I O K.b)) (c1:w.cell? ⟨b,off+1,U⟩=Y (J K.f)) (c2:w.cell? ⟨b,off+2,U⟩=Y (I Z K.h)) (c3:w.cell? ⟨b,off+3,U⟩=Y (I Z K.y)) (c4:w.cell? ⟨b,off+4,U⟩=Y s)
  (hex:∀W,FK w W→xL xD 76 #[xV (Y ⟨M,0,U⟩),xS #[I O K.b,J K.f,I Z K.h,I Z K.y,s]] W (dR d r W)) :
  xL xD 43 #[xV (Y ⟨M,0,U⟩),xS #[I O T.b,J T.f,I Z T.h,I Z T.y,A (Y ⟨b,off,U⟩) n c]] w (kY F d M ts rs nm sal nv cs acs vT vR vV vC vA (jL vars r) w):=by
 rw[hk];obtain⟨u,y,b4⟩:=hw.c.b;subst b4;obtain⟨z,S⟩:=zzy (cs.length);have X:=Hd S;rw[S]at b3;obtain⟨w1,D⟩:=zzx ((w.alloc (wq #[I O 7,J T.f,I Z T.h,I Z T.y,A (Y ⟨b,off,U⟩) n c] 25)).alloc (wq #[I O 0,I Z 0,A U 0 0,I O 0,I O 0,I Z 0,J ⟨#[]⟩,I Z 0,I O 0,A U 0 0] 64));obtain⟨G,ad,_⟩:=ap w (wq #[I O 7,J T.f,I Z T.h,I Z T.y,A (Y ⟨b,off,U⟩) n c] 25) (wq #[I O 0,I Z 0,A U 0 0,I O 0,I O 0,I Z 0,J ⟨#[]⟩,I Z 0,I O 0,A U 0 0] 64);have k:FK w w1:=by rw[D];exact ((EP _ w).alloc (EO _) _).alloc (by simp) _
 rw[←D]at G ad;obtain⟨a1,P⟩:=zz2 (fun g hg=>hw.c.lt (g:=g) hg) (fun b i=>hw.b (b:=b) i);have a6:=Hd (fun b (i:F b)=>(hw.f b i).1);obtain⟨ca,af,ba,b5⟩:=zz4 G ad k (hw.z k);have H:Hid (w.heap.size+2≤w1.heap.size):=by
  have h:=(EN.1 af.o).1
  show _≤_
  omega
 have HC:=Hd (hex w1 k);obtain⟨e0,e1,e2,e3,e4⟩:=cells5 G;have d0:=(k.cell (p:=⟨b,off,U⟩) (dW c0)).trans c0;have d1:=(k.cell (p:=⟨b,off+1,U⟩) (dW c1)).trans c1;have d2:=(k.cell (p:=⟨b,off+2,U⟩) (dW c2)).trans c2;have d3:=(k.cell (p:=⟨b,off+3,U⟩) (dW c3)).trans c3;have d4:=(k.cell (p:=⟨b,off+4,U⟩) (dW c4)).trans c4;have cb:(0:Int)<n:=by omega
 clear G ad k hw hk hex S c0 c1 c2 c3 c4
 go_enter Tryz.func43,Tryz.ntmps43
 go_upto_region 16 with fail
 change AR _ _ _ _ ((w.alloc (wq #[I O 7,J T.f,I Z T.h,I Z T.y,A (Y ⟨b,off,U⟩) n c] 25)).alloc (wq #[I O 0,I Z 0,A U 0 0,I O 0,I O 0,I Z 0,J ⟨#[]⟩,I Z 0,I O 0,A U 0 0] 64));rw[←D];clear D;go_wp2_with fail
 refine HC.o.mono ?_;rintro e W2 ⟨L,he⟩;obtain⟨bb,ak,bc⟩:=zz3 (ba.o.trans (L.mono ba.o.size)) (aa L af.o (EN.1 af.o).1) (b5.o.z L);clear e0 e1 e2 e3 e4 d0 d1 d2 d3 d4 L
 cases r with
 | error er =>
  have he:e=aU er.1 er.2:=he;subst he;exact⟨V,Chg.f bb.o,V⟩
 | ok E =>
 obtain⟨v,rfl,Q,al⟩:=he;obtain⟨q,cq,hv⟩:=bg al;obtain⟨nq,bd⟩:=zzy (E.u.length);rw[bd]at hv;subst hv;have bk:=Hd Q;have bl:Hid (jL vars (AF E)=AF (vars,⟨3,0,[],E⟩)):=rfl;obtain⟨a,t⟩:=zzx (nM W2 (w.heap.size+1) (I O 3) (I Z 0) (A U 0 0) (I O E.b) (I O E.f.b) (I Z E.f.h) (J E.f.f) (I Z E.h) (I O E.op) (A q nq cq));have j:Hid (a.heap[w.heap.size+1]?=Y (wq #[I O 3,I Z 0,A U 0 0,I O E.b,I O E.f.b,I Z E.f.h,J E.f.f,I Z E.h,I O E.op,A q nq cq] 64 (0,0))):=by show _=_;rw[t];exact Dp _ _ _ _ _ _ _ _ _ _ ak.o
 have bn:Hid (FK w a):=by show Below _ _ _;rw[t];exact yX _ _ _ _ _ _ _ _ _ _ bb.o (Fl _)
 have b6:Hid (w.heap.size≤a.heap.size):=bn.o.size;have b7:Hid (cZ a (fun b=>F b∨ai w1 W2 b) d E.u (A q nq cq)):=by
  show cZ _ _ _ _ _
  rw[t];exact fo (fun _ h=>z7 h) (fc (fun b i o ho=>(re _ _ _ _ _ _ _ _ _ _ b (by have:=i.1;have:=H.o;omega)).trans ho) al)
 have l:Hid (MkW (fun b=>F b∨ai w1 W2 b) d M ts rs vars nm sal nv cs acs vT vR vV (A u cs.length y) vA a):=by
  show MkW _ _ _ _ _ _ _ _ _ _ _ _ _ _ _ _ _
  rw[t];refine (bc.o.grow (F':=(fun b=>F b∨ai w1 W2 b)) (fun _ h=>z6 h) (fun b i=>?_)).upd (by rw[zK];exact EO _) (fun x N=>re _ _ _ _ _ _ _ _ _ _ x ?_)
  ·rcases i with i|i
   ·exact bc.o.f b i
   ·have h1:=i.1;have h2:=H.o;exact⟨i.2,fun ho=>by have:=P.o _ ho;omega⟩
  ·rcases N with (N|N)|N
   ·have:=a6.o x N;omega
   ·have h1:=N.1;have h2:=H.o;omega
   ·have:=P.o _ N;omega
 obtain⟨e0,e1,e2,e3,e4,e5,e6,e7,e8,e9⟩:=cL ak.o;have f0:=aE ak.o;clear Q al bd;go_upto_region 17 with fail
 change AR _ _ _ _ (nM W2 (w.heap.size+1) (I O 3) (I Z 0) (A U 0 0) (I O E.b) (I O E.f.b) (I Z E.f.h) (J E.f.f) (I Z E.h) (I O E.op) (A q nq cq));rw[←t];clear t e0 e1 e2 e3 e4 e5 e6 e7 e8 e9 f0;obtain⟨us,C,bq⟩:=l.o.c;rw[X.o,dP]at C;obtain⟨br,b8⟩:=zz2 C bq;have e0:a.cell? ⟨w.heap.size+1,0,U⟩=Y (I O 3):=by rw[FI _ _ _ _ _ _ j.o];rfl
 have e1:a.cell? ⟨w.heap.size+1,1,U⟩=Y (I Z 0):=by rw[FI _ _ _ _ _ _ j.o];rfl
 have e2:a.cell? ⟨w.heap.size+1,2,U⟩=Y (A U 0 0):=by rw[FI _ _ _ _ _ _ j.o];rfl
 have e3:a.cell? ⟨w.heap.size+1,3,U⟩=Y (I O E.b):=by rw[FI _ _ _ _ _ _ j.o];rfl
 have e4:a.cell? ⟨w.heap.size+1,4,U⟩=Y (I O E.f.b):=by rw[FI _ _ _ _ _ _ j.o];rfl
 have e5:a.cell? ⟨w.heap.size+1,5,U⟩=Y (I Z E.f.h):=by rw[FI _ _ _ _ _ _ j.o];rfl
 have e6:a.cell? ⟨w.heap.size+1,6,U⟩=Y (J E.f.f):=by rw[FI _ _ _ _ _ _ j.o];rfl
 have e7:a.cell? ⟨w.heap.size+1,7,U⟩=Y (I Z E.h):=by rw[FI _ _ _ _ _ _ j.o];rfl
 have e8:a.cell? ⟨w.heap.size+1,8,U⟩=Y (I O E.op):=by rw[FI _ _ _ _ _ _ j.o];rfl
 have e9:a.cell? ⟨w.heap.size+1,9,U⟩=Y (A q nq cq):=by rw[FI _ _ _ _ _ _ j.o];rfl
 have aq:a.cell? ⟨M,6,U⟩=Y (A u z y):=by rw[FI _ _ _ _ _ _ l.o.m,←X.o];rfl
 have hK:∀b,(b=M∨b=w.heap.size+1)→b<a.heap.size∧(A u z y).ownBlock≠Y b:=fun b i=>by
  rw[←X.o];rcases i with rfl|rfl
  ·exact⟨l.o.lt,row_ne l.o.m l.o.c (by decide)⟩
  ·exact⟨(EN.1 j.o).1,fun e=>by have:=a1.o _ e;omega⟩
 have bt:=Hd (gl (E:=64) (sz:=10) (row:=us++[I O 3,I Z 0,A U 0 0,I O E.b,I O E.f.b,I Z E.f.h,J E.f.f,I Z E.h,I O E.op,A q nq cq]) (K:=(fun b=>b=M∨b=w.heap.size+1)) hK);have E0:=fun x:Ks a (fun b=>b=M∨b=w.heap.size+1)=>x.b (z7 V) e0
 have E1:=fun x:Ks a (fun b=>b=M∨b=w.heap.size+1)=>x.b (z7 V) e1
 have E2:=fun x:Ks a (fun b=>b=M∨b=w.heap.size+1)=>x.b (z7 V) e2
 have E3:=fun x:Ks a (fun b=>b=M∨b=w.heap.size+1)=>x.b (z7 V) e3
 have E4:=fun x:Ks a (fun b=>b=M∨b=w.heap.size+1)=>x.b (z7 V) e4
 have E5:=fun x:Ks a (fun b=>b=M∨b=w.heap.size+1)=>x.b (z7 V) e5
 have E6:=fun x:Ks a (fun b=>b=M∨b=w.heap.size+1)=>x.b (z7 V) e6
 have E7:=fun x:Ks a (fun b=>b=M∨b=w.heap.size+1)=>x.b (z7 V) e7
 have E8:=fun x:Ks a (fun b=>b=M∨b=w.heap.size+1)=>x.b (z7 V) e8
 have E9:=fun x:Ks a (fun b=>b=M∨b=w.heap.size+1)=>x.b (z7 V) e9
 have M2:=fun x:Ks a (fun b=>b=M∨b=w.heap.size+1)=>x.b (z6 V) aq
 clear C bq e0 e1 e2 e3 e4 e5 e6 e7 e8 e9 aq hK;refine RE.u (by kernel_rfl) 9 [7,8] [8] (stA 64 10 a u z y (us++[I O 3,I Z 0,A U 0 0,I O E.b,I O E.f.b,I Z E.f.h,J E.f.f,I Z E.h,I O E.op,A q nq cq])) (ApR a) (fun _ ys=>ys.getD 0 At) (phA 64 10 a u z y [I O 3,I Z 0,A U 0 0,I O E.b,I O E.f.b,I Z E.f.h,J E.f.f,I Z E.h,I O E.op,A q nq cq] (us++[I O 3,I Z 0,A U 0 0,I O E.b,I O E.f.b,I Z E.f.h,J E.f.f,I Z E.h,I O E.op,A q nq cq]) 7 8) (by kernel_rfl) (fun _ _ _ _ _ _ h i=>h.z i) (fun _ _ _ _ h _ hR=>h.C hR) stA.zero ?_;simp only[EY,Fi,EZ,Fh]
 repeat (refine RE.b (fun W=>∃x:Ks a (fun b=>b=M∨b=w.heap.size+1),W=x.1) (bt.o _) V V V stA.zero ?_;go_big_quiet_step (fail);refine Bk ?_)
 refine RE.f V V ?_ (fun b9=>?_)
 ·intro W hC hS hE;obtain⟨s9,_,h9⟩:=hC;exact cB i8 (vs:=[I O 3,I Z 0,A U 0 0,I O E.b,I O E.f.b,I Z E.f.h,J E.f.f,I Z E.h,I O E.op,A q nq cq]) _ V V V h9.h (fun v W' i ho=>⟨[v],V,i,ApR.f i,ho⟩)
 simp only[B4,EQ,EW,EV];refine RE.f V V ?_ (fun bB=>?_)
 ·intro W hC hS hE;obtain⟨x,rfl⟩:∃x:Wb a,W=x.1:=hS V;exact eC i8 (p:=u) (n:=z) (c:=y) (w4:=a) (vs:=[I O 3,I Z 0,A U 0 0,I O E.b,I O E.f.b,I Z E.f.h,J E.f.f,I Z E.h,I O E.op,A q nq cq]) (xs:=us) _ _ V V (hE 7 b9 (by kernel_rfl) V) V (by simp[Value.oneCell']) x.2 br.o (by omega) (fun v' W' h1 h2 h3=>⟨[v'],V,h1,h2,h3⟩)
 simp only[B4,EQ,EW,EV];refine RE.h ?_;intro W hS hE;have hS:ApS 64 10 a u z y (us++[I O 3,I Z 0,A U 0 0,I O E.b,I O E.f.b,I Z E.f.h,J E.f.f,I Z E.h,I O E.op,A q nq cq]) W:=hS;have hV:ApV 64 10 a u z y (us++[I O 3,I Z 0,A U 0 0,I O E.b,I O E.f.b,I Z E.f.h,J E.f.f,I Z E.h,I O E.op,A q nq cq]) W (bB.getD 0 At):=hE 8 bB V;obtain⟨g',cap,eg,hg,hC,R⟩:=eZ hS hV;rw[eg];have bR:Chg (fun b=>(A u cs.length y).ownBlock=Y b) a W:=by rw[X.o];exact hC
 have ar:(A u cs.length y).ownBlock=Y g'∨a.heap.size≤g':=by rw[X.o];exact hg
 have b0:(bf d).at_ a (fun b=>F b∨ai w1 W2 b) ⟨3,0,[],E⟩ [I O 3,I Z 0,A U 0 0,I O E.b,I O E.f.b,I Z E.f.h,J E.f.f,I Z E.h,I O E.op,A q nq cq]:=fw.2 ⟨show U8 3 from ⟨by decide,by decide⟩,show I64 0 from ⟨by decide,by decide⟩,bk.o,A U 0 0,A q nq cq,V,Rd.vn,b7.o⟩;obtain⟨b1,b2,av⟩:=l.o.pushC X.o b8.o b0 ar bR (by rw[dP];exact R);have aq:W.cell? ⟨M,6,U⟩=Y (A u z y):=by rw[FI _ _ _ _ _ _ (av.trans l.o.m),←X.o];rfl
 have cc:=bK (av.trans l.o.m) 6;have HP:Hid (kY F d M ts rs nm sal nv cs acs vT vR vV (A u cs.length y) vA (AF (vars,⟨3,0,[],E⟩)) w (z8 (AJ true)) (W.setCell ⟨M,6,U⟩ (A (Y ⟨g',0,U⟩) (z+1) cap))):=by
  refine⟨cj (Chg.f bn.o) b2 (fun x N=>z6 N),V,(fun b=>F b∨ai w1 W2 b),vV,_,b1,fun b i=>z6 i,fun b i=>?_,fun _ h=>z6 h,fun b h=>h.imp id (fun h=>by have:=H.o;have:=h.1;omega)⟩;injection i with i
  have i:g'=b:=i;subst i;rcases ar with h|h
  ·exact z6 h
  ·have:=b6.o;exact z7 (by omega)
 clear hS hV hE eg hg hC R bR ar b1 b2 av E0 E1 E2 E3 E4 E5 E6 E7 E8 E9 M2 bt b0;go_wp2_with fail
 go_ret;rw[bl.o];exact HP.o
