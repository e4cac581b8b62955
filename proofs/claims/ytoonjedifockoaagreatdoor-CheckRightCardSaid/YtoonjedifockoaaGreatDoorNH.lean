/- Parts of one proof, joined; conditions stand in each theorem. -/
import Derived.Test.YtoonjedifockoaaGreatDoorNF
import Derived.Test.YtoonjedifockoaaGreatDoorNG
namespace Go.Proofs.YtoonjedifockoaaGreatDoor
open Go.IntKind(i64)
open Go.Value(int string slice)
set_option maxHeartbeats 4000000
set_option maxRecDepth 100000
open Go.RowKit
theorem MkW.vars{F:Nat→Prop}{d M:Nat}{ts:List ai}{rs:List aj}{vars:List ByteArray}{nm:ByteArray}{sal nv:Int}{cs:List aC}{acs:List aT}{vT vR vV vC vA:Value}{w:World}(h:MkW F d M ts rs vars nm sal nv cs acs vT vR vV vC vA w):mH M vars vV w:=
 ⟨by rw[Fq _ _ _ _ _ _ h.m];rfl,h.lt,h.v.row (fun b a=>(h.f b a).1) (fun g c=>h.v.lt c)⟩
def st4(W:World) (g:Nat) (a b c d:Value):World:=(((W.setCell ⟨g,0,none⟩ a).setCell ⟨g,1,none⟩ b).setCell ⟨g,2,none⟩ c).setCell ⟨g,3,none⟩ d
theorem uU{W:World}{g:Nat}{x0 x1 x2 x3:Value}{t:TypeId}(h:W.heap[g]?=some (.cells #[x0,x1,x2,x3] t (0,0)))(a b c e:Value):(st4 W g a b c e).heap[g]?=some (.cells #[a,b,c,e] t (0,0)):=
 heap_set (heap_set (heap_set (heap_set h 0 a) 1 b) 2 c) 3 e
theorem mZ{B:Nat}{w W:World}{g:Nat}(f:Below B w W)(e:B≤g)(a b c d:Value):Below B w (st4 W g a b c d):=
 (((f.setCell e a).setCell e b).setCell e c).setCell e d
theorem nl{W:World}{g:Nat}(a b c d:Value)(k:Nat)(h:k≠g):(st4 W g a b c d).heap[k]?=W.heap[k]?:=by
 have e:∀(V:World) (i:Nat) (u:Value),(V.setCell ⟨g,i,none⟩ u).heap[k]?=V.heap[k]?:=fun V i u=>ED V ⟨g,i,none⟩ u k h
 unfold st4;rw[e,e,e,e]
theorem BU{W:World}{g:Nat}(a b c d:Value):(st4 W g a b c d).heap.size=W.heap.size:=by simp[st4,World.setCell]
theorem gK{w:World}{T:Nat}{a b c d:Value}{t:TypeId}(e:w.heap[T]?=some (.cells #[a,b,c,d] t (0,0))):w.cell? ⟨T,0,none⟩=some a∧w.cell? ⟨T,1,none⟩=some b∧w.cell? ⟨T,2,none⟩=some c∧w.cell? ⟨T,3,none⟩=some d:=by simp[World.cell?,e]
theorem uB{F F':Nat→Prop}{d M:Nat}{ts:List ai}{rs:List aj}{vars:List ByteArray}{nm:ByteArray}{sal nv:Int}{cs:List aC}{acs:List aT}{vT vR vV vC vA:Value}{w:World}{g:Nat}(h:MkW F d M ts rs vars nm sal nv cs acs vT vR vV vC vA w)(k:∀b,F b→F' b)
  (i:∀b,F' b→b<w.heap.size∧¬aL M [vT,vR,vV,vC,vA] b∧b≠g) (l:¬aL M [vT,vR,vV,vC,vA] g) (a b c e:Value):MkW F' d M ts rs vars nm sal nv cs acs vT vR vV vC vA (st4 w g a b c e):=
 (h.grow k (fun b j=>⟨(i b j).1,(i b j).2.1⟩)).upd (by rw[BU];exact EA _) (fun x f=>nl _ _ _ _ x (by
  rcases f with f|f
  ·exact (i x f).2.2
  ·exact fun e=>l (e ▸ f)))
def iI(w1:World) (d:Nat) (es:List ag) (W:World) (v:Value):Prop:=(ay d).row W (bj w1 W) es v
theorem iI.below{w1 W W':World}{d:Nat}{es:List ag}{v:Value}(h:iI w1 d es W v)(b:Ft W W'):iI w1 d es W' v:=
 Rd.row_sub (fun _ a=>⟨a.1,EF a.2 b.size⟩) (Rd.row_below h (fun _ a=>a.2) b)
theorem iI.of{w1 W W':World}{d:Nat}{es:List ag}{v:Value}(c:w1.heap.size≤W.heap.size)(h:aX W' (fun b=>bj W W' b∧v.ownBlock≠some b) 50 (ay d) es v)(f:∀g,v.ownBlock=some g→W.heap.size≤g):iI w1 d es W' v:=
 h.row (fun _ e=>⟨EG c e.1.1,e.1.2⟩) (fun g a=>⟨EG c (f g a),h.lt a⟩)
theorem xT(a:Bool)(b:Int)(z:Value)(h:z.cells.size=2):Instr.fill (fun i=>some (i*2,2)) ((Array.range (1*2)).map (z.cells[· % z.cells.size]!)) [(0,.agg #[.bool a,int i64 b])]=some (eR [(a,b)]).toArray:=by
 obtain⟨x,y,c⟩:=size2 h;rw[c]
 kernel_rfl
theorem jP{o:Oper}{a:Act}{W:World}{G:Value→World→Prop}{L:Nat}(b:Bool)(c:Int)(x:Operand)(d:o.op=.buildSlice 174 1 #[(0,x)])(f:a.eval x=.agg #[.bool b,int i64 c])(h:L≤W.heap.size)
  (i:∀v W',Ft W W'→cz L [(b,c)] W' v→G v W'):RE.Upon Tryz.prog o a W G:=by
 refine mh (l:=[(b,c)]) d rfl (by decide) (fun z j=>?_) h i;have e:((#[(0,x)]:Array (Nat×Operand)).map fun (q:Nat×Operand)=>(q.1,a.eval q.2)).toList=[(0,a.eval x)]:=by simp
 rw[e,f];exact xT b c z j
def mm(r:Except Flt (List ag)):Except Flt aT:=match r with
 | .error e=>.error e
 | .ok xs=>.ok ⟨3,0,0,xs⟩
theorem Dw(F:Nat→Prop)(d M:Nat)(ts:List ai)(rs:List aj)(vars:List ByteArray)(nm:ByteArray)(sal nv:Int)(cs:List aC)(acs:List aT)(vT vR vV vC vA:Value)(T:ac)(p:Option Addr)(n c:Nat)(r:Except Flt (List ag))(w:World)
  (hw:MkW F d M ts rs vars nm sal nv cs acs vT vR vV vC vA w) (hk:T.kind=10) (bn:acs.length≤10000)
  (hex:∀W,Ft w W→Calls Tryz.prog 114 #[.pointer (some ⟨M,0,none⟩),.slice p n c] W (iV d r W)) :
  Calls Tryz.prog 83 #[.pointer (some ⟨M,0,none⟩),.agg #[int .u8 T.kind,.string T.text,int i64 T.num,int i64 T.place,.slice p n c]] w (gU F d M ts rs vars nm sal nv cs acs vT vR vV vC vA (mm r) w):=by
 rw[hk];obtain⟨y,z,bq⟩:=hw.a.shape;subst bq;obtain⟨A,N⟩:=zzy (acs.length);have O:=Hd N;rw[N]at bn;obtain⟨w1,G⟩:=zzx ((w.alloc (.cells #[int .u8 10,.string T.text,int i64 T.num,int i64 T.place,.slice p n c] 76)).alloc (.cells #[int .u8 4,int i64 0,int i64 0,slice none 0 0] 58));obtain⟨H,P,_⟩:=am w (.cells #[int .u8 10,.string T.text,int i64 T.num,int i64 T.place,.slice p n c] 76) (.cells #[int .u8 4,int i64 0,int i64 0,slice none 0 0] 58);have I:Ft w w1:=by rw[G];exact ((EB _ w).alloc (EA _) _).alloc (by simp) _
 rw[←G]at H P;have af:=Hd (fun g hg=>hw.a.lt (g:=g) hg);have L:=Hd (fun b j=>hw.own_lt (b:=b) j);have b1:=Hd H;have Q:=Hd P;have ak:=Hd I;have br:=Hd (hw.below I);have R:Hid (w.heap.size+2≤w1.heap.size):=by
  have h:=(Ez.1 Q.o).1
  show _≤_
  omega
 have an:=Hd (fun b (j:F b)=>(hw.f b j).1);have HC:=Hd (hex w1 I);obtain⟨e0,e1,e2,e3,e4⟩:=cells5 H;clear H P I hw hk hex N
 go_enter Tryz.func83,Tryz.ntmps83
 go_upto_region 9 with fail
 change Code.wp _ _ _ _ ((w.alloc (.cells #[int .u8 10,.string T.text,int i64 T.num,int i64 T.place,.slice p n c] 76)).alloc (.cells #[int .u8 4,int i64 0,int i64 0,slice none 0 0] 58));rw[←G];clear G;go_wp2_with fail
 refine HC.o.mono ?_;rintro e W2 ⟨J,he⟩;have aq:=Hd (ak.o.trans (J.mono ak.o.size));have S:=Hd (aa J Q.o (Ez.1 Q.o).1);have U:=Hd (br.o.below J);clear e0 e1 e2 e3 e4 J
 cases r with
 | error er =>
  have he:e=aJ er.1 er.2:=he;subst he;exact⟨rfl,Chg.of_below aq.o,rfl⟩
 | ok xs =>
 obtain⟨v,rfl,k,ar⟩:=he;obtain⟨q,t,hv⟩:=k.shape;obtain⟨l,av⟩:=zzy (xs.length);rw[av]at hv;subst hv;have bt:Hid ((ay d).row W2 (bj w1 W2) xs (.slice q l t)):=iI.of (EA _) k ar;have a1:Hid (mm (.ok xs)=.ok ⟨3,0,0,xs⟩):=rfl;clear k ar av;obtain⟨i,u⟩:=zzx (st4 W2 (w.heap.size+1) (int .u8 3) (int i64 0) (int i64 0) (slice q l t));have C:Hid (i.heap[w.heap.size+1]?=some (.cells #[int .u8 3,int i64 0,int i64 0,slice q l t] 58 (0,0))):=by show _=_;rw[u];exact uU S.o _ _ _ _
 have a6:Hid (Ft w i):=by show Below _ _ _;rw[u];exact mZ aq.o (EV _) _ _ _ _
 have s:Hid (MkW (fun b=>F b∨bj w1 W2 b) d M ts rs vars nm sal nv cs acs vT vR vV vC (.slice y acs.length z) i):=by
  show MkW _ _ _ _ _ _ _ _ _ _ _ _ _ _ _ _ _
  rw[u];refine uB U.o (fun _ h=>Or.inl h) (fun b j=>?_) (fun V=>by have:=L.o _ V;omega) _ _ _ _;rcases j with j|j
  ·exact⟨(U.o.f b j).1,(U.o.f b j).2,by have:=an.o b j;omega⟩
  ·have h1:=j.1;have h2:=R.o;exact⟨j.2,fun V=>by have:=L.o _ V;omega,by omega⟩
 have bB:Hid ((ay d).row i (fun b=>F b∨bj w1 W2 b) xs (.slice q l t)):=by
  show (ay d).row _ _ _ _
  rw[u];exact Rd.row_sub (fun _ h=>Or.inr h) (Rd.row_keep (fun b j o V=>(nl _ _ _ _ b (by have:=j.1;have:=R.o;omega)).trans V) bt.o)
 obtain⟨e0,e1,e2,e3⟩:=gK S.o;have f0:=ab S.o;go_upto_region 10 with fail
 change Code.wp _ _ _ _ (st4 W2 (w.heap.size+1) (int .u8 3) (int i64 0) (int i64 0) (slice q l t));rw[←u];clear u e0 e1 e2 e3 f0;obtain⟨us,D,a7⟩:=s.o.a;rw[O.o]at D;have a8:=Hd D;have bR:=Hd a7;have e0:i.cell? ⟨w.heap.size+1,0,none⟩=some (int .u8 3):=by rw[Fq _ _ _ _ _ _ C.o];rfl
 have e1:i.cell? ⟨w.heap.size+1,1,none⟩=some (int i64 0):=by rw[Fq _ _ _ _ _ _ C.o];rfl
 have e2:i.cell? ⟨w.heap.size+1,2,none⟩=some (int i64 0):=by rw[Fq _ _ _ _ _ _ C.o];rfl
 have e3:i.cell? ⟨w.heap.size+1,3,none⟩=some (slice q l t):=by rw[Fq _ _ _ _ _ _ C.o];rfl
 have X:i.cell? ⟨M,7,none⟩=some (.slice y A z):=by rw[Fq _ _ _ _ _ _ s.o.m,←O.o];rfl
 have hK:∀b,(b=M∨b=w.heap.size+1)→b<i.heap.size∧(slice y A z).ownBlock≠some b:=fun b j=>by
  rw[←O.o];rcases j with rfl|rfl
  ·exact⟨s.o.lt,row_ne s.o.m s.o.a (by decide)⟩
  ·exact⟨(Ez.1 C.o).1,fun e=>by have:=af.o _ e;omega⟩
 have ba:=Hd (jh (E:=58) (sz:=4) (row:=us++[int .u8 3,int i64 0,int i64 0,slice q l t]) (K:=(fun b=>b=M∨b=w.heap.size+1)) hK);have E0:=fun x:Ks i (fun b=>b=M∨b=w.heap.size+1)=>x.cell (Or.inr rfl) e0
 have E1:=fun x:Ks i (fun b=>b=M∨b=w.heap.size+1)=>x.cell (Or.inr rfl) e1
 have E2:=fun x:Ks i (fun b=>b=M∨b=w.heap.size+1)=>x.cell (Or.inr rfl) e2
 have E3:=fun x:Ks i (fun b=>b=M∨b=w.heap.size+1)=>x.cell (Or.inr rfl) e3
 have M2:=fun x:Ks i (fun b=>b=M∨b=w.heap.size+1)=>x.cell (Or.inl rfl) X
 clear D a7 e0 e1 e2 e3 X hK;refine RE.wp_region_eff (by kernel_rfl) 9 [7,8] [8] (stA 58 4 i y A z (us++[int .u8 3,int i64 0,int i64 0,slice q l t])) (ApR i) (fun _ ys=>ys.getD 0 undef) (phA 58 4 i y A z [int .u8 3,int i64 0,int i64 0,slice q l t] (us++[int .u8 3,int i64 0,int i64 0,slice q l t]) 7 8) (by kernel_rfl) (fun _ _ _ _ _ _ h j=>h.below j) (fun _ _ _ _ h _ hR=>h.keep hR) stA.zero ?_;simp only[EK,ET,EL,ES]
 repeat (refine RE.wpE_read (fun W=>∃x:Ks i (fun b=>b=M∨b=w.heap.size+1),W=x.1) (ba.o _) rfl rfl rfl stA.zero ?_;go_big_quiet_step (fail);refine wpQuiet_nil ?_)
 refine RE.wpE_turn rfl rfl ?_ (fun b0=>?_)
 ·intro W hC Y hE;obtain⟨s9,_,h9⟩:=hC;exact dB iu (vs:=[int .u8 3,int i64 0,int i64 0,slice q l t]) _ rfl rfl rfl h9.size (fun v W' j V=>⟨[v],rfl,j,ApR.of_below j,V⟩)
 simp only[Act.put,EC,EI,EH];refine RE.wpE_turn rfl rfl ?_ (fun bb=>?_)
 ·intro W hC Y hE;obtain⟨x,rfl⟩:∃x:Wb i,W=x.1:=Y rfl;exact fZ iu (p:=y) (n:=A) (c:=z) (w4:=i) (vs:=[int .u8 3,int i64 0,int i64 0,slice q l t]) (xs:=us) _ _ rfl rfl (hE 7 b0 (by kernel_rfl) rfl) rfl (by simp[Value.oneCell']) x.2 a8.o (by omega) (fun v' W' h1 h2 h3=>⟨[v'],rfl,h1,h2,h3⟩)
 simp only[Act.put,EC,EI,EH];refine RE.wpE_nil ?_;intro W Y hE;have Y:ApS 58 4 i y A z (us++[int .u8 3,int i64 0,int i64 0,slice q l t]) W:=Y;have hV:ApV 58 4 i y A z (us++[int .u8 3,int i64 0,int i64 0,slice q l t]) W (bb.getD 0 undef):=hE 8 bb rfl;obtain⟨g',cap,eg,hg,hC,k⟩:=hU Y hV;rw[eg];have bc:Chg (fun b=>(slice y acs.length z).ownBlock=some b) i W:=by rw[O.o];exact hC
 have Z:(slice y acs.length z).ownBlock=some g'∨i.heap.size≤g':=by rw[O.o];exact hg
 have bd:(bS d).at_ i (fun b=>F b∨bj w1 W2 b) ⟨3,0,0,xs⟩ [int .u8 3,int i64 0,int i64 0,slice q l t]:=eB.2 ⟨show U8 3 from ⟨by decide,by decide⟩,(show I64 0 from ⟨by decide,by decide⟩),(show I64 0 from ⟨by decide,by decide⟩),.slice q l t,rfl,bB.o⟩;obtain⟨bk,bl,ad⟩:=s.o.pushA O.o bR.o bd Z bc k;have X:W.cell? ⟨M,7,none⟩=some (.slice y A z):=by rw[Fq _ _ _ _ _ _ (ad.trans s.o.m),←O.o];rfl
 have b2:=ao (ad.trans s.o.m) 7;have HP:Hid (gU F d M ts rs vars nm sal nv cs acs vT vR vV vC (.slice y acs.length z) (.ok ⟨3,0,0,xs⟩) w (.returned (.tuple #[])) (W.setCell ⟨M,7,none⟩ (slice (some ⟨g',0,none⟩) (A+1) cap))):=by
  refine⟨cp (Chg.of_below a6.o) bl (fun x hx=>Or.inl hx),rfl,(fun b=>F b∨bj w1 W2 b),_,bk,fun b j=>?_,fun _ h=>Or.inl h,fun b h=>h.imp id (fun h=>by have:=R.o;have:=h.1;omega)⟩;injection j with j
  have j:g'=b:=j;subst j;rcases Z with h|h
  ·exact Or.inl h
  ·have:=a6.o.size;exact Or.inr (by omega)
 clear Y hV hE eg hg hC k bc Z bk bl ad E0 E1 E2 E3 M2 ba bd;go_wp2_with fail
 go_end0
 rw[a1.o];exact HP.o
def gr(cs:List aC) (T:ac):Except Flt aT:=if T.num<1||decide ((dK cs:Int)<T.num) then .error (214,T.place) else .ok ⟨2,0,T.num-1,[]⟩
theorem A6(F:Nat→Prop)(d M:Nat)(ts:List ai)(rs:List aj)(vars:List ByteArray)(nm:ByteArray)(sal nv:Int)(cs:List aC)(acs:List aT)(vT vR vV vC vA:Value)(T:ac)(p:Option Addr)(n c:Nat)(w:World)
  (hw:MkW F d M ts rs vars nm sal nv cs acs vT vR vV vC vA w) (hk:T.kind=9) (ca:acs.length≤10000) (bq:cs.length≤10000) (br:I64 T.num) :
  Calls Tryz.prog 83 #[.pointer (some ⟨M,0,none⟩),.agg #[int .u8 T.kind,.string T.text,int i64 T.num,int i64 T.place,.slice p n c]] w (gU F d M ts rs vars nm sal nv cs acs vT vR vV vC vA (gr cs T) w):=by
 rw[hk];obtain⟨J,L,cc⟩:=hw.a.shape;subst cc;obtain⟨O,an⟩:=zzy (acs.length);have HN:=Hd an;rw[an]at ca;obtain⟨w1,V⟩:=zzx ((w.alloc (.cells #[int .u8 9,.string T.text,int i64 T.num,int i64 T.place,.slice p n c] 76)).alloc (.cells #[int .u8 4,int i64 0,int i64 0,slice none 0 0] 58));obtain⟨X,aq,_⟩:=am w (.cells #[int .u8 9,.string T.text,int i64 T.num,int i64 T.place,.slice p n c] 76) (.cells #[int .u8 4,int i64 0,int i64 0,slice none 0 0] 58);have z:Ft w w1:=by rw[V];exact ((EB _ w).alloc (EA _) _).alloc (by simp) _
 rw[←V]at X aq;have bt:=Hd (fun g A=>hw.a.lt (g:=g) A);have ad:=Hd (fun b j=>hw.own_lt (b:=b) j);have bB:=Hd X;have ar:=Hd aq;have D:=Hd z;have ch:=Hd (hw.below z);have bR:Hid (w.heap.size+2≤w1.heap.size):=by
  have h:=(Ez.1 ar.o).1
  show _≤_
  omega
 have b0:=Hd (fun b (j:F b)=>(hw.f b j).1);have av:=Hd (fun (W:World) (h:Ft w1 W)=>yZ d cs vC (fun b=>b<w.heap.size) M W (Rd.row_below (hw.c.row (G:=fun b=>b<w.heap.size) (fun b j=>(hw.f b j).1) (fun g A=>hw.c.lt A)) (fun _ h=>h) (z.trans (h.mono z.size))) (fun b j=>by have:=h.size;have:=z.size;omega) (by rw[Fq _ _ _ _ _ _ (((hw.below z).below h).m)];rfl) bq);obtain⟨e0,e1,e2,e3,e4⟩:=cells5 X;obtain⟨N,a6⟩:=zzy (dK cs);have a7:Hid (gr cs T=if T.num<1||decide ((N:Int)<T.num) then .error (214,T.place) else .ok ⟨2,0,T.num-1,[]⟩):=by show _=_;rw[←a6];rfl
 rw[a6]at av;clear X aq z hw hk an a6 bq
 go_enter Tryz.func83,Tryz.ntmps83
 go_upto_region 6 with fail
 change Code.wp _ _ _ _ ((w.alloc (.cells #[int .u8 9,.string T.text,int i64 T.num,int i64 T.place,.slice p n c] 76)).alloc (.cells #[int .u8 4,int i64 0,int i64 0,slice none 0 0] 58));rw[←V];clear V;have E0:=fun x:Wb w1=>x.cell e0
 have E1:=fun x:Wb w1=>x.cell e1
 have E2:=fun x:Wb w1=>x.cell e2
 have E3:=fun x:Wb w1=>x.cell e3
 have E4:=fun x:Wb w1=>x.cell e4
 by_cases a8:T.num<1
 ·have r:Hid (gr cs T=.error (214,T.place)):=by show _=_;rw[a7.o,decide_eq_true a8];rfl
  have af:decide (T.num<1)=true:=decide_eq_true a8;refine RE.wp_region_eff (by kernel_rfl) 13 [8,12] [] (fun _ W=>∃x:Wb w1,W=x.1) (fun W W'=>Ft W W') (fun i k=>if i=8 then int i64 (N:Int) else k.getD 0 undef) (fun i W k=>if i=12 then cz w1.heap.size [(true,214)] W (k.getD 0 undef) else True) (by kernel_rfl) (fun _ _ _ _ _ _ h j=>ci h j) (fun i W W' k h _ j=>by split at h;(rw[n9 (by assumption)];exact h.below j);rw[n8 (by assumption)];trivial) ⟨⟨w1.drew,(EB _ _).drew⟩,rfl⟩ ?_;simp only[EK,ET,EL,ES]
  repeat (refine RE.wpE_read (fun W=>∃x:Wb w1,W=x.1) (fun _ _ _ h=>h) rfl rfl rfl ⟨⟨w1.drew,(EB _ _).drew⟩,rfl⟩ ?_;go_big_quiet_step (fail);refine wpQuiet_nil ?_)
  refine RE.wpE_off rfl (fun W h=>by cases h) ?_;simp only[Act.put,EC,EI,EH]
  repeat (refine RE.wpE_read (fun W=>∃x:Wb w1,W=x.1) (fun _ _ _ h=>h) rfl rfl rfl ⟨⟨w1.drew,(EB _ _).drew⟩,rfl⟩ ?_;go_big_quiet_step (fail);refine wpQuiet_nil ?_)
  refine RE.wpE_turn rfl rfl ?_ (fun k=>?_)
  ·intro W C _ q;obtain⟨s9,_,x,rfl⟩:=C;exact jP true 214 _ rfl rfl x.2.size (fun v W' j P=>⟨[v],rfl,j,j,P⟩)
  simp only[Act.put,EC,EI,EH];refine RE.wpE_nil ?_;intro W H q;obtain⟨x,rfl⟩:=H;obtain⟨g,s,lg,A⟩:cz w1.heap.size [(true,214)] x.1 (k.getD 0 undef):=q 12 k rfl;have s:(if (12:Nat)=8 then int i64 (N:Int) else k.getD 0 undef)=slice (some ⟨g,0,none⟩) 1 1:=s;rw[s];have Q:=Hd (bV [(true,214)] 9 T.text T.num T.place (.slice p n c) g 1 1 x.1 rfl (by omega) A);have t:=Hd x.2;clear q s lg A E0 E1 E2 E3 E4;go_wp2_with fail
  refine Q.o.mono ?_;rintro e W2 ⟨I,he⟩;have he:e=aJ 214 T.place:=he;subst he;refine⟨rfl,Chg.of_below (D.o.trans ((t.o.trans (I.mono t.o.size)).mono D.o.size)),?_⟩;rw[r.o];rfl
 ·have af:decide (T.num<1)=false:=oc a8
  by_cases Y:(N:Int)<T.num
  ·have r:Hid (gr cs T=.error (214,T.place)):=by show _=_;rw[a7.o,decide_eq_true Y,Bool.or_true];rfl
   have b1:decide ((N:Int)<T.num)=true:=decide_eq_true Y;refine RE.wp_region_eff (by kernel_rfl) 13 [8,12] [] (fun _ W=>∃x:Wb w1,W=x.1) (fun W W'=>Ft W W') (fun i k=>if i=8 then int i64 (N:Int) else k.getD 0 undef) (fun i W k=>if i=12 then cz w1.heap.size [(true,214)] W (k.getD 0 undef) else True) (by kernel_rfl) (fun _ _ _ _ _ _ h j=>ci h j) (fun i W W' k h _ j=>by split at h;(rw[n9 (by assumption)];exact h.below j);rw[n8 (by assumption)];trivial) ⟨⟨w1.drew,(EB _ _).drew⟩,rfl⟩ ?_;simp only[EK,ET,EL,ES]
   repeat (refine RE.wpE_read (fun W=>∃x:Wb w1,W=x.1) (fun _ _ _ h=>h) rfl rfl rfl ⟨⟨w1.drew,(EB _ _).drew⟩,rfl⟩ ?_;go_big_quiet_step (fail);refine wpQuiet_nil ?_)
   refine RE.wpE_turn rfl rfl ?_ (fun Z=>?_)
   ·intro W C _ q;obtain⟨s9,_,x,rfl⟩:=C;refine RE.upon_call 115 _ _ rfl (enters_of Tryz.func115 (by kernel_rfl) rfl) #[.pointer (some ⟨M,0,none⟩)] (by simp[Act.eval]) ((av.o x.1 x.2).mono ?_);rintro e W' ⟨rfl,j⟩;exact⟨_,rfl,[],rfl,j,j,trivial⟩
   simp only[oA];simp only[Act.put,EC,EI,EH]
   repeat (refine RE.wpE_read (fun W=>∃x:Wb w1,W=x.1) (fun _ _ _ h=>h) rfl rfl rfl ⟨⟨w1.drew,(EB _ _).drew⟩,rfl⟩ ?_;go_big_quiet_step (fail);refine wpQuiet_nil ?_)
   refine RE.wpE_turn rfl rfl ?_ (fun k=>?_)
   ·intro W C _ q;obtain⟨s9,_,x,rfl⟩:=C;exact jP true 214 _ rfl rfl x.2.size (fun v W' j P=>⟨[v],rfl,j,j,P⟩)
   simp only[Act.put,EC,EI,EH];refine RE.wpE_nil ?_;intro W H q;obtain⟨x,rfl⟩:=H;obtain⟨g,s,lg,A⟩:cz w1.heap.size [(true,214)] x.1 (k.getD 0 undef):=q 12 k rfl;have s:(if (12:Nat)=8 then int i64 (N:Int) else k.getD 0 undef)=slice (some ⟨g,0,none⟩) 1 1:=s;rw[s];have Q:=Hd (bV [(true,214)] 9 T.text T.num T.place (.slice p n c) g 1 1 x.1 rfl (by omega) A);have t:=Hd x.2;clear q s lg A E0 E1 E2 E3 E4;go_wp2_with fail
   refine Q.o.mono ?_;rintro e W2 ⟨I,he⟩;have he:e=aJ 214 T.place:=he;subst he;refine⟨rfl,Chg.of_below (D.o.trans ((t.o.trans (I.mono t.o.size)).mono D.o.size)),?_⟩;rw[r.o];rfl
  ·have r:Hid (gr cs T=.ok ⟨2,0,T.num-1,[]⟩):=by show _=_;rw[a7.o,oc Y,af];rfl
   have b1:decide ((N:Int)<T.num)=false:=oc Y;refine RE.wp_region_eff (by kernel_rfl) 13 [8,12] [] (fun _ W=>∃x:Wb w1,W=x.1) (fun W W'=>Ft W W') (fun i k=>if i=8 then int i64 (N:Int) else k.getD 0 undef) (fun i W k=>if i=12 then cz w1.heap.size [(false,214)] W (k.getD 0 undef) else True) (by kernel_rfl) (fun _ _ _ _ _ _ h j=>ci h j) (fun i W W' k h _ j=>by split at h;(rw[n9 (by assumption)];exact h.below j);rw[n8 (by assumption)];trivial) ⟨⟨w1.drew,(EB _ _).drew⟩,rfl⟩ ?_;simp only[EK,ET,EL,ES]
   repeat (refine RE.wpE_read (fun W=>∃x:Wb w1,W=x.1) (fun _ _ _ h=>h) rfl rfl rfl ⟨⟨w1.drew,(EB _ _).drew⟩,rfl⟩ ?_;go_big_quiet_step (fail);refine wpQuiet_nil ?_)
   refine RE.wpE_turn rfl rfl ?_ (fun Z=>?_)
   ·intro W C _ q;obtain⟨s9,_,x,rfl⟩:=C;refine RE.upon_call 115 _ _ rfl (enters_of Tryz.func115 (by kernel_rfl) rfl) #[.pointer (some ⟨M,0,none⟩)] (by simp[Act.eval]) ((av.o x.1 x.2).mono ?_);rintro e W' ⟨rfl,j⟩;exact⟨_,rfl,[],rfl,j,j,trivial⟩
   simp only[oA];simp only[Act.put,EC,EI,EH]
   repeat (refine RE.wpE_read (fun W=>∃x:Wb w1,W=x.1) (fun _ _ _ h=>h) rfl rfl rfl ⟨⟨w1.drew,(EB _ _).drew⟩,rfl⟩ ?_;go_big_quiet_step (fail);refine wpQuiet_nil ?_)
   refine RE.wpE_turn rfl rfl ?_ (fun k=>?_)
   ·intro W C _ q;obtain⟨s9,_,x,rfl⟩:=C;exact jP false 214 _ rfl rfl x.2.size (fun v W' j P=>⟨[v],rfl,j,j,P⟩)
   simp only[Act.put,EC,EI,EH];refine RE.wpE_nil ?_;intro W H q;obtain⟨x,rfl⟩:=H;obtain⟨g,s,lg,A⟩:cz w1.heap.size [(false,214)] x.1 (k.getD 0 undef):=q 12 k rfl;have s:(if (12:Nat)=8 then int i64 (N:Int) else k.getD 0 undef)=slice (some ⟨g,0,none⟩) 1 1:=s;rw[s];have Q:=Hd (bV [(false,214)] 9 T.text T.num T.place (.slice p n c) g 1 1 x.1 rfl (by omega) A);have t:=Hd x.2;clear q s lg A E0 E1 E2 E3 E4;go_wp2_with fail
   refine Q.o.mono ?_;rintro e W2 ⟨I,he⟩;have he:e=.returned (.tuple #[]):=he;subst he;have u:=t.o.trans (I.mono t.o.size);have ck:=Hd (D.o.trans (u.mono D.o.size));have ba:=Hd (aa u ar.o (Ez.1 ar.o).1);have cl:=Hd (aa u bB.o (Ez.1 bB.o).1);have bb:=Hd (ch.o.below u);clear e0 e1 e2 e3 e4 I u;have bc:(-9223372036854775808:Int)≤T.num-1:=by omega
   have bd:T.num-1<9223372036854775808:=by have:=br.2;omega
   obtain⟨l,R⟩:=zzx (st4 W2 (w.heap.size+1) (int .u8 2) (int i64 0) (int i64 (T.num-1)) (slice none 0 0));have S:Hid (l.heap[w.heap.size+1]?=some (.cells #[int .u8 2,int i64 0,int i64 (T.num-1),slice none 0 0] 58 (0,0))):=by show _=_;rw[R];exact uU ba.o _ _ _ _
   have b2:Hid (Ft w l):=by show Below _ _ _;rw[R];exact mZ ck.o (EV _) _ _ _ _
   have y:Hid (MkW (fun b=>F b∨bj w1 W2 b) d M ts rs vars nm sal nv cs acs vT vR vV vC (.slice J acs.length L) l):=by
    show MkW _ _ _ _ _ _ _ _ _ _ _ _ _ _ _ _ _
    rw[R];refine uB bb.o (fun _ h=>Or.inl h) (fun b j=>?_) (fun P=>by have:=ad.o _ P;omega) _ _ _ _;rcases j with j|j
    ·exact⟨(bb.o.f b j).1,(bb.o.f b j).2,by have:=b0.o b j;omega⟩
    ·have h1:=j.1;have h2:=bR.o;exact⟨j.2,fun P=>by have:=ad.o _ P;omega,by omega⟩
   obtain⟨a0,a1,a2,a3,a4⟩:=cells5 cl.o;obtain⟨e0,e1,e2,e3⟩:=gK ba.o;have f0:=ab ba.o;go_upto_region 10 with fail
   change Code.wp _ _ _ _ (st4 W2 (w.heap.size+1) (int .u8 2) (int i64 0) (int i64 (T.num-1)) (slice none 0 0));rw[←R];clear R e0 e1 e2 e3 f0 a0 a1 a2 a3 a4;obtain⟨us,U,b3⟩:=y.o.a;rw[HN.o]at U;have b4:=Hd U;have cq:=Hd b3;have e0:l.cell? ⟨w.heap.size+1,0,none⟩=some (int .u8 2):=by rw[Fq _ _ _ _ _ _ S.o];rfl
   have e1:l.cell? ⟨w.heap.size+1,1,none⟩=some (int i64 0):=by rw[Fq _ _ _ _ _ _ S.o];rfl
   have e2:l.cell? ⟨w.heap.size+1,2,none⟩=some (int i64 (T.num-1)):=by rw[Fq _ _ _ _ _ _ S.o];rfl
   have e3:l.cell? ⟨w.heap.size+1,3,none⟩=some (slice none 0 0):=by rw[Fq _ _ _ _ _ _ S.o];rfl
   have bk:l.cell? ⟨M,7,none⟩=some (.slice J O L):=by rw[Fq _ _ _ _ _ _ y.o.m,←HN.o];rfl
   have hK:∀b,(b=M∨b=w.heap.size+1)→b<l.heap.size∧(slice J O L).ownBlock≠some b:=fun b j=>by
    rw[←HN.o];rcases j with rfl|rfl
    ·exact⟨y.o.lt,row_ne y.o.m y.o.a (by decide)⟩
    ·exact⟨(Ez.1 S.o).1,fun e=>by have:=bt.o _ e;omega⟩
   have b5:=Hd (jh (E:=58) (sz:=4) (row:=us++[int .u8 2,int i64 0,int i64 (T.num-1),slice none 0 0]) (K:=(fun b=>b=M∨b=w.heap.size+1)) hK);have E0:=fun x:Ks l (fun b=>b=M∨b=w.heap.size+1)=>x.cell (Or.inr rfl) e0
   have E1:=fun x:Ks l (fun b=>b=M∨b=w.heap.size+1)=>x.cell (Or.inr rfl) e1
   have E2:=fun x:Ks l (fun b=>b=M∨b=w.heap.size+1)=>x.cell (Or.inr rfl) e2
   have E3:=fun x:Ks l (fun b=>b=M∨b=w.heap.size+1)=>x.cell (Or.inr rfl) e3
   have M2:=fun x:Ks l (fun b=>b=M∨b=w.heap.size+1)=>x.cell (Or.inl rfl) bk
   clear U b3 e0 e1 e2 e3 bk hK;refine RE.wp_region_eff (by kernel_rfl) 9 [7,8] [8] (stA 58 4 l J O L (us++[int .u8 2,int i64 0,int i64 (T.num-1),slice none 0 0])) (ApR l) (fun _ k=>k.getD 0 undef) (phA 58 4 l J O L [int .u8 2,int i64 0,int i64 (T.num-1),slice none 0 0] (us++[int .u8 2,int i64 0,int i64 (T.num-1),slice none 0 0]) 7 8) (by kernel_rfl) (fun _ _ _ _ _ _ h j=>h.below j) (fun _ _ _ _ h _ hR=>h.keep hR) stA.zero ?_;simp only[EK,ET,EL,ES]
   repeat (refine RE.wpE_read (fun W=>∃x:Ks l (fun b=>b=M∨b=w.heap.size+1),W=x.1) (b5.o _) rfl rfl rfl stA.zero ?_;go_big_quiet_step (fail);refine wpQuiet_nil ?_)
   refine RE.wpE_turn rfl rfl ?_ (fun cr=>?_)
   ·intro W C H q;obtain⟨s9,_,h9⟩:=C;exact dB iu (vs:=[int .u8 2,int i64 0,int i64 (T.num-1),slice none 0 0]) _ rfl rfl rfl h9.size (fun v W' j P=>⟨[v],rfl,j,ApR.of_below j,P⟩)
   simp only[Act.put,EC,EI,EH];refine RE.wpE_turn rfl rfl ?_ (fun Z=>?_)
   ·intro W C H q;obtain⟨x,rfl⟩:∃x:Wb l,W=x.1:=H rfl;exact fZ iu (p:=J) (n:=O) (c:=L) (w4:=l) (vs:=[int .u8 2,int i64 0,int i64 (T.num-1),slice none 0 0]) (xs:=us) _ _ rfl rfl (q 7 cr (by kernel_rfl) rfl) rfl (by simp[Value.oneCell']) x.2 b4.o (by omega) (fun v' W' h1 h2 h3=>⟨[v'],rfl,h1,h2,h3⟩)
   simp only[Act.put,EC,EI,EH];refine RE.wpE_nil ?_;intro W H q;have H:ApS 58 4 l J O L (us++[int .u8 2,int i64 0,int i64 (T.num-1),slice none 0 0]) W:=H;have hV:ApV 58 4 l J O L (us++[int .u8 2,int i64 0,int i64 (T.num-1),slice none 0 0]) W (Z.getD 0 undef):=q 8 Z rfl;obtain⟨g',cap,s,A,C,ak⟩:=hU H hV;rw[s];have b6:Chg (fun b=>(slice J acs.length L).ownBlock=some b) l W:=by rw[HN.o];exact C
   have bl:(slice J acs.length L).ownBlock=some g'∨l.heap.size≤g':=by rw[HN.o];exact A
   have b7:(bS d).at_ l (fun b=>F b∨bj w1 W2 b) ⟨2,0,T.num-1,[]⟩ [int .u8 2,int i64 0,int i64 (T.num-1),slice none 0 0]:=eB.2 ⟨show U8 2 from ⟨by decide,by decide⟩,(show I64 0 from ⟨by decide,by decide⟩),⟨bc,bd⟩,slice none 0 0,rfl,Rd.row_nil⟩;obtain⟨b8,b9,bn⟩:=y.o.pushA HN.o cq.o b7 bl b6 ak;have bk:W.cell? ⟨M,7,none⟩=some (.slice J O L):=by rw[Fq _ _ _ _ _ _ (bn.trans y.o.m),←HN.o];rfl
   have ct:=ao (bn.trans y.o.m) 7;have HP:Hid (gU F d M ts rs vars nm sal nv cs acs vT vR vV vC (.slice J acs.length L) (.ok ⟨2,0,T.num-1,[]⟩) w (.returned (.tuple #[])) (W.setCell ⟨M,7,none⟩ (slice (some ⟨g',0,none⟩) (O+1) cap))):=by
    refine⟨cp (Chg.of_below b2.o) b9 (fun x hx=>Or.inl hx),rfl,(fun b=>F b∨bj w1 W2 b),_,b8,fun b j=>?_,fun _ h=>Or.inl h,fun b h=>h.imp id (fun h=>by have:=bR.o;have:=h.1;omega)⟩;injection j with j
    have j:g'=b:=j;subst j;rcases bl with h|h
    ·exact Or.inl h
    ·have:=b2.o.size;exact Or.inr (by omega)
   clear H hV q s A C ak b6 bl b8 b9 bn E0 E1 E2 E3 M2 b5 b7;go_wp2_with fail
   go_end0
   rw[r.o];exact HP.o
def okN:Except Flt Nat→Nat
 | .ok k=>k
 | .error _=>0
def jf(a:Except Flt Nat) (r:Except Flt (List ag)):Except Flt aT:=match a with
 | .error e=>.error e
 | .ok k=>match r with
  | .error e=>.error e
  | .ok xs=>.ok ⟨1,k,0,xs⟩
theorem zU(F:Nat→Prop)(d M:Nat)(ts:List ai)(rs:List aj)(vars:List ByteArray)(nm:ByteArray)(sal nv:Int)(cs:List aC)(acs:List aT)(vT vR vV vC vA:Value)(T:ac)(p:Option Addr)(n c:Nat)(H:Except Flt Nat)(r:Except Flt (List ag))(w:World)
  (hw:MkW F d M ts rs vars nm sal nv cs acs vT vR vV vC vA w) (X:T.kind=8) (b5:acs.length≤10000) (C:∀k,H=.ok k→k≤10000)
  (a7:∀W,Ft w W→Calls Tryz.prog 111 #[.pointer (some ⟨M,0,none⟩),.agg #[int .u8 8,.string T.text,int i64 T.num,int i64 T.place,.slice p n c]] W (kY H kG W))
  (hex:∀W,Ft w W→Calls Tryz.prog 114 #[.pointer (some ⟨M,0,none⟩),.slice p n c] W (iV d r W)) :
  Calls Tryz.prog 83 #[.pointer (some ⟨M,0,none⟩),.agg #[int .u8 T.kind,.string T.text,int i64 T.num,int i64 T.place,.slice p n c]] w (gU F d M ts rs vars nm sal nv cs acs vT vR vV vC vA (jf H r) w):=by
 rw[X];obtain⟨I,J,b6⟩:=hw.a.shape;subst b6;obtain⟨N,Z⟩:=zzy (acs.length);have HN:=Hd Z;rw[Z]at b5;obtain⟨w1,R⟩:=zzx ((w.alloc (.cells #[int .u8 8,.string T.text,int i64 T.num,int i64 T.place,.slice p n c] 76)).alloc (.cells #[int .u8 4,int i64 0,int i64 0,slice none 0 0] 58));obtain⟨S,ad,_⟩:=am w (.cells #[int .u8 8,.string T.text,int i64 T.num,int i64 T.place,.slice p n c] 76) (.cells #[int .u8 4,int i64 0,int i64 0,slice none 0 0] 58);have A:Ft w w1:=by rw[R];exact ((EB _ w).alloc (EA _) _).alloc (by simp) _
 rw[←R]at S ad;have a8:=Hd (fun g hg=>hw.a.lt (g:=g) hg);have Y:=Hd (fun b j=>hw.own_lt (b:=b) j);have cx:=Hd S;have af:=Hd ad;have D:=Hd A;have b7:=Hd (hw.below A);have ak:Hid (w.heap.size+2≤w1.heap.size):=by
  have h:=(Ez.1 af.o).1
  show _≤_
  omega
 have ba:=Hd (fun b (j:F b)=>(hw.f b j).1);have b8:=Hd (fun (W:World) (h:Ft w1 W)=>a7 W (A.trans (h.mono A.size)));have b9:=Hd (fun (W:World) (h:Ft w1 W)=>hex W (A.trans (h.mono A.size)));obtain⟨e0,e1,e2,e3,e4⟩:=cells5 S;obtain⟨t,an⟩:∃t:Nat,t=okN H:=⟨_,rfl⟩;have bb:Hid (∀k,H=.ok k→t=k):=fun k h=>by rw[an,h];rfl
 have cC:t≤10000:=by
  rw[an]
  cases H with
  | ok k=>exact C k rfl
  | error e=>exact EM _
 clear S ad A hw X Z a7 hex an C
 go_enter Tryz.func83,Tryz.ntmps83
 go_upto_region 4 with fail
 change Code.wp _ _ _ _ ((w.alloc (.cells #[int .u8 8,.string T.text,int i64 T.num,int i64 T.place,.slice p n c] 76)).alloc (.cells #[int .u8 4,int i64 0,int i64 0,slice none 0 0] 58));rw[←R];clear R;have E0:=fun x:Wb w1=>x.cell e0
 have E1:=fun x:Wb w1=>x.cell e1
 have E2:=fun x:Wb w1=>x.cell e2
 have E3:=fun x:Wb w1=>x.cell e3
 have E4:=fun x:Wb w1=>x.cell e4
 refine RP.wp_region_effP (by kernel_rfl) 7 [2,6] [] (fun _ W=>∃x:Wb w1,W=x.1) (fun W W'=>Ft W W') (fun i ys=>if i=2 then kG t else ys.getD 0 undef) (fun i W ys=>if i=2 then (∃k,H=.ok k) else if i=6 then (∃es,r=.ok es∧iI w1 d es W (ys.getD 0 undef)) else True)
  (fun ch W=>Ft w W∧∃er,jf H r=.error er∧Ending.panicked ch=aJ er.1 er.2) ?_ (by kernel_rfl) (fun _ _ _ _ _ _ h j=>ci h j) (fun i W W' ys h _ j=>by
   split at h
   ·rw[n9 (by assumption)];exact h
   ·rw[n8 (by assumption)]
    split at h
    ·rw[n9 (by assumption)];obtain⟨es,h1,h2⟩:=h;exact⟨es,h1,h2.below j⟩
    ·rw[n8 (by assumption)];trivial) ⟨⟨w1.drew,(EB _ _).drew⟩,rfl⟩ ?_
 ·rintro a ch W hd ⟨j,er,h1,h2⟩;refine⟨hd,Chg.of_below j,?_⟩;rw[h1];exact h2
 simp only[EK,ET,EL,ES]
 repeat (refine RP.wpE_read (fun W=>∃x:Wb w1,W=x.1) (fun _ _ _ h=>h) rfl rfl rfl ⟨⟨w1.drew,(EB _ _).drew⟩,rfl⟩ ?_;go_big_quiet_step (fail);refine wpQuiet_nil ?_)
 refine RP.wpE_turn rfl rfl ?_ (fun bc=>?_)
 ·intro W U _ L;obtain⟨s9,_,x,rfl⟩:=U;refine RP.uponP_call 111 _ _ rfl (enters_of Tryz.func111 (by kernel_rfl) rfl) #[.pointer (some ⟨M,0,none⟩),.agg #[int .u8 8,.string T.text,int i64 T.num,int i64 T.place,.slice p n c]] (by simp[Act.eval]) ((b8.o x.1 x.2).mono ?_);rintro e W' ⟨j,he⟩
  cases C:H with
  | error er =>
   rw[C]at he;have he:e=aJ er.1 er.2:=he;subst he;exact Or.inr ⟨_,rfl,D.o.trans ((x.2.trans (j.mono x.2.size)).mono D.o.size),er,rfl,rfl⟩
  | ok k =>
   rw[C]at he;have he:e=.returned (kG k):=he;subst he;exact Or.inl ⟨_,rfl,[],by show kG k=kG t;rw[bb.o k C],j,j,k,rfl⟩
 simp only[Act.put,EC,EI,EH,Nat.reduceAdd,↓reduceIte,kG]
 repeat (refine RP.wpE_read (fun W=>∃x:Wb w1,W=x.1) (fun _ _ _ h=>h) rfl rfl rfl ⟨⟨w1.drew,(EB _ _).drew⟩,rfl⟩ ?_;go_big_quiet_step (fail);refine wpQuiet_nil ?_)
 refine RP.wpE_turn rfl rfl ?_ (fun bd=>?_)
 ·intro W U _ L;obtain⟨s9,_,x,rfl⟩:=U;have ca:∃k,H=.ok k:=L 2 bc (by kernel_rfl) rfl;refine RP.uponP_call 114 _ _ rfl (enters_of Tryz.func114 (by kernel_rfl) rfl) #[.pointer (some ⟨M,0,none⟩),.slice p n c] (by simp[Act.eval]) ((b9.o x.1 x.2).mono ?_);rintro e W' ⟨j,he⟩;obtain⟨k,X⟩:=ca
  cases hr:r with
  | error er =>
   rw[hr]at he;have he:e=aJ er.1 er.2:=he;subst he;exact Or.inr ⟨_,rfl,D.o.trans ((x.2.trans (j.mono x.2.size)).mono D.o.size),er,by rw[X];rfl,rfl⟩
  | ok es =>
   rw[hr]at he;obtain⟨v,rfl,l,cc⟩:=he;exact Or.inl ⟨_,rfl,[v],rfl,j,j,es,rfl,iI.of x.2.size l cc⟩
 simp only[Act.put,EC,EI,EH,Nat.reduceAdd,Nat.reduceEqDiff,↓reduceIte]
 repeat (refine RP.wpE_read (fun W=>∃x:Wb w1,W=x.1) (fun _ _ _ h=>h) rfl rfl rfl ⟨⟨w1.drew,(EB _ _).drew⟩,rfl⟩ ?_;go_big_quiet_step (fail);refine wpQuiet_nil ?_)
 refine RP.wpE_nil ?_;intro W V L;obtain⟨x,rfl⟩:=V;obtain⟨k,X⟩:∃k,H=.ok k:=L 2 bc rfl;obtain⟨xs,bk,l⟩:∃es,r=.ok es∧iI w1 d es x.1 (bd.getD 0 undef):=L 6 bd rfl;obtain⟨q,z,hv⟩:=Rd.row_shape l;obtain⟨u,bl⟩:=zzy (xs.length);rw[bl]at hv;rw[hv];rw[hv]at l;have bn:Hid (jf H r=.ok ⟨1,t,0,xs⟩):=by show _=_;rw[X,bk,bb.o k X];rfl
 obtain⟨W2,bq⟩:=zzx (x.1);have O:=x.2;rw[←bq]at l O ⊢;have ck:Hid ((ay d).row W2 (bj w1 W2) xs (.slice q u z)):=l;have cl:=Hd (D.o.trans (O.mono D.o.size));have aq:=Hd (aa O af.o (Ez.1 af.o).1);have ar:=Hd (b7.o.below O);clear l L hv bk X E0 E1 E2 E3 E4 e0 e1 e2 e3 e4 bl O bq x;obtain⟨s,G⟩:=zzx (st4 W2 (w.heap.size+1) (int .u8 1) (int i64 (t:Int)) (int i64 0) (slice q u z));have P:Hid (s.heap[w.heap.size+1]?=some (.cells #[int .u8 1,int i64 (t:Int),int i64 0,slice q u z] 58 (0,0))):=by show _=_;rw[G];exact uU aq.o _ _ _ _
 have br:Hid (Ft w s):=by show Below _ _ _;rw[G];exact mZ cl.o (EV _) _ _ _ _
 have y:Hid (MkW (fun b=>F b∨bj w1 W2 b) d M ts rs vars nm sal nv cs acs vT vR vV vC (.slice I acs.length J) s):=by
  show MkW _ _ _ _ _ _ _ _ _ _ _ _ _ _ _ _ _
  rw[G];refine uB ar.o (fun _ h=>Or.inl h) (fun b j=>?_) (fun ho=>by have:=Y.o _ ho;omega) _ _ _ _;rcases j with j|j
  ·exact⟨(ar.o.f b j).1,(ar.o.f b j).2,by have:=ba.o b j;omega⟩
  ·have h1:=j.1;have h2:=ak.o;exact⟨j.2,fun ho=>by have:=Y.o _ ho;omega,by omega⟩
 have cr:Hid ((ay d).row s (fun b=>F b∨bj w1 W2 b) xs (.slice q u z)):=by
  show (ay d).row _ _ _ _
  rw[G];exact Rd.row_sub (fun _ h=>Or.inr h) (Rd.row_keep (fun b j o ho=>(nl _ _ _ _ b (by have:=j.1;have:=ak.o;omega)).trans ho) ck.o)
 obtain⟨e0,e1,e2,e3⟩:=gK aq.o;have f0:=ab aq.o;go_upto_region 10 with fail
 change Code.wp _ _ _ _ (st4 W2 (w.heap.size+1) (int .u8 1) (int i64 (t:Int)) (int i64 0) (slice q u z));rw[←G];clear G e0 e1 e2 e3 f0;obtain⟨us,Q,bt⟩:=y.o.a;rw[HN.o]at Q;have bB:=Hd Q;have ct:=Hd bt;have e0:s.cell? ⟨w.heap.size+1,0,none⟩=some (int .u8 1):=by rw[Fq _ _ _ _ _ _ P.o];rfl
 have e1:s.cell? ⟨w.heap.size+1,1,none⟩=some (int i64 (t:Int)):=by rw[Fq _ _ _ _ _ _ P.o];rfl
 have e2:s.cell? ⟨w.heap.size+1,2,none⟩=some (int i64 0):=by rw[Fq _ _ _ _ _ _ P.o];rfl
 have e3:s.cell? ⟨w.heap.size+1,3,none⟩=some (slice q u z):=by rw[Fq _ _ _ _ _ _ P.o];rfl
 have av:s.cell? ⟨M,7,none⟩=some (.slice I N J):=by rw[Fq _ _ _ _ _ _ y.o.m,←HN.o];rfl
 have hK:∀b,(b=M∨b=w.heap.size+1)→b<s.heap.size∧(slice I N J).ownBlock≠some b:=fun b j=>by
  rw[←HN.o];rcases j with rfl|rfl
  ·exact⟨y.o.lt,row_ne y.o.m y.o.a (by decide)⟩
  ·exact⟨(Ez.1 P.o).1,fun e=>by have:=a8.o _ e;omega⟩
 have bR:=Hd (jh (E:=58) (sz:=4) (row:=us++[int .u8 1,int i64 (t:Int),int i64 0,slice q u z]) (K:=(fun b=>b=M∨b=w.heap.size+1)) hK);have E0:=fun x:Ks s (fun b=>b=M∨b=w.heap.size+1)=>x.cell (Or.inr rfl) e0
 have E1:=fun x:Ks s (fun b=>b=M∨b=w.heap.size+1)=>x.cell (Or.inr rfl) e1
 have E2:=fun x:Ks s (fun b=>b=M∨b=w.heap.size+1)=>x.cell (Or.inr rfl) e2
 have E3:=fun x:Ks s (fun b=>b=M∨b=w.heap.size+1)=>x.cell (Or.inr rfl) e3
 have M2:=fun x:Ks s (fun b=>b=M∨b=w.heap.size+1)=>x.cell (Or.inl rfl) av
 clear Q bt e0 e1 e2 e3 av hK;refine RE.wp_region_eff (by kernel_rfl) 9 [7,8] [8] (stA 58 4 s I N J (us++[int .u8 1,int i64 (t:Int),int i64 0,slice q u z])) (ApR s) (fun _ ys=>ys.getD 0 undef) (phA 58 4 s I N J [int .u8 1,int i64 (t:Int),int i64 0,slice q u z] (us++[int .u8 1,int i64 (t:Int),int i64 0,slice q u z]) 7 8) (by kernel_rfl) (fun _ _ _ _ _ _ h j=>h.below j) (fun _ _ _ _ h _ hR=>h.keep hR) stA.zero ?_;simp only[EK,ET,EL,ES]
 repeat (refine RE.wpE_read (fun W=>∃x:Ks s (fun b=>b=M∨b=w.heap.size+1),W=x.1) (bR.o _) rfl rfl rfl stA.zero ?_;go_big_quiet_step (fail);refine wpQuiet_nil ?_)
 refine RE.wpE_turn rfl rfl ?_ (fun cv=>?_)
 ·intro W U V L;obtain⟨s9,_,h9⟩:=U;exact dB iu (vs:=[int .u8 1,int i64 (t:Int),int i64 0,slice q u z]) _ rfl rfl rfl h9.size (fun v W' j ho=>⟨[v],rfl,j,ApR.of_below j,ho⟩)
 simp only[Act.put,EC,EI,EH];refine RE.wpE_turn rfl rfl ?_ (fun b0=>?_)
 ·intro W U V L;obtain⟨x,rfl⟩:∃x:Wb s,W=x.1:=V rfl;exact fZ iu (p:=I) (n:=N) (c:=J) (w4:=s) (vs:=[int .u8 1,int i64 (t:Int),int i64 0,slice q u z]) (xs:=us) _ _ rfl rfl (L 7 cv (by kernel_rfl) rfl) rfl (by simp[Value.oneCell']) x.2 bB.o (by omega) (fun v' W' h1 h2 h3=>⟨[v'],rfl,h1,h2,h3⟩)
 simp only[Act.put,EC,EI,EH];refine RE.wpE_nil ?_;intro W V L;have V:ApS 58 4 s I N J (us++[int .u8 1,int i64 (t:Int),int i64 0,slice q u z]) W:=V;have hV:ApV 58 4 s I N J (us++[int .u8 1,int i64 (t:Int),int i64 0,slice q u z]) W (b0.getD 0 undef):=L 8 b0 rfl;obtain⟨g',cap,eg,hg,U,l⟩:=hU V hV;rw[eg];have b1:Chg (fun b=>(slice I acs.length J).ownBlock=some b) s W:=by rw[HN.o];exact U
 have a1:(slice I acs.length J).ownBlock=some g'∨s.heap.size≤g':=by rw[HN.o];exact hg
 have b2:(bS d).at_ s (fun b=>F b∨bj w1 W2 b) ⟨1,(t:Int),0,xs⟩ [int .u8 1,int i64 (t:Int),int i64 0,slice q u z]:=eB.2 ⟨show U8 1 from ⟨by decide,by decide⟩,⟨by show (-9223372036854775808:Int)≤(t:Int);omega,by show (t:Int)<9223372036854775808;omega⟩,(show I64 0 from ⟨by decide,by decide⟩),.slice q u z,rfl,cr.o⟩;obtain⟨b3,b4,a6⟩:=y.o.pushA HN.o ct.o b2 a1 b1 l;have av:W.cell? ⟨M,7,none⟩=some (.slice I N J):=by rw[Fq _ _ _ _ _ _ (a6.trans y.o.m),←HN.o];rfl
 have cR:=ao (a6.trans y.o.m) 7;have HP:Hid (gU F d M ts rs vars nm sal nv cs acs vT vR vV vC (.slice I acs.length J) (.ok ⟨1,(t:Int),0,xs⟩) w (.returned (.tuple #[])) (W.setCell ⟨M,7,none⟩ (slice (some ⟨g',0,none⟩) (N+1) cap))):=by
  refine⟨cp (Chg.of_below br.o) b4 (fun x hx=>Or.inl hx),rfl,(fun b=>F b∨bj w1 W2 b),_,b3,fun b j=>?_,fun _ h=>Or.inl h,fun b h=>h.imp id (fun h=>by have:=ak.o;have:=h.1;omega)⟩;injection j with j
  have j:g'=b:=j;subst j;rcases a1 with h|h
  ·exact Or.inl h
  ·have:=br.o.size;exact Or.inr (by omega)
 clear V hV L eg hg U l b1 a1 b3 b4 a6 E0 E1 E2 E3 M2 bR b2;go_wp2_with fail
 go_end0
 rw[bn.o];exact HP.o
theorem iU:Elem 52 35 10 120:=Elem.of (z:=.agg #[int .u8 0,int i64 0,slice none 0 0,int .u8 0,int .u8 0,int i64 0,.string ByteArray.empty,int i64 0,int .u8 0,slice none 0 0]) Tryz.underlying35 (by kernel_rfl) (by kernel_rfl) (by decide) (by decide)
def io(F:Nat→Prop) (d M:Nat) (ts:List ai) (rs:List aj) (nm:ByteArray) (sal nv:Int) (cs:List aC) (acs:List aT) (vT vR vV vC vA:Value) (r:Except Flt (List ByteArray×aC)) (w:World) (e:Ending) (w':World):Prop:=
 Chg (aL M [vT,vR,vV,vC,vA]) w w'∧match r with
 | .ok x=>e=.returned (.bool true)∧∃(F':Nat→Prop) (a c:Value),MkW F' d M ts rs x.1 nm sal nv (cs++[x.2]) acs vT vR a c vA w'∧Grew vV a w.heap.size∧Grew vC c w.heap.size∧(∀b,F b→F' b)∧∀b,F' b→F b∨w.heap.size≤b
 | .error er=>e=aJ er.1 er.2
def kR(W:World) (g:Nat) (x0 x1 x2 x3 x4 x5 x6 x7 x8 x9:Value):World:=(((((((((W.setCell ⟨g,0,none⟩ x0).setCell ⟨g,1,none⟩ x1).setCell ⟨g,2,none⟩ x2).setCell ⟨g,3,none⟩ x3).setCell ⟨g,4,none⟩ x4).setCell ⟨g,5,none⟩ x5).setCell ⟨g,6,none⟩ x6).setCell ⟨g,7,none⟩ x7).setCell ⟨g,8,none⟩ x8).setCell ⟨g,9,none⟩ x9
section
variable {W w:World} {g B:Nat} (x0 x1 x2 x3 x4 x5 x6 x7 x8 x9:Value)
theorem wJ{l k j i f e d c b a:Value}{t:TypeId}(h:W.heap[g]?=some (.cells #[l,k,j,i,f,e,d,c,b,a] t (0,0))):(kR W g x0 x1 x2 x3 x4 x5 x6 x7 x8 x9).heap[g]?=some (.cells #[x0,x1,x2,x3,x4,x5,x6,x7,x8,x9] t (0,0)):=by
 have m:(W.setCell ⟨g,0,none⟩ x0).heap[g]?=some (.cells #[x0,k,j,i,f,e,d,c,b,a] t (0,0)):=heap_set h 0 x0;have n:((W.setCell ⟨g,0,none⟩ x0).setCell ⟨g,1,none⟩ x1).heap[g]?=some (.cells #[x0,x1,j,i,f,e,d,c,b,a] t (0,0)):=heap_set m 1 x1;have o:(((W.setCell ⟨g,0,none⟩ x0).setCell ⟨g,1,none⟩ x1).setCell ⟨g,2,none⟩ x2).heap[g]?=some (.cells #[x0,x1,x2,i,f,e,d,c,b,a] t (0,0)):=heap_set n 2 x2;have p:((((W.setCell ⟨g,0,none⟩ x0).setCell ⟨g,1,none⟩ x1).setCell ⟨g,2,none⟩ x2).setCell ⟨g,3,none⟩ x3).heap[g]?=some (.cells #[x0,x1,x2,x3,f,e,d,c,b,a] t (0,0)):=heap_set o 3 x3;have q:(((((W.setCell ⟨g,0,none⟩ x0).setCell ⟨g,1,none⟩ x1).setCell ⟨g,2,none⟩ x2).setCell ⟨g,3,none⟩ x3).setCell ⟨g,4,none⟩ x4).heap[g]?=some (.cells #[x0,x1,x2,x3,x4,e,d,c,b,a] t (0,0)):=heap_set p 4 x4;have r:((((((W.setCell ⟨g,0,none⟩ x0).setCell ⟨g,1,none⟩ x1).setCell ⟨g,2,none⟩ x2).setCell ⟨g,3,none⟩ x3).setCell ⟨g,4,none⟩ x4).setCell ⟨g,5,none⟩ x5).heap[g]?=some (.cells #[x0,x1,x2,x3,x4,x5,d,c,b,a] t (0,0)):=heap_set q 5 x5;have s:(((((((W.setCell ⟨g,0,none⟩ x0).setCell ⟨g,1,none⟩ x1).setCell ⟨g,2,none⟩ x2).setCell ⟨g,3,none⟩ x3).setCell ⟨g,4,none⟩ x4).setCell ⟨g,5,none⟩ x5).setCell ⟨g,6,none⟩ x6).heap[g]?=some (.cells #[x0,x1,x2,x3,x4,x5,x6,c,b,a] t (0,0)):=heap_set r 6 x6;have u:((((((((W.setCell ⟨g,0,none⟩ x0).setCell ⟨g,1,none⟩ x1).setCell ⟨g,2,none⟩ x2).setCell ⟨g,3,none⟩ x3).setCell ⟨g,4,none⟩ x4).setCell ⟨g,5,none⟩ x5).setCell ⟨g,6,none⟩ x6).setCell ⟨g,7,none⟩ x7).heap[g]?=some (.cells #[x0,x1,x2,x3,x4,x5,x6,x7,b,a] t (0,0)):=heap_set s 7 x7;have v:(((((((((W.setCell ⟨g,0,none⟩ x0).setCell ⟨g,1,none⟩ x1).setCell ⟨g,2,none⟩ x2).setCell ⟨g,3,none⟩ x3).setCell ⟨g,4,none⟩ x4).setCell ⟨g,5,none⟩ x5).setCell ⟨g,6,none⟩ x6).setCell ⟨g,7,none⟩ x7).setCell ⟨g,8,none⟩ x8).heap[g]?=some (.cells #[x0,x1,x2,x3,x4,x5,x6,x7,x8,a] t (0,0)):=heap_set u 8 x8;have x:((((((((((W.setCell ⟨g,0,none⟩ x0).setCell ⟨g,1,none⟩ x1).setCell ⟨g,2,none⟩ x2).setCell ⟨g,3,none⟩ x3).setCell ⟨g,4,none⟩ x4).setCell ⟨g,5,none⟩ x5).setCell ⟨g,6,none⟩ x6).setCell ⟨g,7,none⟩ x7).setCell ⟨g,8,none⟩ x8).setCell ⟨g,9,none⟩ x9).heap[g]?=some (.cells #[x0,x1,x2,x3,x4,x5,x6,x7,x8,x9] t (0,0)):=heap_set v 9 x9;exact x
theorem qu(b:Below B w W)(a:B≤g):Below B w (kR W g x0 x1 x2 x3 x4 x5 x6 x7 x8 x9):=
 (((((((((b.setCell a x0).setCell a x1).setCell a x2).setCell a x3).setCell a x4).setCell a x5).setCell a x6).setCell a x7).setCell a x8).setCell a x9
theorem lS(k:Nat)(h:k≠g):(kR W g x0 x1 x2 x3 x4 x5 x6 x7 x8 x9).heap[k]?=W.heap[k]?:=by
 have a:∀(V:World) (i:Nat) (u:Value),(V.setCell ⟨g,i,none⟩ u).heap[k]?=V.heap[k]?:=fun V i u=>ED V ⟨g,i,none⟩ u k h
 unfold kR;rw[a,a,a,a,a,a,a,a,a,a]
theorem mw:(kR W g x0 x1 x2 x3 x4 x5 x6 x7 x8 x9).heap.size=W.heap.size:=by simp[kR,World.setCell]
end
theorem bw{w:World}{T:Nat}{a b c d e f g h i j:Value}{t:TypeId}(k:w.heap[T]?=some (.cells #[a,b,c,d,e,f,g,h,i,j] t (0,0))):w.cell? ⟨T,0,none⟩=some a∧w.cell? ⟨T,1,none⟩=some b∧w.cell? ⟨T,2,none⟩=some c∧w.cell? ⟨T,3,none⟩=some d∧w.cell? ⟨T,4,none⟩=some e∧w.cell? ⟨T,5,none⟩=some f∧w.cell? ⟨T,6,none⟩=some g∧w.cell? ⟨T,7,none⟩=some h∧w.cell? ⟨T,8,none⟩=some i∧w.cell? ⟨T,9,none⟩=some j:=by simp[World.cell?,k]
theorem bT{w:World}{T:Nat}{cs:Array Value}{t:TypeId}(a:w.heap[T]?=some (.cells cs t (0,0))):∀i:Nat,w.frozen? ⟨T,i,none⟩=false:=fun i=>ao a i
theorem AN(F:Nat→Prop)(d M:Nat)(ts:List ai)(rs:List aj)(vars:List ByteArray)(nm:ByteArray)(sal nv:Int)(cs:List aC)(acs:List aT)(vT vR vV vC vA:Value)(T:ac)(p:Option Addr)(n c:Nat)(w:World)
  (hw:MkW F d M ts rs vars nm sal nv cs acs vT vR vV vC vA w) (b:T.kind≠5∧T.kind≠6∧T.kind≠7) :
  Calls Tryz.prog 82 #[.pointer (some ⟨M,0,none⟩),.agg #[int .u8 T.kind,.string T.text,int i64 T.num,int i64 T.place,.slice p n c]] w (fun e w'=>e=.returned (.bool false)∧Ft w w'∧MkW F d M ts rs vars nm sal nv cs acs vT vR vV vC vA w'):=by
 have i:¬((T.kind:Int)=5):=by have:=b.1;omega
 have j:¬((T.kind:Int)=6):=by have:=b.2.1;omega
 have k:¬((T.kind:Int)=7):=by have:=b.2.2;omega
 have a:Ft w ((w.alloc (.cells #[int .u8 T.kind,.string T.text,int i64 T.num,int i64 T.place,.slice p n c] 76)).alloc (.cells #[int .u8 0,int i64 0,slice none 0 0,int .u8 0,int .u8 0,int i64 0,string ⟨#[]⟩,int i64 0,int .u8 0,slice none 0 0] 52)):=((EB _ w).alloc (EA _) _).alloc (by simp) _;have f:=Hd a;have h:=Hd (hw.below a);clear a hw b
 go_enter Tryz.func82,Tryz.ntmps82
 go_wp2_with fail
 go_ret;exact⟨rfl,f.o,h.o⟩
theorem eh{w:World}{F G:Nat→Prop}{d:Nat}{a:List ag}{s:Value}(c:∀b,F b→G b)(h:cu w F d a s):cu w G d a s:=by
 cases d with
 | zero=>exact h
 | succ d=>exact Rd.row_sub c h
theorem ea{w w':World}{F:Nat→Prop}{d:Nat}{a:List ag}{s:Value}(c:∀b,F b→∀o,w.heap[b]?=some o→w'.heap[b]?=some o)(h:cu w F d a s):cu w' F d a s:=by
 cases d with
 | zero=>exact h
 | succ d=>exact Rd.row_keep c h
def iZ(vars:List ByteArray) (r:Except Flt ag):Except Flt (List ByteArray×aC):=match r with
 | .error e=>.error e
 | .ok x=>.ok (vars,⟨3,0,[],x⟩)
theorem yW(F:Nat→Prop)(d M:Nat)(ts:List ai)(rs:List aj)(vars:List ByteArray)(nm:ByteArray)(sal nv:Int)(cs:List aC)(acs:List aT)(vT vR vV vC vA:Value)(T K:ac)(b off c:Nat)(s:Value)(r:Except Flt ag)(n:Nat)(w:World)
  (hw:MkW F d M ts rs vars nm sal nv cs acs vT vR vV vC vA w) (hk:T.kind=7) (bq:cs.length≤10000) (hn:0<n)
  (c0:w.cell? ⟨b,off,none⟩=some (int .u8 K.kind)) (c1:w.cell? ⟨b,off+1,none⟩=some (.string K.text)) (c2:w.cell? ⟨b,off+2,none⟩=some (int i64 K.num)) (c3:w.cell? ⟨b,off+3,none⟩=some (int i64 K.place)) (c4:w.cell? ⟨b,off+4,none⟩=some s)
  (hex:∀W,Ft w W→Calls Tryz.prog 113 #[.pointer (some ⟨M,0,none⟩),.agg #[int .u8 K.kind,.string K.text,int i64 K.num,int i64 K.place,s]] W (dC d r W)) :
  Calls Tryz.prog 82 #[.pointer (some ⟨M,0,none⟩),.agg #[int .u8 T.kind,.string T.text,int i64 T.num,int i64 T.place,slice (some ⟨b,off,none⟩) n c]] w (io F d M ts rs nm sal nv cs acs vT vR vV vC vA (iZ vars r) w):=by
 rw[hk];obtain⟨y,z,br⟩:=hw.c.shape;subst br;obtain⟨A,P⟩:=zzy (cs.length);have Q:=Hd P;rw[P]at bq;obtain⟨w1,D⟩:=zzx ((w.alloc (.cells #[int .u8 7,.string T.text,int i64 T.num,int i64 T.place,slice (some ⟨b,off,none⟩) n c] 76)).alloc (.cells #[int .u8 0,int i64 0,slice none 0 0,int .u8 0,int .u8 0,int i64 0,string ⟨#[]⟩,int i64 0,int .u8 0,slice none 0 0] 52));obtain⟨G,R,_⟩:=am w (.cells #[int .u8 7,.string T.text,int i64 T.num,int i64 T.place,slice (some ⟨b,off,none⟩) n c] 76) (.cells #[int .u8 0,int i64 0,slice none 0 0,int .u8 0,int .u8 0,int i64 0,string ⟨#[]⟩,int i64 0,int .u8 0,slice none 0 0] 52);have k:Ft w w1:=by rw[D];exact ((EB _ w).alloc (EA _) _).alloc (by simp) _
 rw[←D]at G R;have af:=Hd (fun g hg=>hw.c.lt (g:=g) hg);have L:=Hd (fun b i=>hw.own_lt (b:=b) i);have ak:=Hd (fun b (i:F b)=>(hw.f b i).1);have b2:=Hd G;have S:=Hd R;have an:=Hd k;have bt:=Hd (hw.below k);have H:Hid (w.heap.size+2≤w1.heap.size):=by
  have h:=(Ez.1 S.o).1
  show _≤_
  omega
 have HC:=Hd (hex w1 k);obtain⟨e0,e1,e2,e3,e4⟩:=cells5 G;have d0:=(k.cell (p:=⟨b,off,none⟩) (dG c0)).trans c0;have d1:=(k.cell (p:=⟨b,off+1,none⟩) (dG c1)).trans c1;have d2:=(k.cell (p:=⟨b,off+2,none⟩) (dG c2)).trans c2;have d3:=(k.cell (p:=⟨b,off+3,none⟩) (dG c3)).trans c3;have d4:=(k.cell (p:=⟨b,off+4,none⟩) (dG c4)).trans c4;have b3:(0:Int)<n:=by omega
 clear G R k hw hk hex P c0 c1 c2 c3 c4
 go_enter Tryz.func82,Tryz.ntmps82
 go_upto_region 16 with fail
 change Code.wp _ _ _ _ ((w.alloc (.cells #[int .u8 7,.string T.text,int i64 T.num,int i64 T.place,slice (some ⟨b,off,none⟩) n c] 76)).alloc (.cells #[int .u8 0,int i64 0,slice none 0 0,int .u8 0,int .u8 0,int i64 0,string ⟨#[]⟩,int i64 0,int .u8 0,slice none 0 0] 52));rw[←D];clear D;go_wp2_with fail
 refine HC.o.mono ?_;rintro e W2 ⟨I,he⟩;have aq:=Hd (an.o.trans (I.mono an.o.size));have U:=Hd (aa I S.o (Ez.1 S.o).1);have ar:=Hd (bt.o.below I);clear e0 e1 e2 e3 e4 d0 d1 d2 d3 d4 I
 cases r with
 | error er =>
  have he:e=aJ er.1 er.2:=he;subst he;exact⟨rfl,Chg.of_below aq.o,rfl⟩
 | ok E =>
 obtain⟨v,rfl,N,V⟩:=he;obtain⟨q,t,hv⟩:=aI V;obtain⟨nq,av⟩:=zzy (E.kids.length);rw[av]at hv;subst hv;have a1:=Hd N;have a6:Hid (iZ vars (.ok E)=.ok (vars,⟨3,0,[],E⟩)):=rfl;obtain⟨a,u⟩:=zzx (kR W2 (w.heap.size+1) (int .u8 3) (int i64 0) (slice none 0 0) (int .u8 E.kind) (int .u8 E.val.kind) (int i64 E.val.num) (string E.val.text) (int i64 E.var) (int .u8 E.op) (slice q nq t));have j:Hid (a.heap[w.heap.size+1]?=some (.cells #[int .u8 3,int i64 0,slice none 0 0,int .u8 E.kind,int .u8 E.val.kind,int i64 E.val.num,string E.val.text,int i64 E.var,int .u8 E.op,slice q nq t] 52 (0,0))):=by show _=_;rw[u];exact wJ _ _ _ _ _ _ _ _ _ _ U.o
 have a7:Hid (Ft w a):=by show Below _ _ _;rw[u];exact qu _ _ _ _ _ _ _ _ _ _ aq.o (EV _)
 have bB:Hid (w.heap.size≤a.heap.size):=a7.o.size;have bR:Hid (cu a (fun b=>F b∨bj w1 W2 b) d E.kids (.slice q nq t)):=by
  show cu _ _ _ _ _
  rw[u];exact eh (fun _ h=>Or.inr h) (ea (fun b i o ho=>(lS _ _ _ _ _ _ _ _ _ _ b (by have:=i.1;have:=H.o;omega)).trans ho) V)
 have l:Hid (MkW (fun b=>F b∨bj w1 W2 b) d M ts rs vars nm sal nv cs acs vT vR vV (.slice y cs.length z) vA a):=by
  show MkW _ _ _ _ _ _ _ _ _ _ _ _ _ _ _ _ _
  rw[u];refine (ar.o.grow (F':=(fun b=>F b∨bj w1 W2 b)) (fun _ h=>Or.inl h) (fun b i=>?_)).upd (by rw[mw];exact EA _) (fun x J=>lS _ _ _ _ _ _ _ _ _ _ x ?_)
  ·rcases i with i|i
   ·exact ar.o.f b i
   ·have h1:=i.1;have h2:=H.o;exact⟨i.2,fun ho=>by have:=L.o _ ho;omega⟩
  ·rcases J with (J|J)|J
   ·have:=ak.o x J;omega
   ·have h1:=J.1;have h2:=H.o;omega
   ·have:=L.o _ J;omega
 obtain⟨e0,e1,e2,e3,e4,e5,e6,e7,e8,e9⟩:=bw U.o;have f0:=bT U.o;clear N V av;go_upto_region 17 with fail
 change Code.wp _ _ _ _ (kR W2 (w.heap.size+1) (int .u8 3) (int i64 0) (slice none 0 0) (int .u8 E.kind) (int .u8 E.val.kind) (int i64 E.val.num) (string E.val.text) (int i64 E.var) (int .u8 E.op) (slice q nq t));rw[←u];clear u e0 e1 e2 e3 e4 e5 e6 e7 e8 e9 f0;obtain⟨us,C,a8⟩:=l.o.c;rw[Q.o,dL]at C;have ba:=Hd C;have b0:=Hd a8;have e0:a.cell? ⟨w.heap.size+1,0,none⟩=some (int .u8 3):=by rw[Fq _ _ _ _ _ _ j.o];rfl
 have e1:a.cell? ⟨w.heap.size+1,1,none⟩=some (int i64 0):=by rw[Fq _ _ _ _ _ _ j.o];rfl
 have e2:a.cell? ⟨w.heap.size+1,2,none⟩=some (slice none 0 0):=by rw[Fq _ _ _ _ _ _ j.o];rfl
 have e3:a.cell? ⟨w.heap.size+1,3,none⟩=some (int .u8 E.kind):=by rw[Fq _ _ _ _ _ _ j.o];rfl
 have e4:a.cell? ⟨w.heap.size+1,4,none⟩=some (int .u8 E.val.kind):=by rw[Fq _ _ _ _ _ _ j.o];rfl
 have e5:a.cell? ⟨w.heap.size+1,5,none⟩=some (int i64 E.val.num):=by rw[Fq _ _ _ _ _ _ j.o];rfl
 have e6:a.cell? ⟨w.heap.size+1,6,none⟩=some (string E.val.text):=by rw[Fq _ _ _ _ _ _ j.o];rfl
 have e7:a.cell? ⟨w.heap.size+1,7,none⟩=some (int i64 E.var):=by rw[Fq _ _ _ _ _ _ j.o];rfl
 have e8:a.cell? ⟨w.heap.size+1,8,none⟩=some (int .u8 E.op):=by rw[Fq _ _ _ _ _ _ j.o];rfl
 have e9:a.cell? ⟨w.heap.size+1,9,none⟩=some (slice q nq t):=by rw[Fq _ _ _ _ _ _ j.o];rfl
 have X:a.cell? ⟨M,6,none⟩=some (.slice y A z):=by rw[Fq _ _ _ _ _ _ l.o.m,←Q.o];rfl
 have hK:∀b,(b=M∨b=w.heap.size+1)→b<a.heap.size∧(slice y A z).ownBlock≠some b:=fun b i=>by
  rw[←Q.o];rcases i with rfl|rfl
  ·exact⟨l.o.lt,row_ne l.o.m l.o.c (by decide)⟩
  ·exact⟨(Ez.1 j.o).1,fun e=>by have:=af.o _ e;omega⟩
 have bb:=Hd (jh (E:=52) (sz:=10) (row:=us++[int .u8 3,int i64 0,slice none 0 0,int .u8 E.kind,int .u8 E.val.kind,int i64 E.val.num,string E.val.text,int i64 E.var,int .u8 E.op,slice q nq t]) (K:=(fun b=>b=M∨b=w.heap.size+1)) hK);have E0:=fun x:Ks a (fun b=>b=M∨b=w.heap.size+1)=>x.cell (Or.inr rfl) e0
 have E1:=fun x:Ks a (fun b=>b=M∨b=w.heap.size+1)=>x.cell (Or.inr rfl) e1
 have E2:=fun x:Ks a (fun b=>b=M∨b=w.heap.size+1)=>x.cell (Or.inr rfl) e2
 have E3:=fun x:Ks a (fun b=>b=M∨b=w.heap.size+1)=>x.cell (Or.inr rfl) e3
 have E4:=fun x:Ks a (fun b=>b=M∨b=w.heap.size+1)=>x.cell (Or.inr rfl) e4
 have E5:=fun x:Ks a (fun b=>b=M∨b=w.heap.size+1)=>x.cell (Or.inr rfl) e5
 have E6:=fun x:Ks a (fun b=>b=M∨b=w.heap.size+1)=>x.cell (Or.inr rfl) e6
 have E7:=fun x:Ks a (fun b=>b=M∨b=w.heap.size+1)=>x.cell (Or.inr rfl) e7
 have E8:=fun x:Ks a (fun b=>b=M∨b=w.heap.size+1)=>x.cell (Or.inr rfl) e8
 have E9:=fun x:Ks a (fun b=>b=M∨b=w.heap.size+1)=>x.cell (Or.inr rfl) e9
 have M2:=fun x:Ks a (fun b=>b=M∨b=w.heap.size+1)=>x.cell (Or.inl rfl) X
 clear C a8 e0 e1 e2 e3 e4 e5 e6 e7 e8 e9 X hK;refine RE.wp_region_eff (by kernel_rfl) 9 [7,8] [8] (stA 52 10 a y A z (us++[int .u8 3,int i64 0,slice none 0 0,int .u8 E.kind,int .u8 E.val.kind,int i64 E.val.num,string E.val.text,int i64 E.var,int .u8 E.op,slice q nq t])) (ApR a) (fun _ ys=>ys.getD 0 undef) (phA 52 10 a y A z [int .u8 3,int i64 0,slice none 0 0,int .u8 E.kind,int .u8 E.val.kind,int i64 E.val.num,string E.val.text,int i64 E.var,int .u8 E.op,slice q nq t] (us++[int .u8 3,int i64 0,slice none 0 0,int .u8 E.kind,int .u8 E.val.kind,int i64 E.val.num,string E.val.text,int i64 E.var,int .u8 E.op,slice q nq t]) 7 8) (by kernel_rfl) (fun _ _ _ _ _ _ h i=>h.below i) (fun _ _ _ _ h _ hR=>h.keep hR) stA.zero ?_;simp only[EK,ET,EL,ES]
 repeat (refine RE.wpE_read (fun W=>∃x:Ks a (fun b=>b=M∨b=w.heap.size+1),W=x.1) (bb.o _) rfl rfl rfl stA.zero ?_;go_big_quiet_step (fail);refine wpQuiet_nil ?_)
 refine RE.wpE_turn rfl rfl ?_ (fun b1=>?_)
 ·intro W hC Y hE;obtain⟨s9,_,h9⟩:=hC;exact dB iU (vs:=[int .u8 3,int i64 0,slice none 0 0,int .u8 E.kind,int .u8 E.val.kind,int i64 E.val.num,string E.val.text,int i64 E.var,int .u8 E.op,slice q nq t]) _ rfl rfl rfl h9.size (fun v W' i ho=>⟨[v],rfl,i,ApR.of_below i,ho⟩)
 simp only[Act.put,EC,EI,EH];refine RE.wpE_turn rfl rfl ?_ (fun bc=>?_)
 ·intro W hC Y hE;obtain⟨x,rfl⟩:∃x:Wb a,W=x.1:=Y rfl;exact fZ iU (p:=y) (n:=A) (c:=z) (w4:=a) (vs:=[int .u8 3,int i64 0,slice none 0 0,int .u8 E.kind,int .u8 E.val.kind,int i64 E.val.num,string E.val.text,int i64 E.var,int .u8 E.op,slice q nq t]) (xs:=us) _ _ rfl rfl (hE 7 b1 (by kernel_rfl) rfl) rfl (by simp[Value.oneCell']) x.2 ba.o (by omega) (fun v' W' h1 h2 h3=>⟨[v'],rfl,h1,h2,h3⟩)
 simp only[Act.put,EC,EI,EH];refine RE.wpE_nil ?_;intro W Y hE;have Y:ApS 52 10 a y A z (us++[int .u8 3,int i64 0,slice none 0 0,int .u8 E.kind,int .u8 E.val.kind,int i64 E.val.num,string E.val.text,int i64 E.var,int .u8 E.op,slice q nq t]) W:=Y;have hV:ApV 52 10 a y A z (us++[int .u8 3,int i64 0,slice none 0 0,int .u8 E.kind,int .u8 E.val.kind,int i64 E.val.num,string E.val.text,int i64 E.var,int .u8 E.op,slice q nq t]) W (bc.getD 0 undef):=hE 8 bc rfl;obtain⟨g',cap,eg,hg,hC,O⟩:=hU Y hV;rw[eg];have bd:Chg (fun b=>(slice y cs.length z).ownBlock=some b) a W:=by rw[Q.o];exact hC
 have Z:(slice y cs.length z).ownBlock=some g'∨a.heap.size≤g':=by rw[Q.o];exact hg
 have bk:(bp d).at_ a (fun b=>F b∨bj w1 W2 b) ⟨3,0,[],E⟩ [int .u8 3,int i64 0,slice none 0 0,int .u8 E.kind,int .u8 E.val.kind,int i64 E.val.num,string E.val.text,int i64 E.var,int .u8 E.op,slice q nq t]:=dq.2 ⟨show U8 3 from ⟨by decide,by decide⟩,show I64 0 from ⟨by decide,by decide⟩,a1.o,slice none 0 0,.slice q nq t,rfl,Rd.row_nil,bR.o⟩;obtain⟨bl,bn,ad⟩:=l.o.pushC Q.o b0.o bk Z bd (by rw[dL];exact O);have X:W.cell? ⟨M,6,none⟩=some (.slice y A z):=by rw[Fq _ _ _ _ _ _ (ad.trans l.o.m),←Q.o];rfl
 have b4:=ao (ad.trans l.o.m) 6;have HP:Hid (io F d M ts rs nm sal nv cs acs vT vR vV (.slice y cs.length z) vA (.ok (vars,⟨3,0,[],E⟩)) w (.returned (.bool true)) (W.setCell ⟨M,6,none⟩ (slice (some ⟨g',0,none⟩) (A+1) cap))):=by
  refine⟨cp (Chg.of_below a7.o) bn (fun x J=>Or.inl J),rfl,(fun b=>F b∨bj w1 W2 b),vV,_,bl,fun b i=>Or.inl i,fun b i=>?_,fun _ h=>Or.inl h,fun b h=>h.imp id (fun h=>by have:=H.o;have:=h.1;omega)⟩;injection i with i
  have i:g'=b:=i;subst i;rcases Z with h|h
  ·exact Or.inl h
  ·have:=bB.o;exact Or.inr (by omega)
 clear Y hV hE eg hg hC O bd Z bl bn ad E0 E1 E2 E3 E4 E5 E6 E7 E8 E9 M2 bb bk;go_wp2_with fail
 go_ret;rw[a6.o];exact HP.o
