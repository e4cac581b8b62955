/- Parts of one proof, joined; conditions stand in each theorem. -/
import Derived.Test.YtoahnjkclckodaaGreatDoorNE
import Derived.Test.YtoahnjkclckodaaGreatDoorNG
open Go renaming Value→tS,World→J,TypeId→xD,Calls→vv,undef→xk,wpQuiet_nil→xL
open Option renaming none→Y,some→A
open Go.Obj renaming cells→r7
open Go.Value renaming agg→wP,bool→xt,int→I,pointer→vo,slice→O,string→r9,tuple→y9
open Go.IntKind renaming i64→U,u8→r8
open Go.Proofs.Tryz renaming prog→va
open Except renaming error→zs,ok→xn
open Go.Code renaming wp→xv
open Or renaming inl→wD,inr→wF
open Go.Act renaming put→xS
open Go.Ending renaming returned→wg
namespace Go.Proofs.YtoahnjkclckodaaGreatDoor
set_option maxHeartbeats 4000000
set_option maxRecDepth 100000
open Go.RowKit
theorem MkW.vars{F:Nat→Prop}{d M:Nat}{ts:List am}{rs:List aD}{vars:List ByteArray}{nm:ByteArray}{sal nv:Int}{cs:List bj}{acs:List dr}{vT vR vV vC vA:tS}{w:J}(h:MkW F d M ts rs vars nm sal nv cs acs vT vR vV vC vA w):pO M vars vV w:=
 ⟨by rw[Kq _ _ _ _ _ _ h.m];rfl,h.lt,h.v.h (fun b a=>(h.f b a).1) (fun g c=>h.v.lt c)⟩
def st4(W:J) (g:Nat) (a b c d:tS):World:=(((W.setCell ⟨g,0,Y⟩ a).setCell ⟨g,1,Y⟩ b).setCell ⟨g,2,Y⟩ c).setCell ⟨g,3,Y⟩ d
theorem yN{W:J}{g:Nat}{x0 x1 x2 x3:tS}{t:xD}(h:W.heap[g]?=A (r7 #[x0,x1,x2,x3] t (0,0)))(a b c e:tS):(st4 W g a b c e).heap[g]?=A (r7 #[a,b,c,e] t (0,0)):=
 heap_set (heap_set (heap_set (heap_set h 0 a) 1 b) 2 c) 3 e
theorem qA{B:Nat}{w W:J}{g:Nat}(f:Below B w W)(e:B≤g)(a b c d:tS):Below B w (st4 W g a b c d):=
 (((f.setCell e a).setCell e b).setCell e c).setCell e d
theorem qE{W:J}{g:Nat}(a b c d:tS)(k:Nat)(h:k≠g):(st4 W g a b c d).heap[k]?=W.heap[k]?:=by
 have e:∀(V:J) (i:Nat) (u:tS),(V.setCell ⟨g,i,Y⟩ u).heap[k]?=V.heap[k]?:=fun V i u=>JQ V ⟨g,i,Y⟩ u k h
 unfold st4;rw[e,e,e,e]
theorem Gp{W:J}{g:Nat}(a b c d:tS):(st4 W g a b c d).heap.size=W.heap.size:=by simp[st4,World.setCell]
theorem ui{w:J}{T:Nat}{a b c d:tS}{t:xD}(e:w.heap[T]?=A (r7 #[a,b,c,d] t (0,0))):w.cell? ⟨T,0,Y⟩=A a∧w.cell? ⟨T,1,Y⟩=A b∧w.cell? ⟨T,2,Y⟩=A c∧w.cell? ⟨T,3,Y⟩=A d:=by simp[World.cell?,e]
theorem yt{F F':Nat→Prop}{d M:Nat}{ts:List am}{rs:List aD}{vars:List ByteArray}{nm:ByteArray}{sal nv:Int}{cs:List bj}{acs:List dr}{vT vR vV vC vA:tS}{w:J}{g:Nat}(h:MkW F d M ts rs vars nm sal nv cs acs vT vR vV vC vA w)(k:∀b,F b→F' b)
  (i:∀b,F' b→b<w.heap.size∧¬bh M [vT,vR,vV,vC,vA] b∧b≠g) (l:¬bh M [vT,vR,vV,vC,vA] g) (a b c e:tS):MkW F' d M ts rs vars nm sal nv cs acs vT vR vV vC vA (st4 w g a b c e):=
 (h.grow k (fun b j=>⟨(i b j).1,(i b j).2.1⟩)).upd (by rw[Gp];exact JM _) (fun x f=>qE _ _ _ _ x (by
  rcases f with f|f
  ·exact (i x f).2.2
  ·exact fun e=>l (e ▸ f)))
def jQ(w1:J) (d:Nat) (es:List ak) (W:J) (v:tS):Prop:=(bX d).h W (bs w1 W) es v
theorem jQ.C{w1 W W':J}{d:Nat}{es:List ak}{v:tS}(h:jQ w1 d es W v)(b:Kr W W'):jQ w1 d es W' v:=
 Rd.sI (fun _ a=>⟨a.1,JS a.2 b.size⟩) (Rd.sm h (fun _ a=>a.2) b)
theorem jQ.of{w1 W W':J}{d:Nat}{es:List ak}{v:tS}(c:w1.heap.size≤W.heap.size)(h:aA W' (fun b=>bs W W' b∧v.ownBlock≠A b) 166 (bX d) es v)(f:∀g,v.ownBlock=A g→W.heap.size≤g):jQ w1 d es W' v:=
 h.h (fun _ e=>⟨JU c e.1.1,e.1.2⟩) (fun g a=>⟨JU c (f g a),h.lt a⟩)
theorem Bw(a:Bool)(b:Int)(z:tS)(h:z.cells.size=2):Instr.fill (fun i=>A (i*2,2)) ((Array.range (1*2)).map (z.cells[· % z.cells.size]!)) [(0,wP #[xt a,I U b])]=A (fQ [(a,b)]).toArray:=by
 obtain⟨x,y,c⟩:=size2 h;rw[c]
 kernel_rfl
theorem lx{o:Oper}{a:Act}{W:J}{G:tS→J→Prop}{L:Nat}(b:Bool)(c:Int)(x:Operand)(d:o.op=.buildSlice 257 1 #[(0,x)])(f:a.eval x=wP #[xt b,I U c])(h:L≤W.heap.size)
  (i:∀v W',Kr W W'→cX L [(b,c)] W' v→G v W'):RE.Upon va o a W G:=by
 refine pq (l:=[(b,c)]) d Z (by decide) (fun z j=>?_) h i;have e:((#[(0,x)]:Array (Nat×Operand)).map fun (q:Nat×Operand)=>(q.1,a.eval q.2)).toList=[(0,a.eval x)]:=by simp
 rw[e,f];exact Bw b c z j
def pz(r:Except Flt (List ak)):Except Flt dr:=match r with
 | .error e=>zs e
 | .ok xs=>xn ⟨3,0,0,xs⟩
theorem IH(F:Nat→Prop)(d M:Nat)(ts:List am)(rs:List aD)(vars:List ByteArray)(nm:ByteArray)(sal nv:Int)(cs:List bj)(acs:List dr)(vT vR vV vC vA:tS)(T:ac)(p:Option Addr)(n c:Nat)(r:Except Flt (List ak))(w:J)
  (hw:MkW F d M ts rs vars nm sal nv cs acs vT vR vV vC vA w) (hk:T.q=10) (b4:acs.length≤10000)
  (hex:∀W,Kr w W→vv va 159 #[vo (A ⟨M,0,Y⟩),O p n c] W (j6 d r W)) :
  vv va 131 #[vo (A ⟨M,0,Y⟩),wP #[I r8 T.q,r9 T.h,I U T.u,I U T.C,O p n c]] w (i6 F d M ts rs vars nm sal nv cs acs vT vR vV vC vA (pz r) w):=by
 rw[hk];obtain⟨y,z,b5⟩:=hw.a.q;subst b5;obtain⟨C,R⟩:=zzy (acs.length);have S:=Hd R;rw[R]at b4;obtain⟨w1,H⟩:=zzx ((w.alloc (r7 #[I r8 10,r9 T.h,I U T.u,I U T.C,O p n c] 145)).alloc (r7 #[I r8 4,I U 0,I U 0,O Y 0 0] 272));obtain⟨L,V,_⟩:=bc w (r7 #[I r8 10,r9 T.h,I U T.u,I U T.C,O p n c] 145) (r7 #[I r8 4,I U 0,I U 0,O Y 0 0] 272);have N:Kr w w1:=by rw[H];exact ((JO _ w).alloc (JM _) _).alloc (by simp) _
 rw[←H]at L V;obtain⟨ba,Q,cb,X,bb,b6⟩:=zz6 (fun g hg=>hw.a.lt (g:=g) hg) (fun b j=>hw.h (b:=b) j) L V N (hw.C N);have ad:Hid (w.heap.size+2≤w1.heap.size):=by
  have h:=(JL.1 X.o).1
  show _≤_
  omega
 have bd:=Hd (fun b (j:F b)=>(hw.f b j).1);have HC:=Hd (hex w1 N);obtain⟨e0,e1,e2,e3,e4⟩:=cells5 L;clear L V N hw hk hex R
 go_enter Tryz.func131,Tryz.ntmps131
 go_upto_region 9 with fail
 change xv _ _ _ _ ((w.alloc (r7 #[I r8 10,r9 T.h,I U T.u,I U T.C,O p n c] 145)).alloc (r7 #[I r8 4,I U 0,I U 0,O Y 0 0] 272));rw[←H];clear H;go_wp2_with fail
 refine HC.o.mono ?_;rintro e W2 ⟨P,he⟩;obtain⟨bg,af,aq⟩:=zz3 (bb.o.trans (P.mono bb.o.size)) (aa P X.o (JL.1 X.o).1) (b6.o.C P);clear e0 e1 e2 e3 e4 P
 cases r with
 | error er =>
  have he:e=aR er.1 er.2:=he;subst he;exact⟨Z,Chg.u bg.o,Z⟩
 | ok xs =>
 obtain⟨v,rfl,k,bk⟩:=he;obtain⟨q,t,hv⟩:=k.q;obtain⟨l,bl⟩:=zzy (xs.length);rw[bl]at hv;subst hv;have b7:Hid ((bX d).h W2 (bs w1 W2) xs (O q l t)):=jQ.of (JM _) k bk;have bm:Hid (pz (xn xs)=xn ⟨3,0,0,xs⟩):=rfl;clear k bk bl;obtain⟨i,u⟩:=zzx (st4 W2 (w.heap.size+1) (I r8 3) (I U 0) (I U 0) (O q l t));have D:Hid (i.heap[w.heap.size+1]?=A (r7 #[I r8 3,I U 0,I U 0,O q l t] 272 (0,0))):=by show _=_;rw[u];exact yN af.o _ _ _ _
 have bn:Hid (Kr w i):=by show Below _ _ _;rw[u];exact qA bg.o (J9 _) _ _ _ _
 have s:Hid (MkW (fun b=>F b∨bs w1 W2 b) d M ts rs vars nm sal nv cs acs vT vR vV vC (O y acs.length z) i):=by
  show MkW _ _ _ _ _ _ _ _ _ _ _ _ _ _ _ _ _
  rw[u];refine yt aq.o (fun _ h=>wD h) (fun b j=>?_) (fun ho=>by have:=Q.o _ ho;omega) _ _ _ _;rcases j with j|j
  ·exact⟨(aq.o.f b j).1,(aq.o.f b j).2,by have:=bd.o b j;omega⟩
  ·have h1:=j.1;have h2:=ad.o;exact⟨j.2,fun ho=>by have:=Q.o _ ho;omega,by omega⟩
 have b8:Hid ((bX d).h i (fun b=>F b∨bs w1 W2 b) xs (O q l t)):=by
  show (bX d).h _ _ _ _
  rw[u];exact Rd.sI (fun _ h=>wF h) (Rd.sv (fun b j o ho=>(qE _ _ _ _ b (by have:=j.1;have:=ad.o;omega)).trans ho) b7.o)
 obtain⟨e0,e1,e2,e3⟩:=ui af.o;have f0:=ab af.o;go_upto_region 10 with fail
 change xv _ _ _ _ (st4 W2 (w.heap.size+1) (I r8 3) (I U 0) (I U 0) (O q l t));rw[←u];clear u e0 e1 e2 e3 f0;obtain⟨us,G,bq⟩:=s.o.a;rw[S.o]at G;obtain⟨bt,b9⟩:=zz2 G bq;have e0:i.cell? ⟨w.heap.size+1,0,Y⟩=A (I r8 3):=by rw[Kq _ _ _ _ _ _ D.o];rfl
 have e1:i.cell? ⟨w.heap.size+1,1,Y⟩=A (I U 0):=by rw[Kq _ _ _ _ _ _ D.o];rfl
 have e2:i.cell? ⟨w.heap.size+1,2,Y⟩=A (I U 0):=by rw[Kq _ _ _ _ _ _ D.o];rfl
 have e3:i.cell? ⟨w.heap.size+1,3,Y⟩=A (O q l t):=by rw[Kq _ _ _ _ _ _ D.o];rfl
 have ar:i.cell? ⟨M,7,Y⟩=A (O y C z):=by rw[Kq _ _ _ _ _ _ s.o.m,←S.o];rfl
 have hK:∀b,(b=M∨b=w.heap.size+1)→b<i.heap.size∧(O y C z).ownBlock≠A b:=fun b j=>by
  rw[←S.o];rcases j with rfl|rfl
  ·exact⟨s.o.lt,row_ne s.o.m s.o.a (by decide)⟩
  ·exact⟨(JL.1 D.o).1,fun e=>by have:=ba.o _ e;omega⟩
 have bB:=Hd (jR (E:=272) (sz:=4) (row:=us++[I r8 3,I U 0,I U 0,O q l t]) (K:=(fun b=>b=M∨b=w.heap.size+1)) hK);have E0:=fun x:Ks i (fun b=>b=M∨b=w.heap.size+1)=>x.h (wF Z) e0
 have E1:=fun x:Ks i (fun b=>b=M∨b=w.heap.size+1)=>x.h (wF Z) e1
 have E2:=fun x:Ks i (fun b=>b=M∨b=w.heap.size+1)=>x.h (wF Z) e2
 have E3:=fun x:Ks i (fun b=>b=M∨b=w.heap.size+1)=>x.h (wF Z) e3
 have M2:=fun x:Ks i (fun b=>b=M∨b=w.heap.size+1)=>x.h (wD Z) ar
 clear G bq e0 e1 e2 e3 ar hK;refine RE.z (by kernel_rfl) 9 [7,8] [8] (stA 272 4 i y C z (us++[I r8 3,I U 0,I U 0,O q l t])) (ApR i) (fun _ ys=>ys.getD 0 xk) (phA 272 4 i y C z [I r8 3,I U 0,I U 0,O q l t] (us++[I r8 3,I U 0,I U 0,O q l t]) 7 8) (by kernel_rfl) (fun _ _ _ _ _ _ h j=>h.C j) (fun _ _ _ _ h _ hR=>h.K hR) stA.zero ?_;simp only[JY,J7,JZ,J6]
 repeat (refine RE.q (fun W=>∃x:Ks i (fun b=>b=M∨b=w.heap.size+1),W=x.1) (bB.o _) Z Z Z stA.zero ?_;go_big_quiet_step (fail);refine xL ?_)
 refine RE.h Z Z ?_ (fun ca=>?_)
 ·intro W hC hS hE;obtain⟨s9,_,h9⟩:=hC;exact ek jA (vs:=[I r8 3,I U 0,I U 0,O q l t]) _ Z Z Z h9.z (fun v W' j ho=>⟨[v],Z,j,ApR.u j,ho⟩)
 simp only[xS,JP,JW,JV];refine RE.h Z Z ?_ (fun bR=>?_)
 ·intro W hC hS hE;obtain⟨x,rfl⟩:∃x:Wb i,W=x.1:=hS Z;exact i9 jA (p:=y) (n:=C) (c:=z) (w4:=i) (vs:=[I r8 3,I U 0,I U 0,O q l t]) (xs:=us) _ _ Z Z (hE 7 ca (by kernel_rfl) Z) Z (by simp[Value.oneCell']) x.2 bt.o (by omega) (fun v' W' h1 h2 h3=>⟨[v'],Z,h1,h2,h3⟩)
 simp only[xS,JP,JW,JV];refine RE.u ?_;intro W hS hE;have hS:ApS 272 4 i y C z (us++[I r8 3,I U 0,I U 0,O q l t]) W:=hS;have hV:ApV 272 4 i y C z (us++[I r8 3,I U 0,I U 0,O q l t]) W (bR.getD 0 xk):=hE 8 bR Z;obtain⟨g',cap,eg,hg,hC,k⟩:=jZ hS hV;rw[eg];have b0:Chg (fun b=>(O y acs.length z).ownBlock=A b) i W:=by rw[S.o];exact hC
 have a1:(O y acs.length z).ownBlock=A g'∨i.heap.size≤g':=by rw[S.o];exact hg
 have b1:(jq d).at_ i (fun b=>F b∨bs w1 W2 b) ⟨3,0,0,xs⟩ [I r8 3,I U 0,I U 0,O q l t]:=sN.2 ⟨show U8 3 from ⟨by decide,by decide⟩,(show I64 0 from ⟨by decide,by decide⟩),(show I64 0 from ⟨by decide,by decide⟩),O q l t,Z,b8.o⟩;obtain⟨b2,b3,a6⟩:=s.o.pushA S.o b9.o b1 a1 b0 k;have ar:W.cell? ⟨M,7,Y⟩=A (O y C z):=by rw[Kq _ _ _ _ _ _ (a6.trans s.o.m),←S.o];rfl
 have cc:=aB (a6.trans s.o.m) 7;have HP:Hid (i6 F d M ts rs vars nm sal nv cs acs vT vR vV vC (O y acs.length z) (xn ⟨3,0,0,xs⟩) w (wg (y9 #[])) (W.setCell ⟨M,7,Y⟩ (O (A ⟨g',0,Y⟩) (C+1) cap))):=by
  refine⟨dI (Chg.u bn.o) b3 (fun x hx=>wD hx),Z,(fun b=>F b∨bs w1 W2 b),_,b2,fun b j=>?_,fun _ h=>wD h,fun b h=>h.imp id (fun h=>by have:=ad.o;have:=h.1;omega)⟩;injection j with j
  have j:g'=b:=j;subst j;rcases a1 with h|h
  ·exact wD h
  ·have:=bn.o.size;exact wF (by omega)
 clear hS hV hE eg hg hC k b0 a1 b2 b3 a6 E0 E1 E2 E3 M2 bB b1;go_wp2_with fail
 go_end0
 rw[bm.o];exact HP.o
def iI(cs:List bj) (T:ac):Except Flt dr:=if T.u<1||decide ((aK cs:Int)<T.u) then zs (214,T.C) else xn ⟨2,0,T.u-1,[]⟩
theorem EZ(F:Nat→Prop)(d M:Nat)(ts:List am)(rs:List aD)(vars:List ByteArray)(nm:ByteArray)(sal nv:Int)(cs:List bj)(acs:List dr)(vT vR vV vC vA:tS)(T:ac)(p:Option Addr)(n c:Nat)(w:J)
  (hw:MkW F d M ts rs vars nm sal nv cs acs vT vR vV vC vA w) (hk:T.q=9) (ct:acs.length≤10000) (b7:cs.length≤10000) (b8:I64 T.u) :
  vv va 131 #[vo (A ⟨M,0,Y⟩),wP #[I r8 T.q,r9 T.h,I U T.u,I U T.C,O p n c]] w (i6 F d M ts rs vars nm sal nv cs acs vT vR vV vC vA (iI cs T) w):=by
 rw[hk];obtain⟨P,Q,cu⟩:=hw.a.q;subst cu;obtain⟨S,bl⟩:=zzy (acs.length);have HN:=Hd bl;rw[bl]at ct;obtain⟨w1,ar⟩:=zzx ((w.alloc (r7 #[I r8 9,r9 T.h,I U T.u,I U T.C,O p n c] 145)).alloc (r7 #[I r8 4,I U 0,I U 0,O Y 0 0] 272));obtain⟨a6,bm,_⟩:=bc w (r7 #[I r8 9,r9 T.h,I U T.u,I U T.C,O p n c] 145) (r7 #[I r8 4,I U 0,I U 0,O Y 0 0] 272);have z:Kr w w1:=by rw[ar];exact ((JO _ w).alloc (JM _) _).alloc (by simp) _
 rw[←ar]at a6 bm;obtain⟨b9,bd,ca,bn,H,cv⟩:=zz6 (fun g C=>hw.a.lt (g:=g) C) (fun b j=>hw.h (b:=b) j) a6 bm z (hw.C z);have cb:Hid (w.heap.size+2≤w1.heap.size):=by
  have h:=(JL.1 bn.o).1
  show _≤_
  omega
 have cc:=Hd (fun b (j:F b)=>(hw.f b j).1);have bq:=Hd (fun (W:J) (h:Kr w1 W)=>CN d cs vC (fun b=>b<w.heap.size) M W (Rd.sm (hw.c.h (G:=fun b=>b<w.heap.size) (fun b j=>(hw.f b j).1) (fun g C=>hw.c.lt C)) (fun _ h=>h) (z.trans (h.mono z.size))) (fun b j=>by have:=h.size;have:=z.size;omega) (by rw[Kq _ _ _ _ _ _ (((hw.C z).C h).m)];rfl) b7);obtain⟨e0,e1,e2,e3,e4⟩:=cells5 a6;obtain⟨R,bt⟩:=zzy (aK cs);have bB:Hid (iI cs T=if T.u<1||decide ((R:Int)<T.u) then zs (214,T.C) else xn ⟨2,0,T.u-1,[]⟩):=by show _=_;rw[←bt];rfl
 rw[bt]at bq;clear a6 bm z hw hk bl bt b7
 go_enter Tryz.func131,Tryz.ntmps131
 go_upto_region 6 with fail
 change xv _ _ _ _ ((w.alloc (r7 #[I r8 9,r9 T.h,I U T.u,I U T.C,O p n c] 145)).alloc (r7 #[I r8 4,I U 0,I U 0,O Y 0 0] 272));rw[←ar];clear ar;have E0:=fun x:Wb w1=>x.h e0
 have E1:=fun x:Wb w1=>x.h e1
 have E2:=fun x:Wb w1=>x.h e2
 have E3:=fun x:Wb w1=>x.h e3
 have E4:=fun x:Wb w1=>x.h e4
 by_cases bR:T.u<1
 ·have r:Hid (iI cs T=zs (214,T.C)):=by show _=_;rw[bB.o,decide_eq_true bR];rfl
  have bg:decide (T.u<1)=true:=decide_eq_true bR;refine RE.z (by kernel_rfl) 13 [8,12] [] (fun _ W=>∃x:Wb w1,W=x.1) (fun W W'=>Kr W W') (fun i k=>if i=8 then I U (R:Int) else k.getD 0 xk) (fun i W k=>if i=12 then cX w1.heap.size [(true,214)] W (k.getD 0 xk) else True) (by kernel_rfl) (fun _ _ _ _ _ _ h j=>du h j) (fun i W W' k h _ j=>by split at h;(rw[oj (by assumption)];exact h.C j);rw[oe (by assumption)];trivial) ⟨⟨w1.drew,(JO _ _).drew⟩,Z⟩ ?_;simp only[JY,J7,JZ,J6]
  repeat (refine RE.q (fun W=>∃x:Wb w1,W=x.1) (fun _ _ _ h=>h) Z Z Z ⟨⟨w1.drew,(JO _ _).drew⟩,Z⟩ ?_;go_big_quiet_step (fail);refine xL ?_)
  refine RE.wpE_off Z (fun W h=>by cases h) ?_;simp only[xS,JP,JW,JV]
  repeat (refine RE.q (fun W=>∃x:Wb w1,W=x.1) (fun _ _ _ h=>h) Z Z Z ⟨⟨w1.drew,(JO _ _).drew⟩,Z⟩ ?_;go_big_quiet_step (fail);refine xL ?_)
  refine RE.h Z Z ?_ (fun k=>?_)
  ·intro W D _ q;obtain⟨s9,_,x,rfl⟩:=D;exact lx true 214 _ Z Z x.2.size (fun v W' j V=>⟨[v],Z,j,j,V⟩)
  simp only[xS,JP,JW,JV];refine RE.u ?_;intro W L q;obtain⟨x,rfl⟩:=L;obtain⟨g,s,lg,C⟩:cX w1.heap.size [(true,214)] x.1 (k.getD 0 xk):=q 12 k Z;have s:(if (12:Nat)=8 then I U (R:Int) else k.getD 0 xk)=O (A ⟨g,0,Y⟩) 1 1:=s;rw[s];obtain⟨X,t⟩:=zz2 (bZ [(true,214)] 9 T.h T.u T.C (O p n c) g 1 1 x.1 Z (by omega) C) x.2;clear q s lg C E0 E1 E2 E3 E4;go_wp2_with fail
  refine X.o.mono ?_;rintro e W2 ⟨N,he⟩;have he:e=aR 214 T.C:=he;subst he;refine⟨Z,Chg.u (H.o.trans ((t.o.trans (N.mono t.o.size)).mono H.o.size)),?_⟩;rw[r.o];rfl
 ·have bg:decide (T.u<1)=false:=oE bR
  by_cases ba:(R:Int)<T.u
  ·have r:Hid (iI cs T=zs (214,T.C)):=by show _=_;rw[bB.o,decide_eq_true ba,Bool.or_true];rfl
   have cf:decide ((R:Int)<T.u)=true:=decide_eq_true ba;refine RE.z (by kernel_rfl) 13 [8,12] [] (fun _ W=>∃x:Wb w1,W=x.1) (fun W W'=>Kr W W') (fun i k=>if i=8 then I U (R:Int) else k.getD 0 xk) (fun i W k=>if i=12 then cX w1.heap.size [(true,214)] W (k.getD 0 xk) else True) (by kernel_rfl) (fun _ _ _ _ _ _ h j=>du h j) (fun i W W' k h _ j=>by split at h;(rw[oj (by assumption)];exact h.C j);rw[oe (by assumption)];trivial) ⟨⟨w1.drew,(JO _ _).drew⟩,Z⟩ ?_;simp only[JY,J7,JZ,J6]
   repeat (refine RE.q (fun W=>∃x:Wb w1,W=x.1) (fun _ _ _ h=>h) Z Z Z ⟨⟨w1.drew,(JO _ _).drew⟩,Z⟩ ?_;go_big_quiet_step (fail);refine xL ?_)
   refine RE.h Z Z ?_ (fun bb=>?_)
   ·intro W D _ q;obtain⟨s9,_,x,rfl⟩:=D;refine RE.C 160 _ _ Z (enters_of Tryz.func160 (by kernel_rfl) Z) #[vo (A ⟨M,0,Y⟩)] (by simp[Act.eval]) ((bq.o x.1 x.2).mono ?_);rintro e W' ⟨rfl,j⟩;exact⟨_,Z,[],Z,j,j,trivial⟩
   simp only[oX];simp only[xS,JP,JW,JV]
   repeat (refine RE.q (fun W=>∃x:Wb w1,W=x.1) (fun _ _ _ h=>h) Z Z Z ⟨⟨w1.drew,(JO _ _).drew⟩,Z⟩ ?_;go_big_quiet_step (fail);refine xL ?_)
   refine RE.h Z Z ?_ (fun k=>?_)
   ·intro W D _ q;obtain⟨s9,_,x,rfl⟩:=D;exact lx true 214 _ Z Z x.2.size (fun v W' j V=>⟨[v],Z,j,j,V⟩)
   simp only[xS,JP,JW,JV];refine RE.u ?_;intro W L q;obtain⟨x,rfl⟩:=L;obtain⟨g,s,lg,C⟩:cX w1.heap.size [(true,214)] x.1 (k.getD 0 xk):=q 12 k Z;have s:(if (12:Nat)=8 then I U (R:Int) else k.getD 0 xk)=O (A ⟨g,0,Y⟩) 1 1:=s;rw[s];obtain⟨X,t⟩:=zz2 (bZ [(true,214)] 9 T.h T.u T.C (O p n c) g 1 1 x.1 Z (by omega) C) x.2;clear q s lg C E0 E1 E2 E3 E4;go_wp2_with fail
   refine X.o.mono ?_;rintro e W2 ⟨N,he⟩;have he:e=aR 214 T.C:=he;subst he;refine⟨Z,Chg.u (H.o.trans ((t.o.trans (N.mono t.o.size)).mono H.o.size)),?_⟩;rw[r.o];rfl
  ·have r:Hid (iI cs T=xn ⟨2,0,T.u-1,[]⟩):=by show _=_;rw[bB.o,oE ba,bg];rfl
   have cf:decide ((R:Int)<T.u)=false:=oE ba;refine RE.z (by kernel_rfl) 13 [8,12] [] (fun _ W=>∃x:Wb w1,W=x.1) (fun W W'=>Kr W W') (fun i k=>if i=8 then I U (R:Int) else k.getD 0 xk) (fun i W k=>if i=12 then cX w1.heap.size [(false,214)] W (k.getD 0 xk) else True) (by kernel_rfl) (fun _ _ _ _ _ _ h j=>du h j) (fun i W W' k h _ j=>by split at h;(rw[oj (by assumption)];exact h.C j);rw[oe (by assumption)];trivial) ⟨⟨w1.drew,(JO _ _).drew⟩,Z⟩ ?_;simp only[JY,J7,JZ,J6]
   repeat (refine RE.q (fun W=>∃x:Wb w1,W=x.1) (fun _ _ _ h=>h) Z Z Z ⟨⟨w1.drew,(JO _ _).drew⟩,Z⟩ ?_;go_big_quiet_step (fail);refine xL ?_)
   refine RE.h Z Z ?_ (fun bb=>?_)
   ·intro W D _ q;obtain⟨s9,_,x,rfl⟩:=D;refine RE.C 160 _ _ Z (enters_of Tryz.func160 (by kernel_rfl) Z) #[vo (A ⟨M,0,Y⟩)] (by simp[Act.eval]) ((bq.o x.1 x.2).mono ?_);rintro e W' ⟨rfl,j⟩;exact⟨_,Z,[],Z,j,j,trivial⟩
   simp only[oX];simp only[xS,JP,JW,JV]
   repeat (refine RE.q (fun W=>∃x:Wb w1,W=x.1) (fun _ _ _ h=>h) Z Z Z ⟨⟨w1.drew,(JO _ _).drew⟩,Z⟩ ?_;go_big_quiet_step (fail);refine xL ?_)
   refine RE.h Z Z ?_ (fun k=>?_)
   ·intro W D _ q;obtain⟨s9,_,x,rfl⟩:=D;exact lx false 214 _ Z Z x.2.size (fun v W' j V=>⟨[v],Z,j,j,V⟩)
   simp only[xS,JP,JW,JV];refine RE.u ?_;intro W L q;obtain⟨x,rfl⟩:=L;obtain⟨g,s,lg,C⟩:cX w1.heap.size [(false,214)] x.1 (k.getD 0 xk):=q 12 k Z;have s:(if (12:Nat)=8 then I U (R:Int) else k.getD 0 xk)=O (A ⟨g,0,Y⟩) 1 1:=s;rw[s];obtain⟨X,t⟩:=zz2 (bZ [(false,214)] 9 T.h T.u T.C (O p n c) g 1 1 x.1 Z (by omega) C) x.2;clear q s lg C E0 E1 E2 E3 E4;go_wp2_with fail
   refine X.o.mono ?_;rintro e W2 ⟨N,he⟩;have he:e=wg (y9 #[]):=he;subst he;have u:=t.o.trans (N.mono t.o.size);obtain⟨cy,b0,cC,b1⟩:=zz4 (H.o.trans (u.mono H.o.size)) (aa u bn.o (JL.1 bn.o).1) (aa u ca.o (JL.1 ca.o).1) (cv.o.C u);clear e0 e1 e2 e3 e4 N u;have b2:(-9223372036854775808:Int)≤T.u-1:=by omega
   have b3:T.u-1<9223372036854775808:=by have:=b8.2;omega
   obtain⟨l,ad⟩:=zzx (st4 W2 (w.heap.size+1) (I r8 2) (I U 0) (I U (T.u-1)) (O Y 0 0));have af:Hid (l.heap[w.heap.size+1]?=A (r7 #[I r8 2,I U 0,I U (T.u-1),O Y 0 0] 272 (0,0))):=by show _=_;rw[ad];exact yN b0.o _ _ _ _
   have ch:Hid (Kr w l):=by show Below _ _ _;rw[ad];exact qA cy.o (J9 _) _ _ _ _
   have y:Hid (MkW (fun b=>F b∨bs w1 W2 b) d M ts rs vars nm sal nv cs acs vT vR vV vC (O P acs.length Q) l):=by
    show MkW _ _ _ _ _ _ _ _ _ _ _ _ _ _ _ _ _
    rw[ad];refine yt b1.o (fun _ h=>wD h) (fun b j=>?_) (fun V=>by have:=bd.o _ V;omega) _ _ _ _;rcases j with j|j
    ·exact⟨(b1.o.f b j).1,(b1.o.f b j).2,by have:=cc.o b j;omega⟩
    ·have h1:=j.1;have h2:=cb.o;exact⟨j.2,fun V=>by have:=bd.o _ V;omega,by omega⟩
   obtain⟨a0,a1,a2,a3,a4⟩:=cells5 cC.o;obtain⟨e0,e1,e2,e3⟩:=ui b0.o;have f0:=ab b0.o;go_upto_region 10 with fail
   change xv _ _ _ _ (st4 W2 (w.heap.size+1) (I r8 2) (I U 0) (I U (T.u-1)) (O Y 0 0));rw[←ad];clear ad e0 e1 e2 e3 f0 a0 a1 a2 a3 a4;obtain⟨us,aq,ck⟩:=y.o.a;rw[HN.o]at aq;obtain⟨cl,cR⟩:=zz2 aq ck;have e0:l.cell? ⟨w.heap.size+1,0,Y⟩=A (I r8 2):=by rw[Kq _ _ _ _ _ _ af.o];rfl
   have e1:l.cell? ⟨w.heap.size+1,1,Y⟩=A (I U 0):=by rw[Kq _ _ _ _ _ _ af.o];rfl
   have e2:l.cell? ⟨w.heap.size+1,2,Y⟩=A (I U (T.u-1)):=by rw[Kq _ _ _ _ _ _ af.o];rfl
   have e3:l.cell? ⟨w.heap.size+1,3,Y⟩=A (O Y 0 0):=by rw[Kq _ _ _ _ _ _ af.o];rfl
   have b4:l.cell? ⟨M,7,Y⟩=A (O P S Q):=by rw[Kq _ _ _ _ _ _ y.o.m,←HN.o];rfl
   have hK:∀b,(b=M∨b=w.heap.size+1)→b<l.heap.size∧(O P S Q).ownBlock≠A b:=fun b j=>by
    rw[←HN.o];rcases j with rfl|rfl
    ·exact⟨y.o.lt,row_ne y.o.m y.o.a (by decide)⟩
    ·exact⟨(JL.1 af.o).1,fun e=>by have:=b9.o _ e;omega⟩
   have cm:=Hd (jR (E:=272) (sz:=4) (row:=us++[I r8 2,I U 0,I U (T.u-1),O Y 0 0]) (K:=(fun b=>b=M∨b=w.heap.size+1)) hK);have E0:=fun x:Ks l (fun b=>b=M∨b=w.heap.size+1)=>x.h (wF Z) e0
   have E1:=fun x:Ks l (fun b=>b=M∨b=w.heap.size+1)=>x.h (wF Z) e1
   have E2:=fun x:Ks l (fun b=>b=M∨b=w.heap.size+1)=>x.h (wF Z) e2
   have E3:=fun x:Ks l (fun b=>b=M∨b=w.heap.size+1)=>x.h (wF Z) e3
   have M2:=fun x:Ks l (fun b=>b=M∨b=w.heap.size+1)=>x.h (wD Z) b4
   clear aq ck e0 e1 e2 e3 b4 hK;refine RE.z (by kernel_rfl) 9 [7,8] [8] (stA 272 4 l P S Q (us++[I r8 2,I U 0,I U (T.u-1),O Y 0 0])) (ApR l) (fun _ k=>k.getD 0 xk) (phA 272 4 l P S Q [I r8 2,I U 0,I U (T.u-1),O Y 0 0] (us++[I r8 2,I U 0,I U (T.u-1),O Y 0 0]) 7 8) (by kernel_rfl) (fun _ _ _ _ _ _ h j=>h.C j) (fun _ _ _ _ h _ hR=>h.K hR) stA.zero ?_;simp only[JY,J7,JZ,J6]
   repeat (refine RE.q (fun W=>∃x:Ks l (fun b=>b=M∨b=w.heap.size+1),W=x.1) (cm.o _) Z Z Z stA.zero ?_;go_big_quiet_step (fail);refine xL ?_)
   refine RE.h Z Z ?_ (fun cT=>?_)
   ·intro W D L q;obtain⟨s9,_,h9⟩:=D;exact ek jA (vs:=[I r8 2,I U 0,I U (T.u-1),O Y 0 0]) _ Z Z Z h9.z (fun v W' j V=>⟨[v],Z,j,ApR.u j,V⟩)
   simp only[xS,JP,JW,JV];refine RE.h Z Z ?_ (fun bb=>?_)
   ·intro W D L q;obtain⟨x,rfl⟩:∃x:Wb l,W=x.1:=L Z;exact i9 jA (p:=P) (n:=S) (c:=Q) (w4:=l) (vs:=[I r8 2,I U 0,I U (T.u-1),O Y 0 0]) (xs:=us) _ _ Z Z (q 7 cT (by kernel_rfl) Z) Z (by simp[Value.oneCell']) x.2 cl.o (by omega) (fun v' W' h1 h2 h3=>⟨[v'],Z,h1,h2,h3⟩)
   simp only[xS,JP,JW,JV];refine RE.u ?_;intro W L q;have L:ApS 272 4 l P S Q (us++[I r8 2,I U 0,I U (T.u-1),O Y 0 0]) W:=L;have hV:ApV 272 4 l P S Q (us++[I r8 2,I U 0,I U (T.u-1),O Y 0 0]) W (bb.getD 0 xk):=q 8 bb Z;obtain⟨g',cap,s,C,D,bk⟩:=jZ L hV;rw[s];have cn:Chg (fun b=>(O P acs.length Q).ownBlock=A b) l W:=by rw[HN.o];exact D
   have b5:(O P acs.length Q).ownBlock=A g'∨l.heap.size≤g':=by rw[HN.o];exact C
   have cp:(jq d).at_ l (fun b=>F b∨bs w1 W2 b) ⟨2,0,T.u-1,[]⟩ [I r8 2,I U 0,I U (T.u-1),O Y 0 0]:=sN.2 ⟨show U8 2 from ⟨by decide,by decide⟩,(show I64 0 from ⟨by decide,by decide⟩),⟨b2,b3⟩,O Y 0 0,Z,Rd.tk⟩;obtain⟨cq,cr,b6⟩:=y.o.pushA HN.o cR.o cp b5 cn bk;have b4:W.cell? ⟨M,7,Y⟩=A (O P S Q):=by rw[Kq _ _ _ _ _ _ (b6.trans y.o.m),←HN.o];rfl
   have cV:=aB (b6.trans y.o.m) 7;have HP:Hid (i6 F d M ts rs vars nm sal nv cs acs vT vR vV vC (O P acs.length Q) (xn ⟨2,0,T.u-1,[]⟩) w (wg (y9 #[])) (W.setCell ⟨M,7,Y⟩ (O (A ⟨g',0,Y⟩) (S+1) cap))):=by
    refine⟨dI (Chg.u ch.o) cr (fun x hx=>wD hx),Z,(fun b=>F b∨bs w1 W2 b),_,cq,fun b j=>?_,fun _ h=>wD h,fun b h=>h.imp id (fun h=>by have:=cb.o;have:=h.1;omega)⟩;injection j with j
    have j:g'=b:=j;subst j;rcases b5 with h|h
    ·exact wD h
    ·have:=ch.o.size;exact wF (by omega)
   clear L hV q s C D bk cn b5 cq cr b6 E0 E1 E2 E3 M2 cm cp;go_wp2_with fail
   go_end0
   rw[r.o];exact HP.o
def okN:Except Flt Nat→Nat
 | .ok k=>k
 | .error _=>0
def kq(a:Except Flt Nat) (r:Except Flt (List ak)):Except Flt dr:=match a with
 | .error e=>zs e
 | .ok k=>match r with
  | .error e=>zs e
  | .ok xs=>xn ⟨1,k,0,xs⟩
theorem DK(F:Nat→Prop)(d M:Nat)(ts:List am)(rs:List aD)(vars:List ByteArray)(nm:ByteArray)(sal nv:Int)(cs:List bj)(acs:List dr)(vT vR vV vC vA:tS)(T:ac)(p:Option Addr)(n c:Nat)(L:Except Flt Nat)(r:Except Flt (List ak))(w:J)
  (hw:MkW F d M ts rs vars nm sal nv cs acs vT vR vV vC vA w) (hk:T.q=8) (ck:acs.length≤10000) (D:∀k,L=xn k→k≤10000)
  (bn:∀W,Kr w W→vv va 156 #[vo (A ⟨M,0,Y⟩),wP #[I r8 8,r9 T.h,I U T.u,I U T.C,O p n c]] W (qL L nL W))
  (hex:∀W,Kr w W→vv va 159 #[vo (A ⟨M,0,Y⟩),O p n c] W (j6 d r W)) :
  vv va 131 #[vo (A ⟨M,0,Y⟩),wP #[I r8 T.q,r9 T.h,I U T.u,I U T.C,O p n c]] w (i6 F d M ts rs vars nm sal nv cs acs vT vR vV vC vA (kq L r) w):=by
 rw[hk];obtain⟨N,P,cl⟩:=hw.a.q;subst cl;obtain⟨R,ar⟩:=zzy (acs.length);have HN:=Hd ar;rw[ar]at ck;obtain⟨w1,ad⟩:=zzx ((w.alloc (r7 #[I r8 8,r9 T.h,I U T.u,I U T.C,O p n c] 145)).alloc (r7 #[I r8 4,I U 0,I U 0,O Y 0 0] 272));obtain⟨af,a1,_⟩:=bc w (r7 #[I r8 8,r9 T.h,I U T.u,I U T.C,O p n c] 145) (r7 #[I r8 4,I U 0,I U 0,O Y 0 0] 272);have C:Kr w w1:=by rw[ad];exact ((JO _ w).alloc (JM _) _).alloc (by simp) _
 rw[←ad]at af a1;obtain⟨bq,aq,cT,a6,G,cm⟩:=zz6 (fun g hg=>hw.a.lt (g:=g) hg) (fun b j=>hw.h (b:=b) j) af a1 C (hw.C C);have ba:Hid (w.heap.size+2≤w1.heap.size):=by
  have h:=(JL.1 a6.o).1
  show _≤_
  omega
 have bt:=Hd (fun b (j:F b)=>(hw.f b j).1);obtain⟨cn,cp⟩:=zz2 (fun (W:J) (h:Kr w1 W)=>bn W (C.trans (h.mono C.size))) (fun (W:J) (h:Kr w1 W)=>hex W (C.trans (h.mono C.size)));obtain⟨e0,e1,e2,e3,e4⟩:=cells5 af;obtain⟨t,bb⟩:∃t:Nat,t=okN L:=⟨_,rfl⟩;have bB:Hid (∀k,L=xn k→t=k):=fun k h=>by rw[bb,h];rfl
 have cV:t≤10000:=by
  rw[bb]
  cases L with
  | ok k=>exact D k Z
  | error e=>exact J0 _
 clear af a1 C hw hk ar bn hex bb D
 go_enter Tryz.func131,Tryz.ntmps131
 go_upto_region 4 with fail
 change xv _ _ _ _ ((w.alloc (r7 #[I r8 8,r9 T.h,I U T.u,I U T.C,O p n c] 145)).alloc (r7 #[I r8 4,I U 0,I U 0,O Y 0 0] 272));rw[←ad];clear ad;have E0:=fun x:Wb w1=>x.h e0
 have E1:=fun x:Wb w1=>x.h e1
 have E2:=fun x:Wb w1=>x.h e2
 have E3:=fun x:Wb w1=>x.h e3
 have E4:=fun x:Wb w1=>x.h e4
 refine RP.wp_region_effP (by kernel_rfl) 7 [2,6] [] (fun _ W=>∃x:Wb w1,W=x.1) (fun W W'=>Kr W W') (fun i ys=>if i=2 then nL t else ys.getD 0 xk) (fun i W ys=>if i=2 then (∃k,L=xn k) else if i=6 then (∃es,r=xn es∧jQ w1 d es W (ys.getD 0 xk)) else True)
  (fun ch W=>Kr w W∧∃er,kq L r=zs er∧Ending.panicked ch=aR er.1 er.2) ?_ (by kernel_rfl) (fun _ _ _ _ _ _ h j=>du h j) (fun i W W' ys h _ j=>by
   split at h
   ·rw[oj (by assumption)];exact h
   ·rw[oe (by assumption)]
    split at h
    ·rw[oj (by assumption)];obtain⟨es,h1,h2⟩:=h;exact⟨es,h1,h2.C j⟩
    ·rw[oe (by assumption)];trivial) ⟨⟨w1.drew,(JO _ _).drew⟩,Z⟩ ?_
 ·rintro a ch W hd ⟨j,er,h1,h2⟩;refine⟨hd,Chg.u j,?_⟩;rw[h1];exact h2
 simp only[JY,J7,JZ,J6]
 repeat (refine RP.q (fun W=>∃x:Wb w1,W=x.1) (fun _ _ _ h=>h) Z Z Z ⟨⟨w1.drew,(JO _ _).drew⟩,Z⟩ ?_;go_big_quiet_step (fail);refine xL ?_)
 refine RP.h Z Z ?_ (fun bR=>?_)
 ·intro W hC _ Q;obtain⟨s9,_,x,rfl⟩:=hC;refine RP.uponP_call 156 _ _ Z (enters_of Tryz.func156 (by kernel_rfl) Z) #[vo (A ⟨M,0,Y⟩),wP #[I r8 8,r9 T.h,I U T.u,I U T.C,O p n c]] (by simp[Act.eval]) ((cn.o x.1 x.2).mono ?_);rintro e W' ⟨j,he⟩
  cases D:L with
  | error er =>
   rw[D]at he;have he:e=aR er.1 er.2:=he;subst he;exact wF ⟨_,Z,G.o.trans ((x.2.trans (j.mono x.2.size)).mono G.o.size),er,Z,Z⟩
  | ok k =>
   rw[D]at he;have he:e=wg (nL k):=he;subst he;exact wD ⟨_,Z,[],by show nL k=nL t;rw[bB.o k D],j,j,k,Z⟩
 simp only[xS,JP,JW,JV,Nat.reduceAdd,↓reduceIte,nL]
 repeat (refine RP.q (fun W=>∃x:Wb w1,W=x.1) (fun _ _ _ h=>h) Z Z Z ⟨⟨w1.drew,(JO _ _).drew⟩,Z⟩ ?_;go_big_quiet_step (fail);refine xL ?_)
 refine RP.h Z Z ?_ (fun b0=>?_)
 ·intro W hC _ Q;obtain⟨s9,_,x,rfl⟩:=hC;have cr:∃k,L=xn k:=Q 2 bR (by kernel_rfl) Z;refine RP.uponP_call 159 _ _ Z (enters_of Tryz.func159 (by kernel_rfl) Z) #[vo (A ⟨M,0,Y⟩),O p n c] (by simp[Act.eval]) ((cp.o x.1 x.2).mono ?_);rintro e W' ⟨j,he⟩;obtain⟨k,hk⟩:=cr
  cases hr:r with
  | error er =>
   rw[hr]at he;have he:e=aR er.1 er.2:=he;subst he;exact wF ⟨_,Z,G.o.trans ((x.2.trans (j.mono x.2.size)).mono G.o.size),er,by rw[hk];rfl,Z⟩
  | ok es =>
   rw[hr]at he;obtain⟨v,rfl,l,ct⟩:=he;exact wD ⟨_,Z,[v],Z,j,j,es,Z,jQ.of x.2.size l ct⟩
 simp only[xS,JP,JW,JV,Nat.reduceAdd,Nat.reduceEqDiff,↓reduceIte]
 repeat (refine RP.q (fun W=>∃x:Wb w1,W=x.1) (fun _ _ _ h=>h) Z Z Z ⟨⟨w1.drew,(JO _ _).drew⟩,Z⟩ ?_;go_big_quiet_step (fail);refine wpQuiet_nil ?_)
 refine RP.u ?_;intro W hS Q;obtain⟨x,rfl⟩:=hS;obtain⟨k,hk⟩:∃k,L=xn k:=Q 2 bR Z;obtain⟨xs,b1,l⟩:∃es,r=xn es∧jQ w1 d es x.1 (b0.getD 0 xk):=Q 6 b0 Z;obtain⟨q,z,hv⟩:=Rd.q l;obtain⟨u,b2⟩:=zzy (xs.length);rw[b2]at hv;rw[hv];rw[hv]at l;have b3:Hid (kq L r=xn ⟨1,t,0,xs⟩):=by show _=_;rw[hk,b1,bB.o k hk];rfl
 obtain⟨W2,b4⟩:=zzx (x.1);have S:=x.2;rw[←b4]at l S ⊢;have cu:Hid ((bX d).h W2 (bs w1 W2) xs (O q u z)):=l;obtain⟨cv,bd,bg⟩:=zz3 (G.o.trans (S.mono G.o.size)) (aa S a6.o (JL.1 a6.o).1) (cm.o.C S);clear l Q hv b1 hk E0 E1 E2 E3 E4 e0 e1 e2 e3 e4 b2 S b4 x;obtain⟨s,H⟩:=zzx (st4 W2 (w.heap.size+1) (I r8 1) (I U (t:Int)) (I U 0) (O q u z));have V:Hid (s.heap[w.heap.size+1]?=A (r7 #[I r8 1,I U (t:Int),I U 0,O q u z] 272 (0,0))):=by show _=_;rw[H];exact yN bd.o _ _ _ _
 have b5:Hid (Kr w s):=by show Below _ _ _;rw[H];exact qA cv.o (J9 _) _ _ _ _
 have y:Hid (MkW (fun b=>F b∨bs w1 W2 b) d M ts rs vars nm sal nv cs acs vT vR vV vC (O N acs.length P) s):=by
  show MkW _ _ _ _ _ _ _ _ _ _ _ _ _ _ _ _ _
  rw[H];refine yt bg.o (fun _ h=>wD h) (fun b j=>?_) (fun ho=>by have:=aq.o _ ho;omega) _ _ _ _;rcases j with j|j
  ·exact⟨(bg.o.f b j).1,(bg.o.f b j).2,by have:=bt.o b j;omega⟩
  ·have h1:=j.1;have h2:=ba.o;exact⟨j.2,fun ho=>by have:=aq.o _ ho;omega,by omega⟩
 have cy:Hid ((bX d).h s (fun b=>F b∨bs w1 W2 b) xs (O q u z)):=by
  show (bX d).h _ _ _ _
  rw[H];exact Rd.sI (fun _ h=>wF h) (Rd.sv (fun b j o ho=>(qE _ _ _ _ b (by have:=j.1;have:=ba.o;omega)).trans ho) cu.o)
 obtain⟨e0,e1,e2,e3⟩:=ui bd.o;have f0:=ab bd.o;go_upto_region 10 with fail
 change xv _ _ _ _ (st4 W2 (w.heap.size+1) (I r8 1) (I U (t:Int)) (I U 0) (O q u z));rw[←H];clear H e0 e1 e2 e3 f0;obtain⟨us,X,b6⟩:=y.o.a;rw[HN.o]at X;obtain⟨b7,cC⟩:=zz2 X b6;have e0:s.cell? ⟨w.heap.size+1,0,Y⟩=A (I r8 1):=by rw[Kq _ _ _ _ _ _ V.o];rfl
 have e1:s.cell? ⟨w.heap.size+1,1,Y⟩=A (I U (t:Int)):=by rw[Kq _ _ _ _ _ _ V.o];rfl
 have e2:s.cell? ⟨w.heap.size+1,2,Y⟩=A (I U 0):=by rw[Kq _ _ _ _ _ _ V.o];rfl
 have e3:s.cell? ⟨w.heap.size+1,3,Y⟩=A (O q u z):=by rw[Kq _ _ _ _ _ _ V.o];rfl
 have bk:s.cell? ⟨M,7,Y⟩=A (O N R P):=by rw[Kq _ _ _ _ _ _ y.o.m,←HN.o];rfl
 have hK:∀b,(b=M∨b=w.heap.size+1)→b<s.heap.size∧(O N R P).ownBlock≠A b:=fun b j=>by
  rw[←HN.o];rcases j with rfl|rfl
  ·exact⟨y.o.lt,row_ne y.o.m y.o.a (by decide)⟩
  ·exact⟨(JL.1 V.o).1,fun e=>by have:=bq.o _ e;omega⟩
 have b8:=Hd (jR (E:=272) (sz:=4) (row:=us++[I r8 1,I U (t:Int),I U 0,O q u z]) (K:=(fun b=>b=M∨b=w.heap.size+1)) hK);have E0:=fun x:Ks s (fun b=>b=M∨b=w.heap.size+1)=>x.h (wF Z) e0
 have E1:=fun x:Ks s (fun b=>b=M∨b=w.heap.size+1)=>x.h (wF Z) e1
 have E2:=fun x:Ks s (fun b=>b=M∨b=w.heap.size+1)=>x.h (wF Z) e2
 have E3:=fun x:Ks s (fun b=>b=M∨b=w.heap.size+1)=>x.h (wF Z) e3
 have M2:=fun x:Ks s (fun b=>b=M∨b=w.heap.size+1)=>x.h (wD Z) bk
 clear X b6 e0 e1 e2 e3 bk hK;refine RE.z (by kernel_rfl) 9 [7,8] [8] (stA 272 4 s N R P (us++[I r8 1,I U (t:Int),I U 0,O q u z])) (ApR s) (fun _ ys=>ys.getD 0 xk) (phA 272 4 s N R P [I r8 1,I U (t:Int),I U 0,O q u z] (us++[I r8 1,I U (t:Int),I U 0,O q u z]) 7 8) (by kernel_rfl) (fun _ _ _ _ _ _ h j=>h.C j) (fun _ _ _ _ h _ hR=>h.K hR) stA.zero ?_;simp only[JY,J7,JZ,J6]
 repeat (refine RE.q (fun W=>∃x:Ks s (fun b=>b=M∨b=w.heap.size+1),W=x.1) (b8.o _) Z Z Z stA.zero ?_;go_big_quiet_step (fail);refine xL ?_)
 refine RE.h Z Z ?_ (fun cR=>?_)
 ·intro W hC hS Q;obtain⟨s9,_,h9⟩:=hC;exact ek jA (vs:=[I r8 1,I U (t:Int),I U 0,O q u z]) _ Z Z Z h9.z (fun v W' j ho=>⟨[v],Z,j,ApR.u j,ho⟩)
 simp only[xS,JP,JW,JV];refine RE.h Z Z ?_ (fun b9=>?_)
 ·intro W hC hS Q;obtain⟨x,rfl⟩:∃x:Wb s,W=x.1:=hS Z;exact i9 jA (p:=N) (n:=R) (c:=P) (w4:=s) (vs:=[I r8 1,I U (t:Int),I U 0,O q u z]) (xs:=us) _ _ Z Z (Q 7 cR (by kernel_rfl) Z) Z (by simp[Value.oneCell']) x.2 b7.o (by omega) (fun v' W' h1 h2 h3=>⟨[v'],Z,h1,h2,h3⟩)
 simp only[xS,JP,JW,JV];refine RE.u ?_;intro W hS Q;have hS:ApS 272 4 s N R P (us++[I r8 1,I U (t:Int),I U 0,O q u z]) W:=hS;have hV:ApV 272 4 s N R P (us++[I r8 1,I U (t:Int),I U 0,O q u z]) W (b9.getD 0 xk):=Q 8 b9 Z;obtain⟨g',cap,eg,hg,hC,l⟩:=jZ hS hV;rw[eg];have ca:Chg (fun b=>(O N acs.length P).ownBlock=A b) s W:=by rw[HN.o];exact hC
 have bl:(O N acs.length P).ownBlock=A g'∨s.heap.size≤g':=by rw[HN.o];exact hg
 have cb:(jq d).at_ s (fun b=>F b∨bs w1 W2 b) ⟨1,(t:Int),0,xs⟩ [I r8 1,I U (t:Int),I U 0,O q u z]:=sN.2 ⟨show U8 1 from ⟨by decide,by decide⟩,⟨by show (-9223372036854775808:Int)≤(t:Int);omega,by show (t:Int)<9223372036854775808;omega⟩,(show I64 0 from ⟨by decide,by decide⟩),O q u z,Z,cy.o⟩;obtain⟨cc,cf,bm⟩:=y.o.pushA HN.o cC.o cb bl ca l;have bk:W.cell? ⟨M,7,Y⟩=A (O N R P):=by rw[Kq _ _ _ _ _ _ (bm.trans y.o.m),←HN.o];rfl
 have cW:=aB (bm.trans y.o.m) 7;have HP:Hid (i6 F d M ts rs vars nm sal nv cs acs vT vR vV vC (O N acs.length P) (xn ⟨1,(t:Int),0,xs⟩) w (wg (y9 #[])) (W.setCell ⟨M,7,Y⟩ (O (A ⟨g',0,Y⟩) (R+1) cap))):=by
  refine⟨dI (Chg.u b5.o) cf (fun x hx=>wD hx),Z,(fun b=>F b∨bs w1 W2 b),_,cc,fun b j=>?_,fun _ h=>wD h,fun b h=>h.imp id (fun h=>by have:=ba.o;have:=h.1;omega)⟩;injection j with j
  have j:g'=b:=j;subst j;rcases bl with h|h
  ·exact wD h
  ·have:=b5.o.size;exact wF (by omega)
 clear hS hV Q eg hg hC l ca bl cc cf bm E0 E1 E2 E3 M2 b8 cb;go_wp2_with fail
 go_end0
 rw[b3.o];exact HP.o
theorem nU:Elem 168 156 10 120:=Elem.of (z:=wP #[I r8 0,I U 0,O Y 0 0,I r8 0,I r8 0,I U 0,r9 ByteArray.empty,I U 0,I r8 0,O Y 0 0]) Tryz.underlying156 (by kernel_rfl) (by kernel_rfl) (by decide) (by decide)
def lQ(F:Nat→Prop) (d M:Nat) (ts:List am) (rs:List aD) (nm:ByteArray) (sal nv:Int) (cs:List bj) (acs:List dr) (vT vR vV vC vA:tS) (r:Except Flt (List ByteArray×bj)) (w:J) (e:Ending) (w':J):Prop:=
 Chg (bh M [vT,vR,vV,vC,vA]) w w'∧match r with
 | .ok x=>e=wg (xt true)∧∃(F':Nat→Prop) (a c:tS),MkW F' d M ts rs x.1 nm sal nv (cs++[x.2]) acs vT vR a c vA w'∧Grew vV a w.heap.size∧Grew vC c w.heap.size∧(∀b,F b→F' b)∧∀b,F' b→F b∨w.heap.size≤b
 | .error er=>e=aR er.1 er.2
def qe(W:J) (g:Nat) (x0 x1 x2 x3 x4 x5 x6 x7 x8 x9:tS):World:=(((((((((W.setCell ⟨g,0,Y⟩ x0).setCell ⟨g,1,Y⟩ x1).setCell ⟨g,2,Y⟩ x2).setCell ⟨g,3,Y⟩ x3).setCell ⟨g,4,Y⟩ x4).setCell ⟨g,5,Y⟩ x5).setCell ⟨g,6,Y⟩ x6).setCell ⟨g,7,Y⟩ x7).setCell ⟨g,8,Y⟩ x8).setCell ⟨g,9,Y⟩ x9
section
variable {W w:J} {g B:Nat} (x0 x1 x2 x3 x4 x5 x6 x7 x8 x9:tS)
theorem Ih{l k j i f e d c b a:tS}{t:xD}(h:W.heap[g]?=A (r7 #[l,k,j,i,f,e,d,c,b,a] t (0,0))):(qe W g x0 x1 x2 x3 x4 x5 x6 x7 x8 x9).heap[g]?=A (r7 #[x0,x1,x2,x3,x4,x5,x6,x7,x8,x9] t (0,0)):=by
 have m:(W.setCell ⟨g,0,Y⟩ x0).heap[g]?=A (r7 #[x0,k,j,i,f,e,d,c,b,a] t (0,0)):=heap_set h 0 x0;have n:((W.setCell ⟨g,0,Y⟩ x0).setCell ⟨g,1,Y⟩ x1).heap[g]?=A (r7 #[x0,x1,j,i,f,e,d,c,b,a] t (0,0)):=heap_set m 1 x1;have o:(((W.setCell ⟨g,0,Y⟩ x0).setCell ⟨g,1,Y⟩ x1).setCell ⟨g,2,Y⟩ x2).heap[g]?=A (r7 #[x0,x1,x2,i,f,e,d,c,b,a] t (0,0)):=heap_set n 2 x2;have p:((((W.setCell ⟨g,0,Y⟩ x0).setCell ⟨g,1,Y⟩ x1).setCell ⟨g,2,Y⟩ x2).setCell ⟨g,3,Y⟩ x3).heap[g]?=A (r7 #[x0,x1,x2,x3,f,e,d,c,b,a] t (0,0)):=heap_set o 3 x3;have q:(((((W.setCell ⟨g,0,Y⟩ x0).setCell ⟨g,1,Y⟩ x1).setCell ⟨g,2,Y⟩ x2).setCell ⟨g,3,Y⟩ x3).setCell ⟨g,4,Y⟩ x4).heap[g]?=A (r7 #[x0,x1,x2,x3,x4,e,d,c,b,a] t (0,0)):=heap_set p 4 x4;have r:((((((W.setCell ⟨g,0,Y⟩ x0).setCell ⟨g,1,Y⟩ x1).setCell ⟨g,2,Y⟩ x2).setCell ⟨g,3,Y⟩ x3).setCell ⟨g,4,Y⟩ x4).setCell ⟨g,5,Y⟩ x5).heap[g]?=A (r7 #[x0,x1,x2,x3,x4,x5,d,c,b,a] t (0,0)):=heap_set q 5 x5;have s:(((((((W.setCell ⟨g,0,Y⟩ x0).setCell ⟨g,1,Y⟩ x1).setCell ⟨g,2,Y⟩ x2).setCell ⟨g,3,Y⟩ x3).setCell ⟨g,4,Y⟩ x4).setCell ⟨g,5,Y⟩ x5).setCell ⟨g,6,Y⟩ x6).heap[g]?=A (r7 #[x0,x1,x2,x3,x4,x5,x6,c,b,a] t (0,0)):=heap_set r 6 x6;have u:((((((((W.setCell ⟨g,0,Y⟩ x0).setCell ⟨g,1,Y⟩ x1).setCell ⟨g,2,Y⟩ x2).setCell ⟨g,3,Y⟩ x3).setCell ⟨g,4,Y⟩ x4).setCell ⟨g,5,Y⟩ x5).setCell ⟨g,6,Y⟩ x6).setCell ⟨g,7,Y⟩ x7).heap[g]?=A (r7 #[x0,x1,x2,x3,x4,x5,x6,x7,b,a] t (0,0)):=heap_set s 7 x7;have v:(((((((((W.setCell ⟨g,0,Y⟩ x0).setCell ⟨g,1,Y⟩ x1).setCell ⟨g,2,Y⟩ x2).setCell ⟨g,3,Y⟩ x3).setCell ⟨g,4,Y⟩ x4).setCell ⟨g,5,Y⟩ x5).setCell ⟨g,6,Y⟩ x6).setCell ⟨g,7,Y⟩ x7).setCell ⟨g,8,Y⟩ x8).heap[g]?=A (r7 #[x0,x1,x2,x3,x4,x5,x6,x7,x8,a] t (0,0)):=heap_set u 8 x8;have x:((((((((((W.setCell ⟨g,0,Y⟩ x0).setCell ⟨g,1,Y⟩ x1).setCell ⟨g,2,Y⟩ x2).setCell ⟨g,3,Y⟩ x3).setCell ⟨g,4,Y⟩ x4).setCell ⟨g,5,Y⟩ x5).setCell ⟨g,6,Y⟩ x6).setCell ⟨g,7,Y⟩ x7).setCell ⟨g,8,Y⟩ x8).setCell ⟨g,9,Y⟩ x9).heap[g]?=A (r7 #[x0,x1,x2,x3,x4,x5,x6,x7,x8,x9] t (0,0)):=heap_set v 9 x9;exact x
theorem CG(b:Below B w W)(a:B≤g):Below B w (qe W g x0 x1 x2 x3 x4 x5 x6 x7 x8 x9):=
 (((((((((b.setCell a x0).setCell a x1).setCell a x2).setCell a x3).setCell a x4).setCell a x5).setCell a x6).setCell a x7).setCell a x8).setCell a x9
theorem ua(k:Nat)(h:k≠g):(qe W g x0 x1 x2 x3 x4 x5 x6 x7 x8 x9).heap[k]?=W.heap[k]?:=by
 have a:∀(V:J) (i:Nat) (u:tS),(V.setCell ⟨g,i,Y⟩ u).heap[k]?=V.heap[k]?:=fun V i u=>JQ V ⟨g,i,Y⟩ u k h
 unfold qe;rw[a,a,a,a,a,a,a,a,a,a]
theorem Dp:(qe W g x0 x1 x2 x3 x4 x5 x6 x7 x8 x9).heap.size=W.heap.size:=by simp[qe,World.setCell]
end
theorem nH{w:J}{T:Nat}{a b c d e f g h i j:tS}{t:xD}(k:w.heap[T]?=A (r7 #[a,b,c,d,e,f,g,h,i,j] t (0,0))):w.cell? ⟨T,0,Y⟩=A a∧w.cell? ⟨T,1,Y⟩=A b∧w.cell? ⟨T,2,Y⟩=A c∧w.cell? ⟨T,3,Y⟩=A d∧w.cell? ⟨T,4,Y⟩=A e∧w.cell? ⟨T,5,Y⟩=A f∧w.cell? ⟨T,6,Y⟩=A g∧w.cell? ⟨T,7,Y⟩=A h∧w.cell? ⟨T,8,Y⟩=A i∧w.cell? ⟨T,9,Y⟩=A j:=by simp[World.cell?,k]
theorem ee{w:J}{T:Nat}{cs:Array tS}{t:xD}(a:w.heap[T]?=A (r7 cs t (0,0))):∀i:Nat,w.frozen? ⟨T,i,Y⟩=false:=fun i=>aB a i
theorem EM(F:Nat→Prop)(d M:Nat)(ts:List am)(rs:List aD)(vars:List ByteArray)(nm:ByteArray)(sal nv:Int)(cs:List bj)(acs:List dr)(vT vR vV vC vA:tS)(T:ac)(p:Option Addr)(n c:Nat)(w:J)
  (hw:MkW F d M ts rs vars nm sal nv cs acs vT vR vV vC vA w) (b:T.q≠5∧T.q≠6∧T.q≠7) :
  vv va 130 #[vo (A ⟨M,0,Y⟩),wP #[I r8 T.q,r9 T.h,I U T.u,I U T.C,O p n c]] w (fun e w'=>e=wg (xt false)∧Kr w w'∧MkW F d M ts rs vars nm sal nv cs acs vT vR vV vC vA w'):=by
 have i:¬((T.q:Int)=5):=by have:=b.1;omega
 have j:¬((T.q:Int)=6):=by have:=b.2.1;omega
 have k:¬((T.q:Int)=7):=by have:=b.2.2;omega
 have a:Kr w ((w.alloc (r7 #[I r8 T.q,r9 T.h,I U T.u,I U T.C,O p n c] 145)).alloc (r7 #[I r8 0,I U 0,O Y 0 0,I r8 0,I r8 0,I U 0,r9 ⟨#[]⟩,I U 0,I r8 0,O Y 0 0] 168)):=((JO _ w).alloc (JM _) _).alloc (by simp) _;obtain⟨f,h⟩:=zz2 a (hw.C a);clear a hw b
 go_enter Tryz.func130,Tryz.ntmps130
 go_wp2_with fail
 go_ret;exact⟨Z,f.o,h.o⟩
theorem D7{w:J}{F G:Nat→Prop}{d:Nat}{ks:List ak}{s:tS}(a:∀b,F b→G b)(h:fU w F d ks s):fU w G d ks s:=by
 cases d with
 | zero=>exact h
 | succ d=>exact Rd.sI a h
theorem BN{w w':J}{F:Nat→Prop}{d:Nat}{ks:List ak}{s:tS}(a:∀b,F b→∀o,w.heap[b]?=A o→w'.heap[b]?=A o)(h:fU w F d ks s):fU w' F d ks s:=by
 cases d with
 | zero=>exact h
 | succ d=>exact Rd.sv a h
def kb(vars:List ByteArray) (r:Except Flt ak):Except Flt (List ByteArray×bj):=match r with
 | .error e=>zs e
 | .ok x=>xn (vars,⟨3,0,[],x⟩)
theorem CL(F:Nat→Prop)(d M:Nat)(ts:List am)(rs:List aD)(vars:List ByteArray)(nm:ByteArray)(sal nv:Int)(cs:List bj)(acs:List dr)(vT vR vV vC vA:tS)(T K:ac)(b off c:Nat)(s:tS)(r:Except Flt ak)(n:Nat)(w:J)
  (hw:MkW F d M ts rs vars nm sal nv cs acs vT vR vV vC vA w) (hk:T.q=7) (b6:cs.length≤10000) (hn:0<n)
  (c0:w.cell? ⟨b,off,Y⟩=A (I r8 K.q)) (c1:w.cell? ⟨b,off+1,Y⟩=A (r9 K.h)) (c2:w.cell? ⟨b,off+2,Y⟩=A (I U K.u)) (c3:w.cell? ⟨b,off+3,Y⟩=A (I U K.C)) (c4:w.cell? ⟨b,off+4,Y⟩=A s)
  (hex:∀W,Kr w W→vv va 158 #[vo (A ⟨M,0,Y⟩),wP #[I r8 K.q,r9 K.h,I U K.u,I U K.C,s]] W (dY d r W)) :
  vv va 130 #[vo (A ⟨M,0,Y⟩),wP #[I r8 T.q,r9 T.h,I U T.u,I U T.C,O (A ⟨b,off,Y⟩) n c]] w (lQ F d M ts rs nm sal nv cs acs vT vR vV vC vA (kb vars r) w):=by
 rw[hk];obtain⟨y,z,b7⟩:=hw.c.q;subst b7;obtain⟨C,V⟩:=zzy (cs.length);have X:=Hd V;rw[V]at b6;obtain⟨w1,G⟩:=zzx ((w.alloc (r7 #[I r8 7,r9 T.h,I U T.u,I U T.C,O (A ⟨b,off,Y⟩) n c] 145)).alloc (r7 #[I r8 0,I U 0,O Y 0 0,I r8 0,I r8 0,I U 0,r9 ⟨#[]⟩,I U 0,I r8 0,O Y 0 0] 168));obtain⟨H,ad,_⟩:=bc w (r7 #[I r8 7,r9 T.h,I U T.u,I U T.C,O (A ⟨b,off,Y⟩) n c] 145) (r7 #[I r8 0,I U 0,O Y 0 0,I r8 0,I r8 0,I U 0,r9 ⟨#[]⟩,I U 0,I r8 0,O Y 0 0] 168);have k:Kr w w1:=by rw[G];exact ((JO _ w).alloc (JM _) _).alloc (by simp) _
 rw[←G]at H ad;obtain⟨bb,Q⟩:=zz2 (fun g hg=>hw.c.lt (g:=g) hg) (fun b i=>hw.h (b:=b) i);have bd:=Hd (fun b (i:F b)=>(hw.f b i).1);obtain⟨cf,af,bg,b8⟩:=zz4 H ad k (hw.C k);have L:Hid (w.heap.size+2≤w1.heap.size):=by
  have h:=(JL.1 af.o).1
  show _≤_
  omega
 have HC:=Hd (hex w1 k);obtain⟨e0,e1,e2,e3,e4⟩:=cells5 H;have d0:=(k.cell (p:=⟨b,off,Y⟩) (fW c0)).trans c0;have d1:=(k.cell (p:=⟨b,off+1,Y⟩) (fW c1)).trans c1;have d2:=(k.cell (p:=⟨b,off+2,Y⟩) (fW c2)).trans c2;have d3:=(k.cell (p:=⟨b,off+3,Y⟩) (fW c3)).trans c3;have d4:=(k.cell (p:=⟨b,off+4,Y⟩) (fW c4)).trans c4;have ch:(0:Int)<n:=by omega
 clear H ad k hw hk hex V c0 c1 c2 c3 c4
 go_enter Tryz.func130,Tryz.ntmps130
 go_upto_region 16 with fail
 change xv _ _ _ _ ((w.alloc (r7 #[I r8 7,r9 T.h,I U T.u,I U T.C,O (A ⟨b,off,Y⟩) n c] 145)).alloc (r7 #[I r8 0,I U 0,O Y 0 0,I r8 0,I r8 0,I U 0,r9 ⟨#[]⟩,I U 0,I r8 0,O Y 0 0] 168));rw[←G];clear G;go_wp2_with fail
 refine HC.o.mono ?_;rintro e W2 ⟨N,he⟩;obtain⟨bk,aq,bl⟩:=zz3 (bg.o.trans (N.mono bg.o.size)) (aa N af.o (JL.1 af.o).1) (b8.o.C N);clear e0 e1 e2 e3 e4 d0 d1 d2 d3 d4 N
 cases r with
 | error er =>
  have he:e=aR er.1 er.2:=he;subst he;exact⟨Z,Chg.u bk.o,Z⟩
 | ok E =>
 obtain⟨v,rfl,R,ar⟩:=he;obtain⟨q,t,hv⟩:=ge ar;obtain⟨nq,bm⟩:=zzy (E.z.length);rw[bm]at hv;subst hv;have bn:=Hd R;have bq:Hid (kb vars (xn E)=xn (vars,⟨3,0,[],E⟩)):=rfl;obtain⟨a,u⟩:=zzx (qe W2 (w.heap.size+1) (I r8 3) (I U 0) (O Y 0 0) (I r8 E.q) (I r8 E.h.q) (I U E.h.u) (r9 E.h.h) (I U E.u) (I r8 E.op) (O q nq t));have j:Hid (a.heap[w.heap.size+1]?=A (r7 #[I r8 3,I U 0,O Y 0 0,I r8 E.q,I r8 E.h.q,I U E.h.u,r9 E.h.h,I U E.u,I r8 E.op,O q nq t] 168 (0,0))):=by show _=_;rw[u];exact Ih _ _ _ _ _ _ _ _ _ _ aq.o
 have bt:Hid (Kr w a):=by show Below _ _ _;rw[u];exact CG _ _ _ _ _ _ _ _ _ _ bk.o (J9 _)
 have b9:Hid (w.heap.size≤a.heap.size):=bt.o.size;have ca:Hid (fU a (fun b=>F b∨bs w1 W2 b) d E.z (O q nq t)):=by
  show fU _ _ _ _ _
  rw[u];exact D7 (fun _ h=>wF h) (BN (fun b i o ho=>(ua _ _ _ _ _ _ _ _ _ _ b (by have:=i.1;have:=L.o;omega)).trans ho) ar)
 have l:Hid (MkW (fun b=>F b∨bs w1 W2 b) d M ts rs vars nm sal nv cs acs vT vR vV (O y cs.length z) vA a):=by
  show MkW _ _ _ _ _ _ _ _ _ _ _ _ _ _ _ _ _
  rw[u];refine (bl.o.grow (F':=(fun b=>F b∨bs w1 W2 b)) (fun _ h=>wD h) (fun b i=>?_)).upd (by rw[Dp];exact JM _) (fun x P=>ua _ _ _ _ _ _ _ _ _ _ x ?_)
  ·rcases i with i|i
   ·exact bl.o.f b i
   ·have h1:=i.1;have h2:=L.o;exact⟨i.2,fun ho=>by have:=Q.o _ ho;omega⟩
  ·rcases P with (P|P)|P
   ·have:=bd.o x P;omega
   ·have h1:=P.1;have h2:=L.o;omega
   ·have:=Q.o _ P;omega
 obtain⟨e0,e1,e2,e3,e4,e5,e6,e7,e8,e9⟩:=nH aq.o;have f0:=ee aq.o;clear R ar bm;go_upto_region 17 with fail
 change xv _ _ _ _ (qe W2 (w.heap.size+1) (I r8 3) (I U 0) (O Y 0 0) (I r8 E.q) (I r8 E.h.q) (I U E.h.u) (r9 E.h.h) (I U E.u) (I r8 E.op) (O q nq t));rw[←u];clear u e0 e1 e2 e3 e4 e5 e6 e7 e8 e9 f0;obtain⟨us,D,bB⟩:=l.o.c;rw[X.o,lX]at D;obtain⟨bR,cb⟩:=zz2 D bB;have e0:a.cell? ⟨w.heap.size+1,0,Y⟩=A (I r8 3):=by rw[Kq _ _ _ _ _ _ j.o];rfl
 have e1:a.cell? ⟨w.heap.size+1,1,Y⟩=A (I U 0):=by rw[Kq _ _ _ _ _ _ j.o];rfl
 have e2:a.cell? ⟨w.heap.size+1,2,Y⟩=A (O Y 0 0):=by rw[Kq _ _ _ _ _ _ j.o];rfl
 have e3:a.cell? ⟨w.heap.size+1,3,Y⟩=A (I r8 E.q):=by rw[Kq _ _ _ _ _ _ j.o];rfl
 have e4:a.cell? ⟨w.heap.size+1,4,Y⟩=A (I r8 E.h.q):=by rw[Kq _ _ _ _ _ _ j.o];rfl
 have e5:a.cell? ⟨w.heap.size+1,5,Y⟩=A (I U E.h.u):=by rw[Kq _ _ _ _ _ _ j.o];rfl
 have e6:a.cell? ⟨w.heap.size+1,6,Y⟩=A (r9 E.h.h):=by rw[Kq _ _ _ _ _ _ j.o];rfl
 have e7:a.cell? ⟨w.heap.size+1,7,Y⟩=A (I U E.u):=by rw[Kq _ _ _ _ _ _ j.o];rfl
 have e8:a.cell? ⟨w.heap.size+1,8,Y⟩=A (I r8 E.op):=by rw[Kq _ _ _ _ _ _ j.o];rfl
 have e9:a.cell? ⟨w.heap.size+1,9,Y⟩=A (O q nq t):=by rw[Kq _ _ _ _ _ _ j.o];rfl
 have a1:a.cell? ⟨M,6,Y⟩=A (O y C z):=by rw[Kq _ _ _ _ _ _ l.o.m,←X.o];rfl
 have hK:∀b,(b=M∨b=w.heap.size+1)→b<a.heap.size∧(O y C z).ownBlock≠A b:=fun b i=>by
  rw[←X.o];rcases i with rfl|rfl
  ·exact⟨l.o.lt,row_ne l.o.m l.o.c (by decide)⟩
  ·exact⟨(JL.1 j.o).1,fun e=>by have:=bb.o _ e;omega⟩
 have b0:=Hd (jR (E:=168) (sz:=10) (row:=us++[I r8 3,I U 0,O Y 0 0,I r8 E.q,I r8 E.h.q,I U E.h.u,r9 E.h.h,I U E.u,I r8 E.op,O q nq t]) (K:=(fun b=>b=M∨b=w.heap.size+1)) hK);have E0:=fun x:Ks a (fun b=>b=M∨b=w.heap.size+1)=>x.h (wF Z) e0
 have E1:=fun x:Ks a (fun b=>b=M∨b=w.heap.size+1)=>x.h (wF Z) e1
 have E2:=fun x:Ks a (fun b=>b=M∨b=w.heap.size+1)=>x.h (wF Z) e2
 have E3:=fun x:Ks a (fun b=>b=M∨b=w.heap.size+1)=>x.h (wF Z) e3
 have E4:=fun x:Ks a (fun b=>b=M∨b=w.heap.size+1)=>x.h (wF Z) e4
 have E5:=fun x:Ks a (fun b=>b=M∨b=w.heap.size+1)=>x.h (wF Z) e5
 have E6:=fun x:Ks a (fun b=>b=M∨b=w.heap.size+1)=>x.h (wF Z) e6
 have E7:=fun x:Ks a (fun b=>b=M∨b=w.heap.size+1)=>x.h (wF Z) e7
 have E8:=fun x:Ks a (fun b=>b=M∨b=w.heap.size+1)=>x.h (wF Z) e8
 have E9:=fun x:Ks a (fun b=>b=M∨b=w.heap.size+1)=>x.h (wF Z) e9
 have M2:=fun x:Ks a (fun b=>b=M∨b=w.heap.size+1)=>x.h (wD Z) a1
 clear D bB e0 e1 e2 e3 e4 e5 e6 e7 e8 e9 a1 hK;refine RE.z (by kernel_rfl) 9 [7,8] [8] (stA 168 10 a y C z (us++[I r8 3,I U 0,O Y 0 0,I r8 E.q,I r8 E.h.q,I U E.h.u,r9 E.h.h,I U E.u,I r8 E.op,O q nq t])) (ApR a) (fun _ ys=>ys.getD 0 xk) (phA 168 10 a y C z [I r8 3,I U 0,O Y 0 0,I r8 E.q,I r8 E.h.q,I U E.h.u,r9 E.h.h,I U E.u,I r8 E.op,O q nq t] (us++[I r8 3,I U 0,O Y 0 0,I r8 E.q,I r8 E.h.q,I U E.h.u,r9 E.h.h,I U E.u,I r8 E.op,O q nq t]) 7 8) (by kernel_rfl) (fun _ _ _ _ _ _ h i=>h.C i) (fun _ _ _ _ h _ hR=>h.K hR) stA.zero ?_;simp only[JY,J7,JZ,J6]
 repeat (refine RE.q (fun W=>∃x:Ks a (fun b=>b=M∨b=w.heap.size+1),W=x.1) (b0.o _) Z Z Z stA.zero ?_;go_big_quiet_step (fail);refine xL ?_)
 refine RE.h Z Z ?_ (fun cc=>?_)
 ·intro W hC hS hE;obtain⟨s9,_,h9⟩:=hC;exact ek nU (vs:=[I r8 3,I U 0,O Y 0 0,I r8 E.q,I r8 E.h.q,I U E.h.u,r9 E.h.h,I U E.u,I r8 E.op,O q nq t]) _ Z Z Z h9.z (fun v W' i ho=>⟨[v],Z,i,ApR.u i,ho⟩)
 simp only[xS,JP,JW,JV];refine RE.h Z Z ?_ (fun b1=>?_)
 ·intro W hC hS hE;obtain⟨x,rfl⟩:∃x:Wb a,W=x.1:=hS Z;exact i9 nU (p:=y) (n:=C) (c:=z) (w4:=a) (vs:=[I r8 3,I U 0,O Y 0 0,I r8 E.q,I r8 E.h.q,I U E.h.u,r9 E.h.h,I U E.u,I r8 E.op,O q nq t]) (xs:=us) _ _ Z Z (hE 7 cc (by kernel_rfl) Z) Z (by simp[Value.oneCell']) x.2 bR.o (by omega) (fun v' W' h1 h2 h3=>⟨[v'],Z,h1,h2,h3⟩)
 simp only[xS,JP,JW,JV];refine RE.u ?_;intro W hS hE;have hS:ApS 168 10 a y C z (us++[I r8 3,I U 0,O Y 0 0,I r8 E.q,I r8 E.h.q,I U E.h.u,r9 E.h.h,I U E.u,I r8 E.op,O q nq t]) W:=hS;have hV:ApV 168 10 a y C z (us++[I r8 3,I U 0,O Y 0 0,I r8 E.q,I r8 E.h.q,I U E.h.u,r9 E.h.h,I U E.u,I r8 E.op,O q nq t]) W (b1.getD 0 xk):=hE 8 b1 Z;obtain⟨g',cap,eg,hg,hC,S⟩:=jZ hS hV;rw[eg];have b2:Chg (fun b=>(O y cs.length z).ownBlock=A b) a W:=by rw[X.o];exact hC
 have a6:(O y cs.length z).ownBlock=A g'∨a.heap.size≤g':=by rw[X.o];exact hg
 have b3:(ie d).at_ a (fun b=>F b∨bs w1 W2 b) ⟨3,0,[],E⟩ [I r8 3,I U 0,O Y 0 0,I r8 E.q,I r8 E.h.q,I U E.h.u,r9 E.h.h,I U E.u,I r8 E.op,O q nq t]:=qU.2 ⟨show U8 3 from ⟨by decide,by decide⟩,show I64 0 from ⟨by decide,by decide⟩,bn.o,O Y 0 0,O q nq t,Z,Rd.tk,ca.o⟩;obtain⟨b4,b5,ba⟩:=l.o.pushC X.o cb.o b3 a6 b2 (by rw[lX];exact S);have a1:W.cell? ⟨M,6,Y⟩=A (O y C z):=by rw[Kq _ _ _ _ _ _ (ba.trans l.o.m),←X.o];rfl
 have ck:=aB (ba.trans l.o.m) 6;have HP:Hid (lQ F d M ts rs nm sal nv cs acs vT vR vV (O y cs.length z) vA (xn (vars,⟨3,0,[],E⟩)) w (wg (xt true)) (W.setCell ⟨M,6,Y⟩ (O (A ⟨g',0,Y⟩) (C+1) cap))):=by
  refine⟨dI (Chg.u bt.o) b5 (fun x P=>wD P),Z,(fun b=>F b∨bs w1 W2 b),vV,_,b4,fun b i=>wD i,fun b i=>?_,fun _ h=>wD h,fun b h=>h.imp id (fun h=>by have:=L.o;have:=h.1;omega)⟩;injection i with i
  have i:g'=b:=i;subst i;rcases a6 with h|h
  ·exact wD h
  ·have:=b9.o;exact wF (by omega)
 clear hS hV hE eg hg hC S b2 a6 b4 b5 ba E0 E1 E2 E3 E4 E5 E6 E7 E8 E9 M2 b0 b3;go_wp2_with fail
 go_ret;rw[bq.o];exact HP.o
