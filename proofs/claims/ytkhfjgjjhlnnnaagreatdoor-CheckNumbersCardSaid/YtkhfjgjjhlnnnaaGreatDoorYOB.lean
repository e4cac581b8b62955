/- Parts of one proof, joined; conditions stand in each theorem. -/
import Derived.Test.YtkhfjgjjhlnnnaaGreatDoorYOA
import Derived.Test.YtkhfjgjjhlnnnaaGreatDoorYNH
open Go renaming Value→wF,World→wD,Calls→xL,Addr→Bs
open Go.Ending renaming returned→z8
open Go.Value renaming agg→xS,int→I,string→J,pointer→xV,slice→A
open Go.IntKind renaming u8→O,i64→Z
open Option renaming some→Y,none→U
open Go.Proofs.Tryz renaming prog→xD
open Go.Obj renaming cells→wq
open Or renaming inr→z7,inl→z6
namespace Go.Proofs.YtkhfjgjjhlnnnaaGreatDoor
set_option maxHeartbeats 4000000
set_option maxRecDepth 100000
open Go.RowKit
def gK(M:Nat) (ts:List ae) (vars:List ByteArray) (k:Int) (vT vR vV:wF) (d:Nat) (fl:Flt) (r:Except Flt aw) (w:wD) (e:Ending) (w':wD):Prop:=
 ∃fl' E s,e=z8 (xS #[I O E.b,I O E.f.b,I Z E.f.h,J E.f.f,I Z E.h,I O E.op,s])∧aD M ts vars k vT vR vV w fl' w'∧ga E∧cZ w' (ai w w') d E.u s∧Goes fl r fl' (fun y=>E=y)
def j4(M:Nat) (ts:List ae) (vars:List ByteArray) (k:Int) (vT vR vV:wF) (d n:Nat) (fl:Flt) (r:Except Flt (List aw)) (w:wD) (e:Ending) (w':wD):Prop:=
 ∃fl' es v,e=z8 v∧aD M ts vars k vT vR vV w fl' w'∧es.length=n∧aH w' (fun b=>ai w w' b∧v.ownBlock≠Y b) 62 (aL d) es v∧(∀g,v.ownBlock=Y g→w.heap.size≤g)∧Goes fl r fl' (fun ys=>es=ys)
def rV(M:Nat) (ts:List ae) (vars:List ByteArray) (c:Int) (vT vR vV:wF) (d n:Nat) (fl:Flt) (f:ab→Except Flt aw) (Ts:List ab) (w:wD) (v i:wF) (W:wD):Prop:=
 ∃k a es,k≤n∧i=I Z (k:Int)∧es.length=k∧aD M ts vars c vT vR vV w a W∧aH W (fun b=>ai w W b∧v.ownBlock≠Y b) 62 (aL d) es v∧(∀g,v.ownBlock=Y g→w.heap.size≤g)∧Goes fl (bz f (Ts.take k)) a (fun ys=>es=ys)
theorem eI{M B:Nat}{w w':wD}(a:Chg (fun b=>b=M) w w')(hB:B≤M)(c:M<w.heap.size):Below B w w':=⟨a.os,a.a,a.c,a.h,fun b d=>a.u b (by omega) (by omega)⟩
theorem pz(d M B:Nat)(ts:List ae)(vars:List ByteArray)(kf:Int)(vT vR vV:wF)(fl:Flt)(f:ab→Except Flt aw)(bq:∀T,ib (f T))(Ts:List ab)(sl:wF)(w:wD)(hw:RmW M ts vars kf fl vT vR vV w)(br:B≤M)(m:ao w B (d+1) Ts sl)(bt:Ts.length≤20000)
  (F:∀T∈Ts,∀(s:wF) (fl:Flt) (W:wD),RmW M ts vars kf fl vT vR vV W→Fits T→ao W B d T.u s→xL xD 82 #[xV (Y ⟨M,0,U⟩),xS #[I O T.b,J T.f,I Z T.h,I Z T.y,s]] W (gK M ts vars kf vT vR vV d fl (f T) W)) :
  xL xD 83 #[xV (Y ⟨M,0,U⟩),sl] w (j4 M ts vars kf vT vR vV d Ts.length fl (bz f Ts) w):=by
 obtain⟨n,hn⟩:=zzy (Ts.length);obtain⟨p,c,bB⟩:∃p c,sl=A p n c:=by
  rcases m with ⟨rfl,sp,cap,rfl⟩|⟨b,off,cap,h1,h2,h3,h4,rfl,h6⟩
  ·exact⟨sp,cap,by rw[←hn];rfl⟩
  ·exact⟨_,_,by rw[hn]⟩
 subst bB;have ak:=hw.lt;obtain⟨HK,HW,HO⟩:=zz3 m hw F;rw[hn]at bt ⊢;have HN:=Hd hn;clear m hw F hn
 go_enter Tryz.func83,Tryz.ntmps83
 go_wp2
 go_loopw [5,6] (rV M ts vars kf vT vR vV d n fl f Ts w) (fun _ i _=>n-(intOf i).toNat)
 case atStart=>exact⟨0,fl,[],Fa _,V,V,⟨Chg.refl _ _,HW.o⟩,aH.nil,(fun g h=>by cases h),CL⟩
 case round =>
  obtain⟨k,N,es,hk,rfl,P,al,q,aq,ar⟩:=hrel;obtain⟨p5,c5,av⟩:=q.b;rw[P]at av;subst av;have b9:(0:Int)≤k:=by omega
  obtain⟨r,a1,HE,HG,HR⟩:=zz5 al ar P aq q;clear al ar P aq q
  by_cases a6:k<n
  ·have ca:(k:Int)<n:=by omega
   obtain⟨T,hT⟩:∃T,Ts[k]?=Y T:=⟨_,ES (by rw[HN.o];exact a6)⟩;have m:=HK.o.z (eI r.o.1 br ak);rcases m with ⟨rfl,_⟩|⟨b,off,cap,h1,h2,h3,h4,he,h6⟩
   ·simp at hT
   rw[HN.o]at he;injection he with e1 _ e3
   subst e1;subst e3;obtain⟨G,s,c0,c1,c2,c3,c4,Q⟩:=h6 k T hT;obtain⟨ps,cs,rfl⟩:=Q.f;obtain⟨HC,bR⟩:=zz2 (HO.o T (Fj hT) (A ps T.u.length cs) N wr r.o.2 G Q) hT;clear G Q h6 h1 h2 h3 h4 hT;go_wp2_with fail
   refine HC.o.mono ?_;rintro e W2 ⟨b0,E,s2,rfl,t,u,R,H⟩;obtain⟨b1,K,L,b2,b3⟩:=zz5 (A7 bq bR.o a1.o H) (r.o.b t) t.1 u R;clear t H c0 c1 c2 c3 c4;obtain⟨us,a,j⟩:=HR.o;rw[HE.o,eU]at a;have b4:=Hd j;obtain⟨pe,ce,ba⟩:=bg R;clear R u;subst ba;obtain⟨S,l⟩:=zzx (W2.alloc (wq #[I O E.b,I O E.f.b,I Z E.f.h,J E.f.f,I Z E.h,I O E.op,A pe E.u.length ce] 62));have X:FK W2 S:=by rw[l];exact (EP _ W2).alloc (EO _) _
   have ad:=p9 W2 (wq #[I O E.b,I O E.f.b,I Z E.f.h,J E.f.f,I Z E.h,I O E.op,A pe E.u.length ce] 62);rw[←l]at ad;have b5:=Hd ad;have v:FK W2 (S.alloc (wq #[I O E.b,I O E.f.b,I Z E.f.h,J E.f.f,I Z E.h,I O E.op,A pe E.u.length ce] 62)):=X.alloc X.size _;have y:=Hd v;have C:=L.o.b (Chg.f v);have bb:=Hd C;have bc:∀g,(A p5 k c5).ownBlock=Y g→g≠M:=fun g hg=>by have:=HG.o g hg;omega
   obtain⟨b6,b7⟩:=zz2 (dC a (fun g hg=>C.u g (eM a g hg).2 (bc g hg))) a;clear j a X ad v C bc;go_upto_region 6 with fail
   change Code.wp _ _ _ _ (W2.alloc (wq #[I O E.b,I O E.f.b,I Z E.f.h,J E.f.f,I Z E.h,I O E.op,A pe E.u.length ce] 62));rw[←l];clear l;obtain⟨e0,e1,e2,e3,e4,e5,e6⟩:=dF b5.o;go_wp2_with (at_builtin;go_must (refine dU uc V (.tmp 20) (.tmp 22) V (p:=p5) (n:=k) (c:=c5) (z:=bp E (A pe E.u.length ce)) V V b6.o (p9 S _) V (by simp[Value.oneCell',bp]) (by omega) ?_);intro g bd W4 hg hC D)
   have cb:=L.o.h;have cc:=y.o.size;have b8:=r.o.1.h;have af:=b7.o;obtain⟨bk,bl⟩:=sJ (x:=E) HE.o ak b8 bb.o b4.o HG.o (ey.2 ⟨b2.o,_,V,fo (fun b (h:ai wr W2 b)=>⟨⟨by have:=h.1;omega,by have:=h.2;omega⟩,fun e=>by have:=(eM af b e).2;have:=h.1;omega⟩) (fc (fun b h o ho=>(y.o.block b h.2).trans ho) b3.o)⟩) hg hC (by rw[eU];exact D);have bn:=Hd (aD.own HW.o (K.o.b (aD.f K.o.2 y.o)) hC (fun b hb=>HG.o b hb));have HP:Hid (rV M ts vars kf vT vR vV d n fl f Ts w (A (Y ⟨g,0,U⟩) (k+1) bd) (I Z ((k+1:Nat):Int)) W4):=⟨k+1,b0,es++[E],by omega,V,by rw[Fc,HE.o];rfl,bn.o,bk,bl,b1.o⟩;clear hg hC D bk bl e0 e1 e2 e3 e4 e5 e6;go_wp2_with fail
   refine⟨HP.o,?_⟩;simp[intOf];omega
  ·have HX:Hid (Goes fl (bz f Ts) N (fun ys=>es=ys)):=by
    have:=a1.o;rw[Fg (by rw[HN.o];omega)]at this;exact this
   go_wp2_with fail
   go_ret;exact⟨N,es,_,V,r.o,by rw[HE.o];omega,HR.o,HG.o,HX.o⟩
theorem jk:kM .zero:=⟨⟨by decide,by decide⟩,⟨by decide,by decide⟩,Fa _⟩
def jG:Array Value:=#[I O 0,I O 0,I Z 0,J ⟨#[]⟩,I Z 0,I O 0,A U 0 0]
theorem mz{fn:Func}(j:fn.results=#[.cell 4 62])(W:wD)(i:Ending→wD→Prop)(T:Nat)(a b c d e f h:wF)(k:W.heap[T]?=Y (wq #[a,b,c,d,e,f,h] 62 (0,0)))
  (tmps:Array wF) (l:tmps.getD 4 undef=xV (Y ⟨T,0,U⟩)) (m:i (z8 (xS #[a,b,c,d,e,f,h])) W):bodyPost xD fn i .ret ⟨tmps,[]⟩ W:=by
 obtain⟨n,o,c2,p,c4,q,r⟩:=dF k;have g:tmps[4]?.getD undef=xV (Y ⟨T,0,U⟩):=by simpa using l
 refine bodyPost_ret (v:=xS #[a,b,c,d,e,f,h]) ?_ V m;simp[results,j,go_sem,g,n,o,c2,p,c4,q,r]
theorem D2{F:Nat→Prop}{w W:wD}{g:Nat}(j:Chg F w W)(i:w.heap.size≤g)(a b c d e f h:wF):Chg F w (st7 W g 0 a b c d e f h):=by
 unfold st7;exact Chg.y (p:=⟨g,0+6,U⟩) (Chg.y (p:=⟨g,0+5,U⟩) (Chg.y (p:=⟨g,0+4,U⟩) (Chg.y (p:=⟨g,0+3,U⟩) (Chg.y (p:=⟨g,0+2,U⟩) (Chg.y (p:=⟨g,0+1,U⟩) (Chg.y (p:=⟨g,0+0,U⟩) j (z7 i) a) (z7 i) b) (z7 i) c) (z7 i) d) (z7 i) e) (z7 i) f) (z7 i) h
theorem aD.st7{M g:Nat}{ts:List ae}{vars:List ByteArray}{k:Int}{fl:Flt}{vT vR vV:wF}{i:Flt}{w W:wD}(j:RmW M ts vars k i vT vR vV w)(h:aD M ts vars k vT vR vV w fl W)(n:w.heap.size≤g)(a b c d e f x:wF):aD M ts vars k vT vR vV w fl (st7 W g 0 a b c d e f x):=by
 have o:=j.lt;have l:=D2 h.1 n a b c d e f x;exact⟨l,j.chg l ((lv a b c d e f x M (by omega)).trans h.2.m)⟩
theorem jw{M:Nat}{ts:List ae}{vars:List ByteArray}{s:Int}{fl:Flt}{vT vR vV:wF}{w:wD}(hw:RmW M ts vars s fl vT vR vV w)(d:Nat)(T:ab)(p:Option Bs)(n c:Nat)(t:T.b=14∨T.b=15)(y:T.f.size≤72007)(k:aI T=true) :
  xL xD 82 #[xV (Y ⟨M,0,U⟩),xS #[I O T.b,J T.f,I Z T.h,I Z T.y,A p n c]] w (gK M ts vars s vT vR vV d fl (aB vars d T) w):=by
 have C:Hid (aB vars d T=Except.ok (.mk 1 (aF T) 0 0 [])):=by
  show _=_
  cases d<;>(unfold aB;rcases t with h|h<;>rw[h]<;>rfl)
 obtain⟨w1,a⟩:=zzx ((w.alloc (wq #[I O T.b,J T.f,I Z T.h,I Z T.y,A p n c] 25)).alloc (wq jG 62));obtain⟨f,g,_⟩:=ap w (wq #[I O T.b,J T.f,I Z T.h,I Z T.y,A p n c] 25) (wq jG 62);have l:FK w w1:=by rw[a];exact ((EP _ w).alloc (EO _) _).alloc (by simp) _
 rw[←a]at f g;have z:Hid (xL xD 151 #[xS #[I O T.b,J T.f,I Z T.h,I Z T.y,A p n c]] w1 fun e w'=>e=z8 (xS #[I O (aF T).b,I Z (aF T).h,J (aF T).f])∧FK w1 w'):=oV T _ w1 t y k;obtain⟨m,q,D,B,i⟩:=zz5 g l (kE T y) hw a;obtain⟨E,H,K,L,N⟩:=cells5 f;obtain⟨kd,r⟩:∃kd:Int,(T.b:Int)=kd:=⟨_,rfl⟩;have u:kd=14∨kd=15:=by omega
 rw[r]at z E i ⊢;clear f g l hw a k r t;rcases u with rfl|rfl
 all_goals
  go_enter Tryz.func82,Tryz.ntmps82
  go_upto_region 1 with fail
  change Code.wp _ _ _ _ ((w.alloc (wq #[I O _,J T.f,I Z T.h,I Z T.y,A p n c] 25)).alloc (wq jG 62));rw[←i.o];go_wp2_with fail
  refine z.o.mono ?_;rintro e F ⟨rfl,j⟩;have b:=aa j m.o (EN.1 m.o).1;obtain⟨v,x⟩:=zz2 (q.o.trans (j.mono q.o.size)) (gW b (I O 1) (I O (aF T).b) (I Z (aF T).h) (J (aF T).f) (I Z 0) (I O 0) (A U 0 0));have G:Hid (gK M ts vars s vT vR vV d fl (aB vars d T) w (z8 (xS #[I O 1,I O (aF T).b,I Z (aF T).h,J (aF T).f,I Z 0,I O 0,A U 0 0])) (st7 F (w.heap.size+1) 0 (I O 1) (I O (aF T).b) (I Z (aF T).h) (J (aF T).f) (I Z 0) (I O 0) (A U 0 0))):=by
   refine⟨fl,.mk 1 (aF T) 0 0 [],A U 0 0,V,aD.st7 B.o (aD.f B.o v.o) (Fl _) _ _ _ _ _ _ _,⟨⟨by show (0:Int)≤1;decide,by show (1:Int)<256;decide⟩,D.o,⟨by show (-9223372036854775808:Int)≤0;decide,by show (0:Int)<9223372036854775808;decide⟩,⟨by show (0:Int)≤0;decide,by show (0:Int)<256;decide⟩⟩,?_,fO C.o V⟩
   cases d with
   | zero=>exact⟨V,U,0,V⟩
   | succ d=>exact z6 ⟨V,U,0,V⟩
  obtain⟨P,Q,c2,R,c4,S,W⟩:=dF b;have f0:=ac b;clear b j i;go_wp2_with fail
  exact mz Tryz.results82 _ _ (w.heap.size+1) _ _ _ _ _ _ _ x.o _ V G.o
theorem ra{M:Nat}{ts:List ae}{vars:List ByteArray}{D:Int}{fl:Flt}{vT vR vV:wF}{w:wD}(hw:RmW M ts vars D fl vT vR vV w)(d:Nat)(T:ab)(p:Option Bs)(n c:Nat)(L:T.b=13) :
  xL xD 82 #[xV (Y ⟨M,0,U⟩),xS #[I O T.b,J T.f,I Z T.h,I Z T.y,A p n c]] w (gK M ts vars D vT vR vV d fl (aB vars d T) w):=by
 have S:Hid (aB vars d T=match idxOf T.f vars with|some k=>Except.ok (.mk 2 .zero k 0 [])|none=>Except.error (213,T.y)):=by
  show _=_
  cases d<;>(unfold aB;rw[L];rfl)
 rw[L];have m:=Rd.tT hw.v;obtain⟨w1,a⟩:=zzx ((w.alloc (wq #[I O 13,J T.f,I Z T.h,I Z T.y,A p n c] 25)).alloc (wq jG 62));obtain⟨b,i,_⟩:=ap w (wq #[I O 13,J T.f,I Z T.h,I Z T.y,A p n c] 25) (wq jG 62);have r:FK w w1:=by rw[a];exact ((EP _ w).alloc (EO _) _).alloc (by simp) _
 rw[←a]at b i;have E:=aD.f hw r;have s:I64 (bP (idxOf T.f vars)):=by
  unfold maxLen at m;unfold I64
  cases N:idxOf T.f vars with
  | none=>exact⟨by decide,by decide⟩
  | some j =>
   have:=(jg _ _ 0 j N).2
   show _≤(j:Int)∧(j:Int)<_
   omega
 have F:Hid (Goes fl (aB vars d T) (az fl (decide (bP (idxOf T.f vars)<0)) 213 T.y) (fun y=>(.mk 2 .zero (bP (idxOf T.f vars)) 0 []:aw)=y)):=by
  obtain⟨P,fp⟩:=fl
  show Goes _ _ _ _
  rw[S.o]
  cases N:idxOf T.f vars with
  | none =>
   refine⟨fun h=>?_,fun h=>?_⟩
   ·have h:¬P=0:=h;unfold az bP;simp[h]
   ·have h:P=0:=h;subst h;rfl
  | some j =>
   have W:decide (((j:Int))<0)=false:=by rw[r6];omega
   unfold bP az;dsimp only;rw[W];exact⟨fun _=>rfl,fun _=>⟨V,V⟩⟩
 have Q:=Hd (pn E.2 T.f);generalize bP (idxOf T.f vars)=q at *;obtain⟨t,u,x,X,z,HQ⟩:=zz6 E b i hw a s;obtain⟨ad,af⟩:-9223372036854775808≤q∧q<9223372036854775808:=s;have ak:=hw.lt;obtain⟨e0,e1,e2,e3,e4⟩:=cells5 b;clear b i r hw a E m
 go_enter Tryz.func82,Tryz.ntmps82
 go_upto_region 1 with fail
 change Code.wp _ _ _ _ ((w.alloc (wq #[I O 13,J T.f,I Z T.h,I Z T.y,A p n c] 25)).alloc (wq jG 62));rw[←z.o];clear z;go_wp2_with fail
 refine Q.o.mono ?_;rintro e w2 ⟨rfl,f⟩;obtain⟨B,G,C⟩:=zz3 (t.o.b (aD.f t.o.2 f)) (aa f u.o (EN.1 u.o).1) (aa f x.o (EN.1 x.o).1);have R:=Hd (dI (B.o.2) (decide (q<0)) 213 13 T.f T.h T.y p n c);clear e0 e1 e2 e3 e4 f Q;obtain⟨b0,b1,b2,b3,b4⟩:=cells5 G.o;go_wp2_with fail
 refine R.o.mono ?_;rintro e w3 ⟨rfl,l⟩;have H:=Hd (B.o.b l);have g:=bu l.1 C.o (EN.1 C.o).1 (fun e=>by omega);have K:=Hd (gW g (I O 2) (I O 0) (I Z 0) (J ⟨#[]⟩) (I Z q) (I O 0) (A U 0 0));have HP:Hid (gK M ts vars D vT vR vV d fl (aB vars d T) w (z8 (xS #[I O 2,I O 0,I Z 0,J ⟨#[]⟩,I Z q,I O 0,A U 0 0])) (st7 w3 (w.heap.size+1) 0 (I O 2) (I O 0) (I Z 0) (J ⟨#[]⟩) (I Z q) (I O 0) (A U 0 0))):=by
  refine⟨_,.mk 2 .zero q 0 [],A U 0 0,V,aD.st7 X.o H.o (Fl _) _ _ _ _ _ _ _,⟨⟨by show (0:Int)≤2;decide,by show (2:Int)<256;decide⟩,jk,HQ.o,⟨by show (0:Int)≤0;decide,by show (0:Int)<256;decide⟩⟩,?_,F.o⟩
  cases d with
  | zero=>exact⟨V,U,0,V⟩
  | succ d=>exact z6 ⟨V,U,0,V⟩
 obtain⟨c0,c1,c2,c3,c4,c5,c6⟩:=dF g;have f0:=ac g;clear g l b0 b1 b2 b3 b4 R;go_wp2_with fail
 exact mz Tryz.results82 _ _ (w.heap.size+1) _ _ _ _ _ _ _ K.o _ V HP.o
theorem wZ(W:wD)(g:Nat)(a b c d e f h:wF):(st7 W g 0 a b c d e f h).heap.size=W.heap.size:=by simp[st7,World.setCell]
theorem BS{d:Nat}{W:wD}{F:Nat→Prop}{g:Nat}{x y:aw}{b c:wF}(e:W.heap[g]?=Y (wq (bp x b++bp y c).toArray 62 (0,0)))(hF:F g)(f:(aL d).at_ W F x (bp x b))(h:(aL d).at_ W F y (bp y c)) :
  (aL d).K W F [x,y] (A (Y ⟨g,0,U⟩) 2 2):=by
 refine z7 ⟨g,0,2,by simp,hF,(EN.1 e).1,EO _,by decide,V,fun i z a=>?_⟩
 match i,a with
 | 0,a =>
  injection a with a
  subst a;refine⟨_,f,fun m u hu=>?_⟩;rw[FI _ _ _ _ _ _ e];have hm:m<(bp x b).length:=(Fe.1 hu).1;rw[show 0+0*(aL d).n+m=m by omega]
  simpa [List.getElem?_append_left hm]using hu
 | 1,a =>
  injection a with a
  have a:y=z:=a;subst a;refine⟨_,h,fun m u hu=>?_⟩;rw[FI _ _ _ _ _ _ e,eU];rw[show 0+1*7+m=7+m by omega];have:((bp x b++bp y c).toArray)[7+m]?=(bp y c)[m]?:=by
   rw[List.getElem?_toArray,Ft (by show 7≤7+m;omega)];rw[show 7+m-(bp x b).length=m by show 7+m-7=m;omega]
  rw[this];exact hu
theorem DK{d:Nat}{vars:List ByteArray}{fl fl':Flt}{T:ab}{es:List aw}(f:T.b=16)(h:Goes fl (bz (aB vars d) T.u) fl' (fun ys=>es=ys)) :
  Goes fl (aB vars (d+1) T) fl' (fun y=>(.mk 3 .zero 0 (opM T.f.data.toList T.u.length).1 (if (opM T.f.data.toList T.u.length).2 then es.reverse else es):aw)=y):=by
 have e:aB vars (d+1) T=match bz (aB vars d) T.u with
   | .error e=>Except.error e
   | .ok b=>Except.ok (.mk 3 .zero 0 (opM T.f.data.toList T.u.length).1 (if (opM T.f.data.toList T.u.length).2 then b.reverse else b)):=by
  conv=>lhs;unfold aB
  rw[f];rfl
 rw[e];refine⟨h.1,fun g=>?_⟩;have a:=h.2 g
 cases c:bz (aB vars d) T.u with
 | error er=>rw[c]at a;exact a
 | ok ys =>
  rw[c]at a;obtain⟨i,j⟩:=a;subst j;exact⟨i,V⟩
theorem xf{T:ab}(b:T.b=16)(a:aI T=true):(T.u.length=1∧cg kX T.f.data.toList=true)∨(T.u.length=2∧cg jf T.f.data.toList=true):=by
 unfold aI at a;simp only[Ff]at a;have h:=a.1.1.1.2;unfold cJ at h;rw[b]at h
 simpa using h
theorem AI{M B:Nat}{ts:List ae}{vars:List ByteArray}{kf:Int}{fl:Flt}{vT vR vV:wF}{w:wD}(hw:RmW M ts vars kf fl vT vR vV w)(d:Nat)(T:ab)(p:Option Bs)(c:Nat)(dp:B≤M)(hk:T.b=16)(a6:aI T=true)
  (ba:ao w B (d+1) T.u (A p T.u.length c))
  (hx:∀(W:wD),RmW M ts vars kf fl vT vR vV W→ao W B (d+1) T.u (A p T.u.length c)→xL xD 83 #[xV (Y ⟨M,0,U⟩),A p T.u.length c] W (j4 M ts vars kf vT vR vV d T.u.length fl (bz (aB vars d) T.u) W)) :
  xL xD 82 #[xV (Y ⟨M,0,U⟩),xS #[I O T.b,J T.f,I Z T.h,I Z T.y,A p T.u.length c]] w (gK M ts vars kf vT vR vV (d+1) fl (aB vars (d+1) T) w):=by
 have bb:=xf hk a6;obtain⟨bc,HU⟩:=zz2 (fun fl' es=>DK (d:=d) (vars:=vars) (fl:=fl) (fl':=fl') (T:=T) (es:=es) hk) (AL T.f.data.toList T.u.length);have y:Hid ((opM T.f.data.toList T.u.length).2=true→T.u.length=2):=by
  intro h
  by_cases h2:T.u.length=2
  ·exact h2
  ·rw[rB _ _ h2]at h
   split at h<;>cases h
 obtain⟨w1,K⟩:=zzx ((w.alloc (wq #[I O T.b,J T.f,I Z T.h,I Z T.y,A p T.u.length c] 25)).alloc (wq jG 62));obtain⟨u,ad,_⟩:=ap w (wq #[I O T.b,J T.f,I Z T.h,I Z T.y,A p T.u.length c] 25) (wq jG 62);have bd:FK w w1:=by rw[K];exact ((EP _ w).alloc (EO _) _).alloc (by simp) _
 rw[←K]at u ad;have ds:=hw.lt;have HK:=Hd (wt T.f T.u.length w1 bb);have HC:=Hd (fun W (hW:FK w W)=>hx W (hw.z hW) (ba.z (hW.mono (by omega))));obtain⟨L,bk,bl,HW,N⟩:=zz5 u ad bd hw K;obtain⟨kd,bn⟩:∃kd:Int,(T.b:Int)=kd:=⟨_,rfl⟩;have ct:kd=16:=by omega
 rw[bn]at L N u ⊢;subst ct;generalize opM T.f.data.toList T.u.length=op at *;obtain⟨o,tu⟩:=op;obtain⟨n,hn⟩:=zzy (T.u.length);rw[hn]at HK HC L N u y ⊢;obtain⟨e0,e1,e2,e3,e4⟩:=cells5 u;have dv:(n:Int)≤2:=by omega
 clear u ad bd hw K a6 hx ba bb bn hk hn
 go_enter Tryz.func82,Tryz.ntmps82
 go_upto_region 1 with fail
 change Code.wp _ _ _ _ ((w.alloc (wq #[I O 16,J T.f,I Z T.h,I Z T.y,A p n c] 25)).alloc (wq jG 62));rw[←N.o];clear N;go_wp2_with fail
 refine HK.o.mono ?_;rintro e P ⟨rfl,Q⟩;obtain⟨af,cu,ak⟩:=zz3 (bl.o.trans (Q.mono bl.o.size)) (aa Q L.o (EN.1 L.o).1) (aa Q bk.o (EN.1 bk.o).1);clear e0 e1 e2 e3 e4 Q HK;obtain⟨b0,b1,b2,b3,b4⟩:=cells5 cu.o;go_wp2_with fail
 refine (HC.o P af.o).mono ?_;rintro e f ⟨fl',es,v,rfl,r,al,z,bq,br⟩;obtain⟨X,R,aq,bt,cv⟩:=zz5 (bc.o fl' es br) ((aD.f HW.o af.o).b r) (bu r.1 ak.o (EN.1 ak.o).1 (fun e=>by omega)) z bq;have c8:=r.1.h;have cx:=Hd al;obtain⟨q,cq,hv⟩:=z.b;rw[al]at hv;subst hv;clear b0 b1 b2 b3 b4 r al z bq br HC bc;have eg:=af.o.size;have c9:w.heap.size+1<P.heap.size:=(EN.1 ak.o).1;have s:=aH.K (G:=fun b=>ai P f b) bt.o (fun b h=>h.1) (fun g hg=>⟨cv.o g hg,aH.lt bt.o hg⟩);have cA:=Hd s
 cases tu with
 | false =>
  have l:=aq.o;have ar:=Hd (gW l (I O 3) (I O 0) (I Z 0) (J ⟨#[]⟩) (I Z 0) (I O o) (A q n cq));have HP:Hid (gK M ts vars kf vT vR vV (d+1) fl (aB vars (d+1) T) w (z8 (xS #[I O 3,I O 0,I Z 0,J ⟨#[]⟩,I Z 0,I O o,A q n cq])) (st7 f (w.heap.size+1) 0 (I O 3) (I O 0) (I Z 0) (J ⟨#[]⟩) (I Z 0) (I O o) (A q n cq))):=by
   have r:=aD.st7 HW.o R.o (Fl _) (I O 3) (I O 0) (I Z 0) (J ⟨#[]⟩) (I Z 0) (I O o) (A q n cq);refine⟨_,.mk 3 .zero 0 o es,A q n cq,V,r,⟨⟨by show (0:Int)≤3;decide,by show (3:Int)<256;decide⟩,jk,⟨by show (-9223372036854775808:Int)≤0;decide,by show (0:Int)<9223372036854775808;decide⟩,HU.o⟩,?_,X.o⟩
   show (aL d).K _ _ es _
   refine Rd.y (fun b (h:ai P f b)=>⟨by have:=h.1;omega,ET h.2 (Nat.le_of_eq (wZ _ _ _ _ _ _ _ _ _).symm)⟩) (Rd.f (fun b h o ho=>(lv _ _ _ _ _ _ _ b (by have:=h.1;omega)).trans ho) cA.o)
  obtain⟨c0,c1,c2,c3,c4,c5,c6⟩:=dF l;have f0:=ac l;clear l s;go_wp2_with fail
  exact mz Tryz.results82 _ _ (w.heap.size+1) _ _ _ _ _ _ _ ar.o _ V HP.o
 | true =>
  obtain rfl:n=2:=y.o V;obtain⟨a,b,rfl⟩:∃a b,es=[a,b]:=by
   have h:=cx.o
   match es,h with
   | [a,b],_=>exact⟨a,b,V⟩
  obtain⟨g,off,cap,va,cC,_,_,_,_,C,j⟩:=Rd.tS (i:=0) s V;obtain⟨g2,da,dc,vb,cR,_,_,_,_,D,k⟩:=Rd.tS (i:=1) s V;injection cC with ea _ ec
  subst ea;subst ec;injection cR with eb _ cT
  injection eb with eb
  injection eb with cV cW
  subst cV;subst cW;subst cT;rw[eU]at j k;obtain⟨bB,bR⟩:=zz2 C D;obtain⟨_,sa,rfl,b5⟩:=ey.1 C;obtain⟨_,sb,rfl,b6⟩:=ey.1 D;obtain⟨pa,ca,rfl⟩:=bg b5;obtain⟨pb,cb,rfl⟩:=bg b6;obtain⟨na,b7⟩:=zzy (a.u.length);obtain⟨nb,b8⟩:=zzy (b.u.length);rw[b7]at j bB;rw[b8]at k bR;clear C D b5 b6 s b7 b8;have d0:f.cell? ⟨g,off,U⟩=Y (I O a.b):=j 0 _ V;have d1:f.cell? ⟨g,off+1,U⟩=Y (I O a.f.b):=by have:=j 1 _ V;rwa [show off+0*7+1=off+1 by omega]at this
  have d2:f.cell? ⟨g,off+2,U⟩=Y (I Z a.f.h):=by have:=j 2 _ V;rwa [show off+0*7+2=off+2 by omega]at this
  have d3:f.cell? ⟨g,off+3,U⟩=Y (J a.f.f):=by have:=j 3 _ V;rwa [show off+0*7+3=off+3 by omega]at this
  have d4:f.cell? ⟨g,off+4,U⟩=Y (I Z a.h):=by have:=j 4 _ V;rwa [show off+0*7+4=off+4 by omega]at this
  have d5:f.cell? ⟨g,off+5,U⟩=Y (I O a.op):=by have:=j 5 _ V;rwa [show off+0*7+5=off+5 by omega]at this
  have d6:f.cell? ⟨g,off+6,U⟩=Y (A pa na ca):=by have:=j 6 _ V;rwa [show off+0*7+6=off+6 by omega]at this
  have e0:f.cell? ⟨g,off+7,U⟩=Y (I O b.b):=k 0 _ V;have e1:f.cell? ⟨g,off+7+1,U⟩=Y (I O b.f.b):=k 1 _ V;have e2:f.cell? ⟨g,off+7+2,U⟩=Y (I Z b.f.h):=k 2 _ V;have e3:f.cell? ⟨g,off+7+3,U⟩=Y (J b.f.f):=k 3 _ V;have e4:f.cell? ⟨g,off+7+4,U⟩=Y (I Z b.h):=k 4 _ V;have e5:f.cell? ⟨g,off+7+5,U⟩=Y (I O b.op):=k 5 _ V;have e6:f.cell? ⟨g,off+7+6,U⟩=Y (A pb nb cb):=k 6 _ V;clear j k
  go_wp2
  go_still_tail 6,(by kernel_rfl)
  change wpList _ _ _ _ _ f.drew;obtain⟨w4,S⟩:=zzx (f.drew);have b9:FK f w4:=by rw[S];exact (EP _ f).drew
  rw[←S];obtain⟨E,H⟩:=zzx (w4.alloc (wq (bp b (A pb nb cb)++bp a (A pa na ca)).toArray 62));have av:=p9 w4 (wq (bp b (A pb nb cb)++bp a (A pa na ca)).toArray 62);have cc:FK w4 E:=by rw[H];exact (EP _ w4).alloc (EO _) _
  rw[←H]at av;have ch:E.heap.size=w4.heap.size+1:=by rw[H];simp
  have ck:w4.heap.size=f.heap.size:=by rw[S];rfl
  have t:FK f E:=b9.trans (cc.mono (by omega));have cl:=Hd (R.o.b (aD.f R.o.2 t));have dd:=R.o.1.h;have c7:=Hd (aa t aq.o (EN.1 aq.o).1);have kp:∀x,ai P f x→∀o,f.heap[x]?=Y o→E.heap[x]?=Y o:=fun x h o ho=>(t.block x h.2).trans ho
  have sb:∀x,ai P f x→ai P E x:=fun x h=>⟨h.1,ET h.2 t.size⟩
  obtain⟨a1,cr,dg⟩:=zz3 (BS (d:=d) (F:=ai P E) av ⟨by omega,by omega⟩ ((aL d).N sb ((aL d).C kp bR.o)) ((aL d).N sb ((aL d).C kp bB.o))) H (show w4.heap.size<E.heap.size by omega);clear b9 av cc ch ck t H S kp sb;go_upto_region 13 with fail
  change Code.wp _ _ _ _ (w4.alloc (wq (bp b (A pb nb cb)++bp a (A pa na ca)).toArray 62));rw[←cr.o];clear cr d0 d1 d2 d3 d4 d5 d6 e0 e1 e2 e3 e4 e5 e6;have l:=c7.o;have ar:=Hd (gW l (I O 3) (I O 0) (I Z 0) (J ⟨#[]⟩) (I Z 0) (I O o) (A (Y ⟨w4.heap.size,0,U⟩) 2 2));have HP:Hid (gK M ts vars kf vT vR vV (d+1) fl (aB vars (d+1) T) w (z8 (xS #[I O 3,I O 0,I Z 0,J ⟨#[]⟩,I Z 0,I O o,A (Y ⟨w4.heap.size,0,U⟩) 2 2])) (st7 E (w.heap.size+1) 0 (I O 3) (I O 0) (I Z 0) (J ⟨#[]⟩) (I Z 0) (I O o) (A (Y ⟨w4.heap.size,0,U⟩) 2 2))):=by
   have r:=aD.st7 HW.o cl.o (Fl _) (I O 3) (I O 0) (I Z 0) (J ⟨#[]⟩) (I Z 0) (I O o) (A (Y ⟨w4.heap.size,0,U⟩) 2 2);refine⟨_,.mk 3 .zero 0 o [b,a],A (Y ⟨w4.heap.size,0,U⟩) 2 2,V,r,⟨⟨by show (0:Int)≤3;decide,by show (3:Int)<256;decide⟩,jk,⟨by show (-9223372036854775808:Int)≤0;decide,by show (0:Int)<9223372036854775808;decide⟩,HU.o⟩,?_,X.o⟩
   show (aL d).K _ _ [b,a] _
   refine Rd.y (fun b (h:ai P E b)=>⟨by have:=h.1;omega,ET h.2 (Nat.le_of_eq (wZ _ _ _ _ _ _ _ _ _).symm)⟩) (Rd.f (fun b h o ho=>(lv _ _ _ _ _ _ _ b (by have:=h.1;omega)).trans ho) a1.o)
  obtain⟨c0,c1,c2,c3,c4,c5,c6⟩:=dF l;have f0:=ac l;clear l;go_wp2_with fail
  exact mz Tryz.results82 _ _ (w.heap.size+1) _ _ _ _ _ _ _ ar.o _ V HP.o
def iT(T:ab):Prop:=T.b=13∨T.b=14∨T.b=15∨T.b=16
theorem j3{l:List ab}(h:cI l=true):∀t∈l,iT t:=by
 intro t b;unfold cI at h;simp only[Ff]at h;have a:=h.2;unfold bG at a;have:=Fx.1 a t b;unfold iT
 simpa using this
theorem DC{T:ab}(b:T.b=16)(a:aI T=true):∀t∈T.u,iT t:=by
 unfold aI at a;simp only[Ff]at a;have h:=a.2;unfold bv at h;rw[b]at h;exact j3 (by simpa using h)
theorem qI{M B:Nat}(ts:List ae)(vars:List ByteArray)(j:Int)(vT vR vV:wF)(i:B≤M):∀(d:Nat) (T:ab) (s:wF) (fl:Flt) (w:wD),RmW M ts vars j fl vT vR vV w→ao w B d T.u s→dh d T→okF d T=true→iT T→
  xL xD 82 #[xV (Y ⟨M,0,U⟩),xS #[I O T.b,J T.f,I Z T.h,I Z T.y,s]] w (gK M ts vars j vT vR vV d fl (aB vars d T) w):=by
 intro d
 induction d with
 | zero =>
  intro T s fl w hw f g b a;obtain⟨p,c,rfl⟩:=f.f;have b:aI T=true:=b;rcases a with a|a|a|a
  ·exact ra hw 0 T p _ c a
  ·exact jw hw 0 T p _ c (z6 a) g.f b
  ·exact jw hw 0 T p _ c (z7 a) g.f b
  ·have n:T.u=[]:=f.1;rcases xf a b with h|h
   ·rw[n]at h;cases h.1
   ·rw[n]at h;cases h.1
 | succ d o =>
  intro T s fl w hw f g b a;obtain⟨p,c,rfl⟩:=f.f;have e:aI T=true∧∀t∈T.u,okF d t=true:=by
   unfold okF at b;simp only[Ff,Fx]at b;exact b
  rcases a with a|a|a|a
  ·exact ra hw (d+1) T p _ c a
  ·exact jw hw (d+1) T p _ c (z6 a) g.f e.1
  ·exact jw hw (d+1) T p _ c (z7 a) g.f e.1
  ·refine AI hw d T p c i a e.1 f (fun W k l=>?_);exact pz d M B ts vars j vT vR vV fl (aB vars d) (iU vars d) T.u _ W k i l g.2.1
    (fun t m s fl W k _ f=>o t s fl W k f (g.2.2 t m) (e.2 t m) (DC a e.1 t m))
theorem o0{M B:Nat}(ts:List ae)(vars:List ByteArray)(c:Int)(vT vR vV:wF)(b:B≤M)(d:Nat)(Ts:List ab)(e:wF)(fl:Flt)(w:wD)(hw:RmW M ts vars c fl vT vR vV w)(a:ao w B (d+1) Ts e)(j:Ts.length≤20000)
  (f:∀t∈Ts,dh d t) (g:∀t∈Ts,okF d t=true) (h:∀t∈Ts,iT t):xL xD 83 #[xV (Y ⟨M,0,U⟩),e] w (j4 M ts vars c vT vR vV d Ts.length fl (bz (aB vars d) Ts) w):=
 pz d M B ts vars c vT vR vV fl (aB vars d) (iU vars d) Ts e w hw b a j (fun t i s fl W k _ a=>qI ts vars c vT vR vV b d t s fl W k a (f t i) (g t i) (h t i))
theorem yL(T:ab)(p:Option Bs)(n c:Nat)(w:wD) :
  xL xD 50 #[xS #[I O T.b,J T.f,I Z T.h,I Z T.y,A p n c]] w (fun e w'=>e=z8 (Value.bool (aO T))∧FK w w'):=by
 have b:FK w (w.alloc (wq #[I O T.b,J T.f,I Z T.h,I Z T.y,A p n c] 25)):=(EP _ w).alloc (EO _) _;have a:=Hd b;have d:Hid (aO T=(decide ((T.b:Int)=5)||decide ((T.b:Int)=6)||decide ((T.b:Int)=7))):=by
  show _=_
  unfold aO;rw[Fw];simp only[List.contains_cons,List.contains_nil,Bool.or_false,Bool.or_eq_true,tk,r7];omega
 rw[d.o];clear b d;generalize (T.b:Int)=kd at *
 by_cases f:kd=5
 ·subst f
  go_enter Tryz.func50,Tryz.ntmps50
  go_wp2
  go_ret;exact⟨V,a.o⟩
 ·by_cases g:kd=6
  ·subst g
   go_enter Tryz.func50,Tryz.ntmps50
   go_wp2
   go_ret;exact⟨V,a.o⟩
  ·by_cases h:kd=7
   ·subst h
    go_enter Tryz.func50,Tryz.ntmps50
    go_wp2
    go_ret;exact⟨V,a.o⟩
   ·go_enter Tryz.func50,Tryz.ntmps50
    go_wp2
    go_ret;exact⟨by simp[f,g,h],a.o⟩
def rN(L n:Nat) (us:List wF) (nm:wF) (W W':wD):Prop:=FK W W'∨∃g cap,W.ownsRow L 9 1 (A (Y ⟨g,0,U⟩) n cap) n us∧W'.ownsRow L 9 1 (A (Y ⟨g,0,U⟩) (n+1) cap) (n+1) (us++[nm])∧W.grownBy W' (Y g)
theorem cw{W:wD}{L n g cap:Nat}{us:List wF}(h:W.ownsRow L 9 1 (A (Y ⟨g,0,U⟩) n cap) n us):us.length=n∧L≤g∧n≤cap∧cap≤maxLen∧∃cur,W.heap[g]?=Y (wq cur 9 (0,0))∧cur.size=cap∧cur.toList.take n=us:=by
 obtain⟨c,d⟩:=h;rcases d with ⟨e,_⟩|⟨p,b,cur,e,f,i,j,k,l,m⟩
 ·cases e
 ·injection e with a _ o
  injection a with a
  injection a with a _
  subst a;subst o;exact⟨by rw[c,Nat.mul_one],f,j,k,cur,i,by rw[l,Nat.mul_one],by rw[←m,Nat.mul_one]⟩
theorem rr{W:wD}{L n g cap:Nat}{us:List wF}{cur:Array wF}(a:us.length=n)(b:L≤g)(c:n≤cap)(d:cap≤maxLen)(e:W.heap[g]?=Y (wq cur 9 (0,0)))(f:cur.size=cap)(h:cur.toList.take n=us):W.ownsRow L 9 1 (A (Y ⟨g,0,U⟩) n cap) n us:=
 ⟨by rw[a,Nat.mul_one],z7 ⟨g,cap,cur,V,b,e,c,d,by rw[f,Nat.mul_one],by rw[Nat.mul_one];exact h⟩⟩
theorem zj{W:wD}{L n g cap:Nat}{us:List wF}{nm:wF}(h:W.ownsRow L 9 1 (A (Y ⟨g,0,U⟩) (n+1) cap) (n+1) (us++[nm])):W.ownsRow L 9 1 (A (Y ⟨g,0,U⟩) n cap) n us:=by
 obtain⟨a,c,j,d,cur,e,f,i⟩:=cw h;have b:us.length=n:=by rw[Fc]at a;simpa using a
 refine rr b c (by omega) d e f ?_;have:(cur.toList.take (n+1)).take n=us:=by rw[i,←b,List.take_left'];rfl
 rw[List.take_take,Nat.min_eq_left (by omega)]at this;exact this
theorem CN{L n g cap:Nat}{us:List wF}{nm:wF}{W W':wD}(h:rN L n us nm W W')(k:W.ownsRow L 9 1 (A (Y ⟨g,0,U⟩) n cap) n us):W'.ownsRow L 9 1 (A (Y ⟨g,0,U⟩) n cap) n us:=by
 rcases h with h|⟨g2,b,f,i,j⟩
 ·exact cY k h
 ·by_cases e:g=g2
  ·subst e;obtain⟨_,_,_,_,cur,a1,a2,_⟩:=cw k;obtain⟨_,_,_,_,d,a,o,_⟩:=cw f;rw[a1]at a;injection a with a
   injection a with a
   subst a;have:cap=b:=by omega
   subst this;exact zj i
  ·obtain⟨_,_,_,_,cur,a1,_⟩:=cw k;exact dC k fun l c=>by
    injection c with c
    have c:g=l:=c;subst c;exact j.block g (EN.1 a1).1 (fun m=>e (by injection m))
theorem Ch{L n g cap:Nat}{us:List wF}{nm:wF}{W W':wD}(h:rN L n us nm W W')(k:W.ownsRow L 9 1 (A (Y ⟨g,0,U⟩) (n+1) cap) (n+1) (us++[nm])):W'.ownsRow L 9 1 (A (Y ⟨g,0,U⟩) (n+1) cap) (n+1) (us++[nm]):=by
 rcases h with h|⟨g2,b,f,i,j⟩
 ·exact cY k h
 ·by_cases e:g=g2
  ·subst e;obtain⟨_,_,_,_,cur,a1,a2,_⟩:=cw k;obtain⟨_,_,_,_,d,a,o,_⟩:=cw f;rw[a1]at a;injection a with a
   injection a with a
   subst a;have:cap=b:=by omega
   subst this;exact i
  ·obtain⟨_,_,_,_,cur,a1,_⟩:=cw k;exact dC k fun l c=>by
    injection c with c
    have c:g=l:=c;subst c;exact j.block g (EN.1 a1).1 (fun m=>e (by injection m))
theorem Av{L n g:Nat}{us:List wF}{nm:wF}{W W':wD}(h:rN L n us nm W W')(k:W.heap[g]?=Y (wq #[nm] 9 (0,0))):W'.heap[g]?=Y (wq #[nm] 9 (0,0)):=by
 have b:=(EN.1 k).1;rcases h with h|⟨g2,c,d,f,j⟩
 ·exact (h.block g b).trans k
 ·by_cases e:g=g2
  ·subst e;obtain⟨m,_,_,_,cur,a1,a2,_⟩:=cw d;obtain⟨t,_,u,_,a,o,v,p⟩:=cw f;rw[k]at a1;injection a1 with a1
   injection a1 with a1
   subst a1;have q:c=1:=by rw[←a2];rfl
   subst q;have r:n=0:=by omega
   subst r;have hu:us=[]:=Fp m;subst hu;rw[o];have:a.toList=[nm]:=by
    rw[←Fg (l:=a.toList) (i:=0+1) (by rw[Fq];omega)];exact p
   have:a=#[nm]:=by rw[←Array.toList_inj];exact this
   rw[this]
  ·exact (j.block g b (fun s=>e (by injection s))).trans k
theorem iz:Elem 9 77 1 16:=Elem.of (z:=J ByteArray.empty) Tryz.underlying77 (by kernel_rfl) (by kernel_rfl) (by decide) (by decide)
theorem yn{o:Oper}{a:Act}{W:wD}{G:wF→wD→Prop}(d:o.op=.buildSlice 77 0 #[])
  (e:∀W',FK W W'→W'.ownsRow W.heap.size 9 1 (A (Y ⟨W.heap.size,0,U⟩) 0 0) 0 []→G (A (Y ⟨W.heap.size,0,U⟩) 0 0) W'):RE.Upon xD o a W G:=by
 obtain⟨i0,z,c,g,h,i,j⟩:=iz.info;have b:(execOp a.eval o).run xD W=.ok (.value (A (Y ⟨W.heap.size,0,U⟩) 0 0)) (W.alloc (wq #[] 9)):=by
  unfold execOp;simp only[d,th];simp[Instr.buildSlice,run_underlying iz.und,sizeOf,typeInfo,c,newRow,Instr.fill];have he:∀f:Nat→wF,Array.map f (Array.range 0)=#[]:=fun f=>Array.eq_empty_of_size_eq_zero (by simp)
  rw[he]
 refine RE.upon_run b (e _ ((EP _ W).alloc (EO _) _) ?_);exact rr V (EO _) (EO _) (Fa _) (p9 W _) V V
theorem sM{o:Oper}{a:Act}{W:wD}{G:wF→wD→Prop}{L n m c:Nat}{p:Option Bs}{us zs:List wF}(s y:Operand)(l:o.op=.call { callee:=.builtin .append,args:=#[s,y],argTypes:=#[77,77] })
  (E:a.eval s=A p n c) (i:W.ownsRow L 9 1 (A p n c) n us) {b off cap:Nat} (F:a.eval y=A (Y ⟨b,off,U⟩) m cap) (H:∀j u,zs[j]?=Y u→W.cell? ⟨b,off+j,U⟩=Y u) (S:zs.length=m) (K:∀u∈zs,u.oneCell'=true) (hm:0<m) (T:n+m≤100000) (M:L≤W.heap.size)
  (N:∀v W',W'.ownsRow L 9 1 v (n+m) (us++zs)→((∃g cap,A p n c=A (Y ⟨g,0,U⟩) n cap∧v=A (Y ⟨g,0,U⟩) (n+m) cap∧W.grownBy W' (Y g))∨(∃cap,v=A (Y ⟨W.heap.size,0,U⟩) (n+m) cap∧FK W W'))→G v W'):RE.Upon xD o a W G:=by
 obtain⟨i0,z,q,r,t,x,B⟩:=iz.info;have d:∀j u,zs[j]?=Y u→W.cell? ((⟨b,off,U⟩:Bs).add j)=Y u:=fun j u Q=>by
  have e:(⟨b,off,U⟩:Bs).add j=⟨b,off+j,U⟩:=by
   unfold Addr.add
   by_cases C:j=0
   ·subst C;rfl
   ·rw[qv C]
  rw[e];exact H j u Q
 obtain⟨D,w',R,f,h⟩:=jx (P:=xD) (w:=W) L 77 o.type 9 i0 z 1 16 iz.und q r t x B (by decide) _ n us i ⟨b,off,U⟩ m cap zs (by omega) d K (by unfold maxLen;omega) (by omega) M hm;have k:(execOp a.eval o).run xD W=.ok (.value D) w':=by simp[execOp,l,resolve,invoke,builtin,E,F,R,Result.andThen]
 exact RE.upon_run k (N D w' f h)
