/- Parts of one proof, joined; conditions stand in each theorem. -/
import Derived.Test.YtoahnjkclckodaaGreatDoorIM
import Derived.Test.YtoahnjkclckodaaGreatDoorIL
import Derived.Test.YtoahnjkclckodaaGreatDoorNO
import Derived.Test.YtoahnjkclckodaaGreatDoorIH
open Go renaming Value→tT,World→J,Calls→wg,undef→wF
open Go.Proofs.Tryz renaming prog→vo
open Go.Value renaming agg→xk,int→I,slice→O,tuple→y9,bool→xv,pointer→vv,string→tS
open Go.IntKind renaming i64→U
open Go.Ending renaming returned→wj
open Go.Obj renaming cells→r9
open Option renaming some→A,none→Y
open Except renaming error→z6,ok→xt
namespace Go.Proofs.YtoahnjkclckodaaGreatDoor
set_option maxHeartbeats 4000000
set_option maxRecDepth 100000
open Go.RowKit
theorem xz(f:am)(s:tT)(x:Int)(w:J)(g:bL.h w (fun b=>b<w.heap.size) f.a s) :
  wg vo 135 #[xk #[I U f.id,I U f.u,s],I U x] w (fun e w'=>e=wj (I U (Lib.compareInt f.id x))∧Gl w w'):=by
 obtain⟨p,c,h⟩:=Rd.q g;obtain⟨m,hm⟩:=zzy (f.a.length);rw[hm]at h;subst h;obtain⟨w1,a⟩:=zzx (w.alloc (r9 #[I U f.id,I U f.u,O p m c] 47));have i:Gl w w1:=by rw[a];exact (Fz _ w).alloc (Fy _) _
 have j:w1.heap[w.heap.size]?=A (r9 #[I U f.id,I U f.u,O p m c] 47 (0,0)):=by rw[a];exact oA w _
 obtain⟨k,l,d⟩:=zz3 (Tryz.cmp_Compare_int f.id x w1) i a;obtain⟨n,q,x2,_⟩:=aE j;clear g hm i a j
 go_enter Tryz.func135,Tryz.ntmps135
 go_upto_region 1 with fail
 change Code.wp _ _ _ _ (w.alloc (r9 #[I U f.id,I U f.u,O p m c] 47));rw[←d.o];clear d;go_wp2_with fail
 refine k.o.mono ?_;rintro e r ⟨rfl,rfl⟩;go_wp2_with fail
 go_ret;exact⟨Z,l.o⟩
theorem EE{x y:Int}:Lib.compareInt x y<0↔x<y:=by unfold Lib.compareInt;split<;>(try split)<;>omega
theorem cmp_eq{x y:Int}:Lib.compareInt x y=0↔x=y:=by unfold Lib.compareInt;split<;>(try split)<;>omega
def Ft(w:J) (l:List am) (x:Int) (i j:tT) (W:J):Prop:=
 ∃(a:J) (lo hi:Nat),a=W∧i=I U lo∧j=I U hi∧lo≤hi∧hi≤l.length∧Gl w a∧(∀(t:Nat) f,t<lo→l[t]?=A f→f.id<x)∧(∀(t:Nat) f,hi≤t→l[t]?=A f→x≤f.id)
def Goes(l:List am):Prop:=∀(i j:Nat) f g,i<j→l[i]?=A f→l[j]?=A g→f.id<g.id
theorem EI{l:List am}{x:Int}{k:Nat}{f:am}(h:l[k]?=A f)(he:f.id=x):(l.any fun f=>f.id==x)=true:=
 List.any_eq_true.2 ⟨f,FZ h,by simpa using he⟩
theorem AK{l:List am}{x:Int}{k:Nat}(d:Goes l)(e:∀(t:Nat) f,t<k→l[t]?=A f→f.id<x)(b:∀f,l[k]?=A f→x<f.id):(l.any fun f=>f.id==x)=false:=by
 rw[List.any_eq_false];intro f g;obtain⟨i,hi⟩:=List.getElem?_of_mem g;have a:f.id≠x:=by
  rcases Nat.lt_trichotomy i k with h|h|h
  ·have:=e i f h hi;omega
  ·subst h;have:=b f hi;omega
  ·have c:l[k]?=A (l[k]'(by have:=(FU.1 hi).1;omega)):=FD _;have:=d k i _ f h c hi;have:=b _ c;omega
 simpa using a
theorem xf(l:List am)(v:tT)(x:Int)(w:J)(hs:Goes l)(hn:l.length≤1000000)(hl:aC.h w (fun b=>b<w.heap.size) l v) :
  wg vo 134 #[v,I U x,Value.func (.func 135) #[] #[]] w (fun e w'=>∃k:Nat,e=wj (y9 #[I U k,xv (l.any fun f=>f.id==x)])∧((l.any fun f=>f.id==x)=true→k<l.length)∧Gl w w'):=by
 obtain⟨p,c,a1⟩:=Rd.q hl;subst a1;obtain⟨n,R⟩:=zzy (l.length);have HV:=Hd (fun W (hW:Gl w W)=>Rd.sm hl (fun _ h=>h) hW);have M:=Hd hs;rw[R]at HV hn ⊢;have K:=Hd R;obtain⟨r,hr⟩:=zzy ((l.any fun f=>f.id==x));rw[hr];have S:=Hd hr;clear hl R hs hr
 go_enter Tryz.func134,Tryz.ntmps134
 go_wp2
 go_loopw [9,10] (Ft w l x) (fun i j _=>((intOf j).toNat-(intOf i).toNat))
 case atStart=>exact⟨_,0,n,Z,Z,Z,FR _,by rw[K.o];exact Fy _,Fz _ _,fun t f h _=>absurd h (Nat.not_lt_zero _),fun t f X h2=>by have:=(FU.1 h2).1;rw[K.o]at this;omega⟩
 case round =>
  obtain⟨L,lo,hi,rfl,rfl,rfl,bb,ad,Q,X,h2⟩:=hrel;rw[K.o]at ad;obtain⟨HB,HI⟩:=zz2 Q (And.intro X h2);clear X h2
  by_cases bd:lo<hi
  ·have ba:(lo:Int)<hi:=by omega
   obtain⟨y,bk⟩:=zzy ((lo+hi) / 2);have af:((lo:Int)+(hi:Int)) / 2=(y:Int):=by omega
   have a6:y<n:=by omega
   have bl:lo≤y:=by omega
   have bm:y<hi:=by omega
   obtain⟨f,N⟩:∃e,l[y]?=A e:=⟨_,FD (by rw[K.o];exact a6)⟩;have C:=Rd.K (HV.o L Q) N;rw[K.o]at C;obtain⟨b,off,cap,vs,T,_,_,_,_,D,a⟩:=C;injection T with e1 _ e3
   subst e1;subst e3;obtain⟨_,_,sl,rfl,u⟩:=bY.1 D;obtain⟨p6,c6,s⟩:=Rd.q u;have V:=Hd (xz f _ x L (Rd.sv (fun b (h:b<w.heap.size)=>FG h Q.size) u));obtain⟨m6,E⟩:=zzy (f.a.length);rw[E]at s;subst s;have c0:L.cell? ⟨b,off+y*3,Y⟩=A (I U f.id):=a 0 _ Z;have c1:L.cell? ⟨b,off+y*3+1,Y⟩=A (I U f.u):=a 1 _ Z;have c2:L.cell? ⟨b,off+y*3+2,Y⟩=A (O p6 m6 c6):=a 2 _ Z;have HF:=Hd N;have hq:=@EE f.id x;obtain⟨cm,F⟩:=zzy (Lib.compareInt f.id x);rw[F]at V hq;have HQ:=Hd hq;clear D a N Q u E F hq;go_upto_region 5 with fail
   clear af;go_wp2_with fail
   refine V.o.mono ?_;rintro e2 w1 ⟨rfl,G⟩;have P:=Hd (HB.o.trans (G.mono HB.o.size));clear G c0 c1 c2 V
   by_cases hc:cm<0
   ·have H:Hid (f.id<x):=HQ.o.1 hc;go_wp2_with fail
    refine⟨⟨_,y+1,hi,Z,by go_num,Z,by omega,by rw[K.o];exact ad,P.o,fun t g ht q=>?_,HI.o.2⟩,by simp[intOf];omega⟩
    by_cases h:t=y
    ·subst h;rw[HF.o]at q;injection q with q
     rw[←q];exact H.o
    ·have h3:=M.o t y g f (by omega) q HF.o;have h4:=H.o;omega
   ·have H:Hid (x≤f.id):=by
     have:¬f.id<x:=fun h=>hc (HQ.o.2 h)
     show x≤f.id
     omega
    go_wp2_with fail
    refine⟨⟨_,lo,y,Z,Z,Z,by omega,by rw[K.o];omega,P.o,HI.o.1,fun t g ht q=>?_⟩,by simp[intOf];omega⟩
    by_cases h:t=y
    ·subst h;rw[HF.o]at q;injection q with q
     rw[←q];exact H.o
    ·have h3:=M.o y t f g (by omega) HF.o q;have h4:=H.o;omega
  ·obtain rfl:lo=hi:=by omega
   by_cases aq:lo<n
   ·have ar:(lo:Int)<n:=by omega
    obtain⟨f,N⟩:∃e,l[lo]?=A e:=⟨_,FD (by rw[K.o];exact aq)⟩;have C:=Rd.K (HV.o L Q) N;rw[K.o]at C;obtain⟨b,off,cap,vs,T,_,_,_,_,D,a⟩:=C;injection T with e1 _ e3
    subst e1;subst e3;obtain⟨_,_,sl,rfl,u⟩:=bY.1 D;obtain⟨p6,c6,s⟩:=Rd.q u;have V:=Hd (xz f _ x L (Rd.sv (fun b (h:b<w.heap.size)=>FG h Q.size) u));obtain⟨m6,E⟩:=zzy (f.a.length);rw[E]at s;subst s;have c0:L.cell? ⟨b,off+lo*3,Y⟩=A (I U f.id):=a 0 _ Z;have c1:L.cell? ⟨b,off+lo*3+1,Y⟩=A (I U f.u):=a 1 _ Z;have c2:L.cell? ⟨b,off+lo*3+2,Y⟩=A (O p6 m6 c6):=a 2 _ Z;have d:(l.any fun f=>f.id==x)=(Lib.compareInt f.id x==0):=by
     by_cases he:f.id=x
     ·rw[EI N he,cmp_eq.2 he];rfl
     ·have X:x<f.id:=by have:=HI.o.2 lo f (Fy _) N;omega
      rw[AK M.o HI.o.1 (fun g q=>by rw[N]at q;injection q with q;rw[←q];exact X)]
      have:Lib.compareInt f.id x≠0:=fun h=>he (cmp_eq.1 h)
      simpa using this
    obtain⟨cm,F⟩:=zzy (Lib.compareInt f.id x);rw[F]at V d;have B:=Hd d;clear D a N Q u E F d;go_wp2_with fail
    refine V.o.mono ?_;rintro e2 w1 ⟨rfl,G⟩;have P:=Hd (HB.o.trans (G.mono HB.o.size));clear G c0 c1 c2 V;go_wp2_with fail
    go_returns
    exact⟨lo,by rw[←S.o,B.o];rfl,fun _=>aq,P.o⟩
   ·have d:(l.any fun f=>f.id==x)=false:=AK M.o HI.o.1 (fun g q=>by have:=(FU.1 q).1;rw[K.o]at this;omega);have ar:¬(lo:Int)<n:=by omega
    have B:=Hd d;clear d Q;go_wp2_with fail
    go_returns
    exact⟨lo,by rw[←S.o,B.o];rfl,(fun h=>by rw[←S.o,B.o]at h;cases h),HB.o⟩
theorem qR{next:Int}:∀(l seen:List am) (last:Int),gb next seen last l=true→(∀f∈l,last<f.id)∧Goes l∧∀f∈l,lN f=true
 | [],_,_,_=>⟨fun _ h=>(by cases h),fun i j f g _ h=>(by simp at h),fun _ h=>(by cases h)⟩
 | f::l,seen,last,h=>by
  unfold gb at h;rw[FV,Bool.not_eq_true']at h;obtain⟨d,k⟩:=h;simp only[Bool.or_eq_false_iff,decide_eq_false_iff_not]at d;obtain⟨⟨⟨a1,_⟩,a3⟩,_⟩:=d;obtain⟨e,m,n⟩:=qR l _ _ k;refine⟨fun g a=>?_,fun i j x y o b c=>?_,fun g a=>?_⟩
  ·rcases Ge.1 a with rfl|a
   ·omega
   ·have:=e g a;omega
  ·cases j with
   | zero=>omega
   | succ j =>
    have c:l[j]?=A y:=by simpa using c
    cases i with
    | zero =>
     have b:f=x:=by simpa using b
     subst b;exact e y (FZ c)
    | succ i=>exact m i j x y (by omega) (by simpa using b) c
  ·rcases Ge.1 a with rfl|a
   ·simpa using a3
   ·exact n g a
theorem wO{next:Int}{l:List am}(h:eL next l=true):1≤next∧l.length≤256∧Goes l∧∀f∈l,0≤f.u∧f.a.length≤6:=by
 unfold eL at h;simp only[FV,oX]at h;obtain⟨⟨⟨a,e⟩,b⟩,c⟩:=h;obtain⟨_,g2,g3⟩:=qR l _ _ c;refine⟨a,b,g2,fun f d=>?_⟩;have:=g3 f d;unfold lN at this;simp only[FV,oX]at this;omega
structure ij (w:J) (M:Nat) (l:List am):Prop where
 goes:Goes l
 len:l.length≤256
 fits:∀f∈l,0≤f.u∧f.a.length≤6
 at_:∃v next,1≤next∧w.heap[M]?=A (r9 #[v,I U next] 152 (0,0))∧aC.h w (fun b=>b<w.heap.size) l v
theorem ij.of{W0 W:J}{M:Nat}{next:Int}{l:List am}{v:tT}(h:jX W0 M next l v W)(a:eL next l=true):ij W M l:=by
 obtain⟨b,c,d,e⟩:=wO a;exact⟨d,c,e,v,next,b,h.2.2.1,h.h⟩
theorem ij.C{w w':J}{M:Nat}{l:List am}(h:ij w M l)(a:Gl w w'):ij w' M l:=by
 obtain⟨d,e,f,v,next,g,c,i⟩:=h;exact⟨d,e,f,v,next,g,aa a c (Fx.1 c).1,Rd.sv (fun b (j:b<w.heap.size)=>FG j a.size) (Rd.sm i (fun _ h=>h) a)⟩
theorem wV{w:J}{M:Nat}{l:List am}(h:ij w M l):wg vo 106 #[vv (A ⟨M,0,Y⟩)] w (fun e w'=>e=wj (xv true)∧w=w'):=by
 obtain⟨v,next,b,a,_⟩:=h.at_;obtain⟨_,c,_⟩:=bP a;have d:(0:Int)<next:=by omega
 clear h b a
 go_enter Tryz.func106,Tryz.ntmps106
 go_wp2_with fail
 go_ret;exact⟨Z,Z⟩
theorem Dd{w:J}{M:Nat}{l:List am}(h:ij w M l)(x:Int):wg vo 107 #[vv (A ⟨M,0,Y⟩),I U x] w (fun e w'=>∃k:Nat,e=wj (y9 #[I U k,xv (l.any fun f=>f.id==x)])∧((l.any fun f=>f.id==x)=true→k<l.length)∧Gl w w'):=by
 obtain⟨v,next,s,j,i⟩:=h.at_;obtain⟨y,_⟩:=bP j;have g:=Hd (xf l v x w h.goes (by have:=h.len;omega) i);obtain⟨p,c,m⟩:=Rd.q i;obtain⟨n,a⟩:=zzy (l.length);rw[a]at m g ⊢;subst m;obtain⟨r,b⟩:=zzy ((l.any fun f=>f.id==x));rw[b]at g ⊢;clear h s j i a b
 go_enter Tryz.func107,Tryz.ntmps107
 go_wp2_with fail
 refine g.o.mono ?_;rintro e w1 ⟨k,rfl,q,d⟩;obtain⟨t,u⟩:=zz2 q d;clear q d g;go_wp2_with fail
 go_returns
 exact⟨k,Z,t.o,u.o⟩
theorem uQ{W:J}{f:Func}{t u b:Nat}{ty:TypeId}{a c c2 x:tT}{tmps:Array tT}{R:Ending→J→Prop}(j:f.results=#[.cell t ty,.tmp u])(d:(isAgg ty).run vo W=.ok true W)(e:(Go.sizeOf ty).run vo W=.ok 3 W)(k:tmps.getD t wF=vv (A ⟨b,0,Y⟩))(hu:tmps.getD u wF=x)
  (h:W.heap[b]?=A (r9 #[a,c,c2] ty (0,0))) (l:R (wj (y9 #[xk #[a,c,c2],x])) W):bodyPost vo f R .ret ⟨tmps,[]⟩ W:=by
 obtain⟨a0,a1,a2,_⟩:=aE h;have g:tmps[t]?.getD wF=vv (A ⟨b,0,Y⟩):=by simpa using k
 have i:tmps[u]?.getD wF=x:=by simpa using hu
 refine bodyPost_ret (v:=y9 #[xk #[a,c,c2],x]) ?_ Z l;simp[results,j,go_sem,g,i,d,e,a0,a1,a2]
def EG(r:Bool) (w:J) (e:Ending) (w':J):Prop:=(∃(a b:Int) (p:Option Addr) (n c:Nat),e=wj (y9 #[xk #[I U a,I U b,O p n c],xv r]))∧Gl w w'
theorem zS{w:J}{M:Nat}{l:List am}(h:ij w M l)(x:Int):wg vo 77 #[vv (A ⟨M,0,Y⟩),I U x] w (EG (l.any fun f=>f.id==x) w):=by
 obtain⟨r,hr⟩:=zzy ((l.any fun f=>f.id==x));obtain⟨w1,g⟩:=zzx (w.alloc (r9 #[I U 0,I U 0,O Y 0 0] 47));have hb:Gl w w1:=by rw[g];exact (Fz _ w).alloc (Fy _) _
 have hx:w1.heap[w.heap.size]?=A (r9 #[I U 0,I U 0,O Y 0 0] 47 (0,0)):=by rw[g];exact oA w _
 have V:=h.C hb;obtain⟨C,c⟩:=zz2 (wV V) (Dd V x);obtain⟨n,D⟩:=zzy (l.length);rw[hr]at c ⊢;rw[D]at c;obtain⟨HN,W,X,H,HH⟩:=zz5 D hb hx g V;clear hb hx g V h hr D
 go_enter Tryz.func77,Tryz.ntmps77
 go_upto_region 1 with fail
 change Code.wp _ _ _ _ (w.alloc (r9 #[I U 0,I U 0,O Y 0 0] 47));rw[←H.o];clear H;go_wp2_with fail
 refine C.o.mono ?_;rintro e K ⟨rfl,rfl⟩;go_wp2_with fail
 refine c.o.mono ?_;rintro e K ⟨k,rfl,hk,d⟩;have i:=aa d X.o (Fx.1 X.o).1;have j:=HH.o.C d;obtain⟨q,s⟩:=zz2 (W.o.trans (d.mono W.o.size)) i
 cases r with
 | false =>
  obtain⟨x0,x1,x2,g0,g1,g2⟩:=aE i;clear d i j hk C c HH X W;go_wp2_with fail
  refine uQ Tryz.results77 (by simp[go_sem]) (by simp[go_sem]) Z Z (nP s.o _ _ _) ⟨⟨_,_,_,_,_,Z⟩,?_⟩;exact ((q.o.setCell (p:=⟨w.heap.size,0,Y⟩) (Fy _) _).setCell (p:=⟨w.heap.size,1,Y⟩) (Fy _) _).setCell (p:=⟨w.heap.size,2,Y⟩) (Fy _) _
 | true =>
  have hk:=hk Z;obtain⟨v,next,_,hm,t⟩:=j.at_;obtain⟨f,hf⟩:∃e,l[k]?=A e:=⟨_,FD (by rw[HN.o];exact hk)⟩;have ad:=(j.fits f (FZ hf)).2;have L:=Rd.K t hf;rw[HN.o]at L;obtain⟨b,off,cap,vs,rfl,_,_,_,_,N,a⟩:=L;obtain⟨P,Q,sl,rfl,E⟩:=bY.1 N;obtain⟨p6,c6,u⟩:=Rd.q E;have HO:=Hd (xA f sl K ⟨P,Q⟩ E (by omega));obtain⟨m6,R⟩:=zzy (f.a.length);rw[R]at u;subst u;have c0:K.cell? ⟨b,off+k*3,Y⟩=A (I U f.id):=a 0 _ Z;have c1:K.cell? ⟨b,off+k*3+1,Y⟩=A (I U f.u):=a 1 _ Z;have c2:K.cell? ⟨b,off+k*3+2,Y⟩=A (O p6 m6 c6):=a 2 _ Z;obtain⟨m0,_⟩:=bP hm;clear d i j C c HH X W hm t hf ad N a P Q E R;go_wp2_with fail
  refine HO.o.mono ?_;rintro e w3 ⟨y0,y1,y2,rfl,F,y⟩;obtain⟨_,_,ar,S,z⟩:=bY.1 y;obtain⟨p7,c7,B⟩:=Rd.q z;injection S with q0 S
  injection S with q1 S
  injection S with q2 _
  rw[B]at q2;obtain⟨m7,T⟩:=zzy (f.a.length);rw[T]at q2;subst q0 q1 q2;have G:=aa F s.o (Fx.1 s.o).1;obtain⟨af,aq⟩:=zz2 G (q.o.trans (F.mono q.o.size));obtain⟨x0,x1,x2,g0,g1,g2⟩:=aE G;clear F G y z T B s q c0 c1 c2 m0 HO;go_wp2_with fail
  refine uQ Tryz.results77 (by simp[go_sem]) (by simp[go_sem]) Z Z (nP af.o _ _ _) ⟨⟨_,_,_,_,_,Z⟩,?_⟩;exact ((aq.o.setCell (p:=⟨w.heap.size,0,Y⟩) (Fy _) _).setCell (p:=⟨w.heap.size,1,Y⟩) (Fy _) _).setCell (p:=⟨w.heap.size,2,Y⟩) (Fy _) _
def aA{α:Type} (x:Except Flt α):Prop:=∀e,x=z6 e→0<e.1
theorem aA.ok{α:Type}{a:α}:aA (xt a:Except Flt α):=fun e h=>by cases h
theorem aA.h{α:Type}{e:Flt}(h:0<e.1):aA (z6 e:Except Flt α):=fun b a=>by injection a with a;rw[←a];exact h
theorem ii{σ α:Type}{f:σ→α→Except Flt σ}(a:∀s x,aA (f s x)):∀(l:List α) (s:σ),aA (be f s l)
 | [],_=>aA.ok
 | x::l,s=>by
  unfold be;have h:=a s x
  cases b:f s x with
  | error e=>exact aA.h (h e b)
  | ok s'=>exact ii a l s'
theorem oC{α β:Type}{f:α→Except Flt β}(a:∀x,aA (f x))(l:List α):aA (cL f l):=ii (fun s x=>by
 have h:=a x
 cases b:f x with
 | error e=>exact aA.h (h e b)
 | ok s'=>exact aA.ok) l []
theorem ku(vars:List ByteArray):∀(d:Nat) (T:ac),aA (aY vars d T)
 | 0,T=>by
  unfold aY
  split
  ·exact aA.ok
  ·split
   ·split
    ·exact aA.ok
    ·exact aA.h (show (0:Int)<213 by decide)
   ·exact aA.ok
 | d+1,T=>by
  unfold aY
  split
  ·exact aA.ok
  ·split
   ·split
    ·exact aA.ok
    ·exact aA.h (show (0:Int)<213 by decide)
   ·have h:=oC (ku vars d) T.z
    cases a:cL (aY vars d) T.z with
    | error e=>exact aA.h (h e a)
    | ok ks=>exact aA.ok
theorem wR(b:Bool)(s:List ByteArray×List iJ)(T:ac):aA (dk b s T):=by
 unfold dk
 split
 ·exact aA.ok
 ·split
  ·split
   ·exact aA.ok
   ·split
    ·exact aA.h (show (0:Int)<213 by decide)
    ·split
     ·exact aA.h (show (0:Int)<204 by decide)
     ·exact aA.ok
  ·exact aA.ok
theorem rc(types:List ay)(T:ac):aA (cJ types T):=by
 unfold cJ
 split
 ·exact aA.h (show (0:Int)<211 by decide)
 ·split
  ·exact aA.ok
  ·exact aA.h (show (0:Int)<212 by decide)
theorem uf(d:Nat)(types:List ay)(s:RSt)(T:ac):aA (dh d types s T):=by
 unfold dh
 split
 ·have h:=rc types T
  cases a:cJ types T with
  | error e=>exact aA.h (h e a)
  | ok k =>
   have b:=ii (wR (T.q==5)) T.z (s.a,[]);dsimp only
   cases c:be (dk (T.q==5)) (s.a,[]) T.z with
   | error e=>exact aA.h (b e c)
   | ok r=>exact aA.ok
 ·split
  ·split
   ·exact aA.ok
   ·rename_i t _ _
    have h:=ku s.a d t
    cases a:aY s.a d t with
    | error e=>exact aA.h (h e a)
    | ok x=>exact aA.ok
  ·split
   ·have h:=rc types T
    cases a:cJ types T with
    | error e=>exact aA.h (h e a)
    | ok k =>
     have b:=oC (ku s.a d) T.z;dsimp only
     cases c:cL (aY s.a d) T.z with
     | error e=>exact aA.h (b e c)
     | ok r=>exact aA.ok
   ·split
    ·split
     ·exact aA.h (show (0:Int)<214 by decide)
     ·exact aA.ok
    ·split
     ·have b:=oC (ku s.a d) T.z
      cases c:cL (aY s.a d) T.z with
      | error e=>exact aA.h (b e c)
      | ok r=>exact aA.ok
     ·exact aA.ok
theorem ul(d:Nat)(types:List ay)(rs:List aK)(T:ac):aA (gR d types rs T):=by
 unfold gR
 split
 ·split
  ·exact aA.h (show (0:Int)<210 by decide)
  ·split
   ·exact aA.h (show (0:Int)<2 by decide)
   ·split
    ·exact aA.h (show (0:Int)<204 by decide)
    ·have a:=ii (uf d types) T.z ⟨[],[],[]⟩
     cases b:be (dh d types) ⟨[],[],[]⟩ T.z with
     | error e=>exact aA.h (a e b)
     | ok r=>exact aA.ok
 ·exact aA.ok
theorem tO(l:List ByteArray)(T:ac):aA (fieldStep l T):=by
 unfold fieldStep
 split
 ·exact aA.h (show (0:Int)<210 by decide)
 ·exact aA.ok
theorem vH(ts:List ay)(T:ac):aA (hZ ts T):=by
 unfold hZ
 split
 ·split
  ·exact aA.h (show (0:Int)<210 by decide)
  ·split
   ·exact aA.h (show (0:Int)<204 by decide)
   ·have a:=ii tO T.z []
    cases b:be fieldStep [] T.z with
    | error e=>exact aA.h (a e b)
    | ok r=>exact aA.ok
 ·exact aA.ok
theorem A8(d:Nat)(T:ac):aA (mS d T):=by
 unfold mS;have h:=ii vH T.z []
 cases a:be hZ [] T.z with
 | error e=>exact aA.h (h e a)
 | ok ts =>
  have b:=ii (ul d ts) T.z [];dsimp only
  cases c:be (gR d ts) [] T.z with
  | error e=>exact aA.h (b e c)
  | ok r=>exact aA.ok
theorem yN{s:ByteArray}{er:Flt}(h:cx s=z6 er):er.1≠0:=by
 unfold cx at h
 split at h
 ·unfold iV at h
  split at h
  ·have:=A8 30 _ er h;omega
  ·injection h with h;rw[←h];decide
 ·rename_i a
  injection h with h;rw[←h];exact a
structure jh (w:J) (K:Nat) (m:aQ) (R:de):Prop where
 i1:I64 m.d
 i2:I64 m.f
 at_:∃(sf st ss sy sr:tT) (M:Nat),w.heap[K]?=A (r9 #[tS m.c,I U m.d,sf,st,ss,I U m.f,sy,sr,vv (A ⟨M,0,Y⟩)] 116 (0,0))∧
  aC.h w (fun b=>b<w.heap.size) m.a sf∧dA.h w (fun b=>b<w.heap.size) m.e st∧dX.h w (fun b=>b<w.heap.size) m.g ss∧
  eD.h w (fun b=>b<w.heap.size) R.a sy∧(fh 30).h w (fun b=>b<w.heap.size) R.c sr∧ij w M m.a
theorem ak{α:Type}{r:Rd α}{w w':J}{xs:List α}{v:tT}(h:r.h w (fun b=>b<w.heap.size) xs v)(a:Gl w w'):r.h w' (fun b=>b<w'.heap.size) xs v:=
 Rd.sv (fun b (c:b<w.heap.size)=>FG c a.size) (Rd.sm h (fun _ h=>h) a)
theorem jh.C{w w':J}{K:Nat}{m:aQ}{R:de}(h:jh w K m R)(a:Gl w w'):jh w' K m R:=by
 obtain⟨c,d,sf,st,ss,sy,sr,M,b,e,f,g,i,j,k⟩:=h;exact⟨c,d,sf,st,ss,sy,sr,M,aa a b (Fx.1 b).1,ak e a,ak f a,ak g a,ak i a,ak j a,k.C a⟩
def BH(m:aQ) (w:J) (e:Ending) (w':J):Prop:=
 Gl w w'∧∃(K:Nat) (ok:Bool),e=wj (y9 #[vv (A ⟨K,0,Y⟩),xv ok])∧((∃er,cx m.c=z6 er∧ok=false)∨∃R,cx m.c=xt R∧ok=eL m.d m.a∧(ok=true→jh w' K m R))
theorem Af{m:aQ}{vs:List tT}{w:J}(hm:bG.at_ w (fun b=>b<w.heap.size) m vs)(ht:aB w):wg vo 24 #[xk vs.toArray] w (BH m w):=by
 obtain⟨cn,bB,bR,sf,st,ss,rfl,N,P,Q⟩:=eY.1 hm;obtain⟨pf,cf,b0⟩:=Rd.q N;obtain⟨pt,ct,b1⟩:=Rd.q P;obtain⟨ps,cs,b2⟩:=Rd.q Q;obtain⟨nf,b3⟩:=zzy (m.a.length);obtain⟨nt,b4⟩:=zzy (m.e.length);obtain⟨ns,b5⟩:=zzy (m.g.length);rw[b3]at b0;rw[b4]at b1;rw[b5]at b2;subst b0;subst b1;subst b2;obtain⟨C,hC⟩:∃C:Array tT,C=#[tS m.c,I U m.d,O pf nf cf,O pt nt ct,O ps ns cs,I U m.f]:=⟨_,rfl⟩;obtain⟨W1,z⟩:=zzx (w.alloc (r9 C 28));have S:Gl w W1:=by rw[z];exact (Fz _ w).alloc (Fy _) _
 have i:W1.heap[w.heap.size]?=A (r9 C 28 (0,0)):=by rw[z];exact oA w _
 have G:=Hd (yM m.c W1 (ht.C S));have b6:=Hd (fun V (hV:Gl w V)=>ak N hV);have cp:=Hd (fun V (hV:Gl w V)=>ak P hV);have cq:=Hd (fun V (hV:Gl w V)=>ak Q hV);obtain⟨B,b7,T,HC,HI,b8⟩:=zz6 S z i hC (And.intro bB bR) (fun er=>@yN m.c er);obtain⟨tx,W⟩:=zzy (m.c);obtain⟨nx,X⟩:=zzy (m.d);obtain⟨mn,ad⟩:=zzy (m.f);rw[W]at HC G b8;rw[X,ad]at HC HI;obtain⟨af,D,aq⟩:=zz3 W X ad;clear hm ht cn bB bR N P Q b3 b4 b5 W X ad S z i hC;rw[af.o,D.o,aq.o]
 go_enter Tryz.func24,Tryz.ntmps24
 go_upto_region 1 with fail
 change Code.wp _ _ _ _ (w.alloc (r9 #[tS tx,I U nx,O pf nf cf,O pt nt ct,O ps ns cs,I U mn] 28));rw[←HC.o,←b7.o];clear b7;have i:=T.o;rw[HC.o]at i;obtain⟨⟨a0,a1,a2,a3,a4,a5⟩,_⟩:=aH i;clear i;go_wp2_with fail
 refine G.o.mono ?_;rintro e W2 ⟨l,he⟩;obtain⟨q,r,er,pl,rfl,a⟩:∃q r er pl,e=wj (y9 #[xk #[q,r],xk #[I U er,I U pl]])∧((∃x,cx tx=z6 x∧er≠0∧q=O Y 0 0∧r=O Y 0 0)∨∃R,cx tx=xt R∧er=0∧eD.h W2 (fun b=>b<W2.heap.size) R.a q∧(fh 30).h W2 (fun b=>b<W2.heap.size) R.c r):=by
  cases hs:cx tx with
  | error x =>
   rw[hs]at he;exact⟨_,_,_,_,he,Or.inl ⟨x,Z,b8.o x hs,Z,Z⟩⟩
  | ok R =>
   rw[hs]at he;obtain⟨st,sr,f,g,h3⟩:=he;exact⟨_,_,_,_,f,Or.inr ⟨R,Z,Z,Rd.sv (fun b hb=>hb.2) g,Rd.sv (fun b hb=>hb.2) h3⟩⟩
 obtain⟨p7,n7,c7,h7⟩:∃p n c,q=O p n c:=by
  rcases a with ⟨_,_,_,h,_⟩|⟨R,_,_,h,_⟩
  ·exact⟨_,_,_,h⟩
  ·obtain⟨p,c,h⟩:=Rd.q h;exact⟨_,_,_,h⟩
 obtain⟨p8,n8,c8,h8⟩:∃p n c,r=O p n c:=by
  rcases a with ⟨_,_,_,_,h⟩|⟨R,_,_,_,h⟩
  ·exact⟨_,_,_,h⟩
  ·obtain⟨p,c,h⟩:=Rd.q h;exact⟨_,_,_,h⟩
 subst h7 h8;obtain⟨W3,E⟩:=zzx ((W2.alloc (r9 #[O p7 n7 c7,O p8 n8 c8] 107)).alloc (r9 #[I U er,I U pl] 109));obtain⟨ar,a6,_⟩:=aW W2 (r9 #[O p7 n7 c7,O p8 n8 c8] 107) (r9 #[I U er,I U pl] 109);have s:Gl W2 W3:=by rw[E];exact ((Fz _ W2).alloc (Fy _) _).alloc (by simp) _
 rw[←E]at ar a6;have ba:=(B.o.trans (l.mono B.o.size)).trans (s.mono (B.o.trans (l.mono B.o.size)).size);have j:=aa (l.trans (s.mono l.size)) T.o (Fx.1 T.o).1;obtain⟨b9,ca,cb,bb,cc,ch⟩:=zz6 (Dw nx m.a (O pf nf cf) W3 HI.o.1 (b6.o W3 ba)) ba E j ar a6;have bd:Hid ((∃x,cx tx=z6 x∧er≠0)∨∃R,cx tx=xt R∧er=0∧eD.h W3 (fun b=>b<W3.heap.size) R.a (O p7 n7 c7)∧(fh 30).h W3 (fun b=>b<W3.heap.size) R.c (O p8 n8 c8)):=by
  rcases a with ⟨x,f,g,_⟩|⟨R,f,g,h3,h4⟩
  ·exact Or.inl ⟨x,f,g⟩
  ·exact Or.inr ⟨R,f,g,ak h3 s,ak h4 s⟩
 clear a he l s ba j ar a6 E a0 a1 a2 a3 a4 a5;go_upto_region 2 with fail
 change Code.wp _ _ _ _ ((W2.alloc (r9 #[O p7 n7 c7,O p8 n8 c8] 107)).alloc (r9 #[I U er,I U pl] 109));rw[←cb.o];clear cb;have j:=bb.o;rw[HC.o]at j;obtain⟨⟨a0,a1,a2,a3,a4,a5⟩,_⟩:=aH j;clear j;go_wp2_with fail
 refine b9.o.mono ?_;rintro e W4 ⟨d,ck⟩;obtain⟨pm,eo,rfl,bk⟩:∃(pm:Option Addr) (eo:Int),e=wj (y9 #[vv pm,I U eo])∧((eL nx m.a=true∧eo=0∧∃M,pm=A ⟨M,0,Y⟩∧ij W4 M m.a)∨(eL nx m.a=false∧eo=4)):=by
  rcases ck with ⟨f,M,u,g,h3⟩|⟨f,g⟩
  ·exact⟨_,_,g,Or.inl ⟨f,Z,M,Z,ij.of h3 f⟩⟩
  ·exact⟨_,_,g,Or.inr ⟨f,Z⟩⟩
 have bl:=aa d bb.o (Fx.1 bb.o).1;have cl:=aa d cc.o (Fx.1 cc.o).1;have F:=aa d ch.o (Fx.1 ch.o).1;have bm:=ca.o.trans (d.mono ca.o.size);obtain⟨H,t⟩:=zzx (W4.alloc (r9 #[tS tx,I U nx,O pf nf cf,O pt nt ct,O ps ns cs,I U mn,O p7 n7 c7,O p8 n8 c8,vv pm] 116));have k:Gl W4 H:=by rw[t];exact (Fz _ W4).alloc (Fy _) _
 have bn:H.heap[W4.heap.size]?=A (r9 #[tS tx,I U nx,O pf nf cf,O pt nt ct,O ps ns cs,I U mn,O p7 n7 c7,O p8 n8 c8,vv pm] 116 (0,0)):=by rw[t];exact oA W4 _
 have v:=bm.trans (k.mono bm.size);rw[HC.o]at bl;obtain⟨⟨a0,a1,a2,a3,a4,a5⟩,_⟩:=aH bl;obtain⟨r0,r1,_⟩:=bP cl;obtain⟨f0,f1,_⟩:=bP F;have K:=aa k F (Fx.1 F).1;obtain⟨g0,g1,_⟩:=bP K;have bq:=Hd t;rw[t]at g0 g1;have hend:∀ok:Bool,ok=(er==0&&eo==0)→BH m w (wj (y9 #[vv (A ⟨W4.heap.size,0,Y⟩),xv ok])) H:=by
  intro ok bt;refine⟨v,_,_,Z,?_⟩;rw[af.o,D.o];rcases bd.o with ⟨x,f,g⟩|⟨R,f,g,h3,h4⟩
  ·exact Or.inl ⟨x,f,by rw[bt];simp[g]⟩
  ·refine Or.inr ⟨R,f,?_,fun hk=>?_⟩
   ·rw[bt,g];rcases bk with ⟨k1,k2,_⟩|⟨k1,k2⟩<;>rw[k1,k2]<;>rfl
   ·rcases bk with ⟨k1,k2,M,k3,k4⟩|⟨k1,k2⟩
    ·rw[k3]at bn;refine⟨by rw[D.o];exact HI.o.1,by rw[aq.o];exact HI.o.2,_,_,_,_,_,M,?_,b6.o H v,cp.o H v,cq.o H v,ak h3 (d.trans (k.mono d.size)),ak h4 (d.trans (k.mono d.size)),k4.C k⟩;rw[af.o,D.o,aq.o];exact bn
    ·rw[bt,k2]at hk;simp at hk
 have y:=Hd hend;clear hend ck bk d bl cl F bm k bn v K t b9
 by_cases f:er=0
 ·subst f;have cm:((0:Int)==0)=true:=rfl
  by_cases g:eo=0
  ·subst g;have L:=Hd (y.o true Z);go_wp2_with fail
   rw[bq.o]at L
   go_returns
   exact L.o
  ·have cr:(eo==0)=false:=by simpa using g
   have L:=Hd (y.o false (by rw[cr];rfl));go_wp2_with fail
   rw[bq.o]at L
   go_returns
   exact L.o
 ·have cm:(er==0)=false:=by simpa using f
  have L:=Hd (y.o false (by rw[cm];rfl));go_wp2_with fail
  rw[bq.o]at L
  go_returns
  exact L.o
