/- Parts of one proof, joined; conditions stand in each theorem. -/
import Derived.Test.YtoahnjkclckodaaGreatDoorIM
import Derived.Test.YtoahnjkclckodaaGreatDoorIL
import Derived.Test.YtoahnjkclckodaaGreatDoorNO
import Derived.Test.YtoahnjkclckodaaGreatDoorIH
open Go renaming Value→tS,World→J,Calls→vv,undef→xk
open Go.Proofs.Tryz renaming prog→va
open Go.Value renaming agg→wP,int→I,slice→O,tuple→y9,bool→xt,pointer→vo,string→r9
open Go.IntKind renaming i64→U
open Go.Ending renaming returned→wg
open Go.Obj renaming cells→r7
open Option renaming some→A,none→Y
open Except renaming error→zs,ok→xn
namespace Go.Proofs.YtoahnjkclckodaaGreatDoor
set_option maxHeartbeats 4000000
set_option maxRecDepth 100000
open Go.RowKit
theorem An(f:ai)(s:tS)(x:Int)(w:J)(g:bK.h w (fun b=>b<w.heap.size) f.c s) :
  vv va 135 #[wP #[I U f.id,I U f.u,s],I U x] w (fun e w'=>e=wg (I U (Lib.compareInt f.id x))∧Kr w w'):=by
 obtain⟨p,c,h⟩:=Rd.q g;obtain⟨m,hm⟩:=zzy (f.c.length);rw[hm]at h;subst h;obtain⟨w1,a⟩:=zzx (w.alloc (r7 #[I U f.id,I U f.u,O p m c] 47));have i:Kr w w1:=by rw[a];exact (JO _ w).alloc (JM _) _
 have j:w1.heap[w.heap.size]?=A (r7 #[I U f.id,I U f.u,O p m c] 47 (0,0)):=by rw[a];exact oc w _
 obtain⟨k,l,d⟩:=zz3 (Tryz.cmp_Compare_int f.id x w1) i a;obtain⟨n,q,x2,_⟩:=aL j;clear g hm i a j
 go_enter Tryz.func135,Tryz.ntmps135
 go_upto_region 1 with fail
 change Code.wp _ _ _ _ (w.alloc (r7 #[I U f.id,I U f.u,O p m c] 47));rw[←d.o];clear d;go_wp2_with fail
 refine k.o.mono ?_;rintro e r ⟨rfl,rfl⟩;go_wp2_with fail
 go_ret;exact⟨Z,l.o⟩
theorem I4{x y:Int}:Lib.compareInt x y<0↔x<y:=by unfold Lib.compareInt;split<;>(try split)<;>omega
theorem cmp_eq{x y:Int}:Lib.compareInt x y=0↔x=y:=by unfold Lib.compareInt;split<;>(try split)<;>omega
def JH(w:J) (l:List ai) (x:Int) (i j:tS) (W:J):Prop:=
 ∃(a:J) (lo hi:Nat),a=W∧i=I U lo∧j=I U hi∧lo≤hi∧hi≤l.length∧Kr w a∧(∀(t:Nat) f,t<lo→l[t]?=A f→f.id<x)∧(∀(t:Nat) f,hi≤t→l[t]?=A f→x≤f.id)
def Goes(l:List ai):Prop:=∀(i j:Nat) f g,i<j→l[i]?=A f→l[j]?=A g→f.id<g.id
theorem I9{l:List ai}{x:Int}{k:Nat}{f:ai}(h:l[k]?=A f)(he:f.id=x):(l.any fun f=>f.id==x)=true:=
 List.any_eq_true.2 ⟨f,J8 h,by simpa using he⟩
theorem D6{l:List ai}{x:Int}{k:Nat}(d:Goes l)(e:∀(t:Nat) f,t<k→l[t]?=A f→f.id<x)(b:∀f,l[k]?=A f→x<f.id):(l.any fun f=>f.id==x)=false:=by
 rw[List.any_eq_false];intro f g;obtain⟨i,hi⟩:=List.getElem?_of_mem g;have a:f.id≠x:=by
  rcases Nat.lt_trichotomy i k with h|h|h
  ·have:=e i f h hi;omega
  ·subst h;have:=b f hi;omega
  ·have c:l[k]?=A (l[k]'(by have:=(J3.1 hi).1;omega)):=JR _;have:=d k i _ f h c hi;have:=b _ c;omega
 simpa using a
theorem zZ(l:List ai)(v:tS)(x:Int)(w:J)(hs:Goes l)(hn:l.length≤1000000)(hl:aG.h w (fun b=>b<w.heap.size) l v) :
  vv va 134 #[v,I U x,Value.func (.func 135) #[] #[]] w (fun e w'=>∃k:Nat,e=wg (y9 #[I U k,xt (l.any fun f=>f.id==x)])∧((l.any fun f=>f.id==x)=true→k<l.length)∧Kr w w'):=by
 obtain⟨p,c,a1⟩:=Rd.q hl;subst a1;obtain⟨n,R⟩:=zzy (l.length);have HV:=Hd (fun W (hW:Kr w W)=>Rd.sm hl (fun _ h=>h) hW);have M:=Hd hs;rw[R]at HV hn ⊢;have K:=Hd R;obtain⟨r,hr⟩:=zzy ((l.any fun f=>f.id==x));rw[hr];have S:=Hd hr;clear hl R hs hr
 go_enter Tryz.func134,Tryz.ntmps134
 go_wp2
 go_loopw [9,10] (JH w l x) (fun i j _=>((intOf j).toNat-(intOf i).toNat))
 case atStart=>exact⟨_,0,n,Z,Z,Z,J0 _,by rw[K.o];exact JM _,JO _ _,fun t f h _=>absurd h (Nat.not_lt_zero _),fun t f X h2=>by have:=(J3.1 h2).1;rw[K.o]at this;omega⟩
 case round =>
  obtain⟨L,lo,hi,rfl,rfl,rfl,bb,ad,Q,X,h2⟩:=hrel;rw[K.o]at ad;obtain⟨HB,HI⟩:=zz2 Q (And.intro X h2);clear X h2
  by_cases bd:lo<hi
  ·have ba:(lo:Int)<hi:=by omega
   obtain⟨y,bg⟩:=zzy ((lo+hi) / 2);have af:((lo:Int)+(hi:Int)) / 2=(y:Int):=by omega
   have a6:y<n:=by omega
   have bk:lo≤y:=by omega
   have bl:y<hi:=by omega
   obtain⟨f,N⟩:∃e,l[y]?=A e:=⟨_,JR (by rw[K.o];exact a6)⟩;have C:=Rd.X (HV.o L Q) N;rw[K.o]at C;obtain⟨b,off,cap,vs,T,_,_,_,_,D,a⟩:=C;injection T with e1 _ e3
   subst e1;subst e3;obtain⟨_,_,sl,rfl,u⟩:=bW.1 D;obtain⟨p6,c6,s⟩:=Rd.q u;have V:=Hd (An f _ x L (Rd.sI (fun b (h:b<w.heap.size)=>JS h Q.size) u));obtain⟨m6,E⟩:=zzy (f.c.length);rw[E]at s;subst s;have c0:L.cell? ⟨b,off+y*3,Y⟩=A (I U f.id):=a 0 _ Z;have c1:L.cell? ⟨b,off+y*3+1,Y⟩=A (I U f.u):=a 1 _ Z;have c2:L.cell? ⟨b,off+y*3+2,Y⟩=A (O p6 m6 c6):=a 2 _ Z;have HF:=Hd N;have hq:=@I4 f.id x;obtain⟨cm,F⟩:=zzy (Lib.compareInt f.id x);rw[F]at V hq;have HQ:=Hd hq;clear D a N Q u E F hq;go_upto_region 5 with fail
   clear af;go_wp2_with fail
   refine V.o.mono ?_;rintro e2 w1 ⟨rfl,G⟩;have P:=Hd (HB.o.trans (G.mono HB.o.size));clear G c0 c1 c2 V
   by_cases hc:cm<0
   ·have H:Hid (f.id<x):=HQ.o.1 hc;go_wp2_with fail
    refine⟨⟨_,y+1,hi,Z,by go_num,Z,by omega,by rw[K.o];exact ad,P.o,fun t g ht q=>?_,HI.o.2⟩,by simp[intOf];omega⟩
    by_cases h:t=y
    ·subst h;rw[HF.o]at q;injection q with q
     rw[←q];exact H.o
    ·have h3:=M.o t y g f (by omega) q HF.o;have h4:=H.o;omega
   ·have H:Hid (x≤f.id):=by
     have:¬f.id<x:=fun h=>hc (HQ.o.2 h)
     show x≤f.id
     omega
    go_wp2_with fail
    refine⟨⟨_,lo,y,Z,Z,Z,by omega,by rw[K.o];omega,P.o,HI.o.1,fun t g ht q=>?_⟩,by simp[intOf];omega⟩
    by_cases h:t=y
    ·subst h;rw[HF.o]at q;injection q with q
     rw[←q];exact H.o
    ·have h3:=M.o y t f g (by omega) HF.o q;have h4:=H.o;omega
  ·obtain rfl:lo=hi:=by omega
   by_cases aq:lo<n
   ·have ar:(lo:Int)<n:=by omega
    obtain⟨f,N⟩:∃e,l[lo]?=A e:=⟨_,JR (by rw[K.o];exact aq)⟩;have C:=Rd.X (HV.o L Q) N;rw[K.o]at C;obtain⟨b,off,cap,vs,T,_,_,_,_,D,a⟩:=C;injection T with e1 _ e3
    subst e1;subst e3;obtain⟨_,_,sl,rfl,u⟩:=bW.1 D;obtain⟨p6,c6,s⟩:=Rd.q u;have V:=Hd (An f _ x L (Rd.sI (fun b (h:b<w.heap.size)=>JS h Q.size) u));obtain⟨m6,E⟩:=zzy (f.c.length);rw[E]at s;subst s;have c0:L.cell? ⟨b,off+lo*3,Y⟩=A (I U f.id):=a 0 _ Z;have c1:L.cell? ⟨b,off+lo*3+1,Y⟩=A (I U f.u):=a 1 _ Z;have c2:L.cell? ⟨b,off+lo*3+2,Y⟩=A (O p6 m6 c6):=a 2 _ Z;have d:(l.any fun f=>f.id==x)=(Lib.compareInt f.id x==0):=by
     by_cases he:f.id=x
     ·rw[I9 N he,cmp_eq.2 he];rfl
     ·have X:x<f.id:=by have:=HI.o.2 lo f (JM _) N;omega
      rw[D6 M.o HI.o.1 (fun g q=>by rw[N]at q;injection q with q;rw[←q];exact X)]
      have:Lib.compareInt f.id x≠0:=fun h=>he (cmp_eq.1 h)
      simpa using this
    obtain⟨cm,F⟩:=zzy (Lib.compareInt f.id x);rw[F]at V d;have B:=Hd d;clear D a N Q u E F d;go_wp2_with fail
    refine V.o.mono ?_;rintro e2 w1 ⟨rfl,G⟩;have P:=Hd (HB.o.trans (G.mono HB.o.size));clear G c0 c1 c2 V;go_wp2_with fail
    go_returns
    exact⟨lo,by rw[←S.o,B.o];rfl,fun _=>aq,P.o⟩
   ·have d:(l.any fun f=>f.id==x)=false:=D6 M.o HI.o.1 (fun g q=>by have:=(J3.1 q).1;rw[K.o]at this;omega);have ar:¬(lo:Int)<n:=by omega
    have B:=Hd d;clear d Q;go_wp2_with fail
    go_returns
    exact⟨lo,by rw[←S.o,B.o];rfl,(fun h=>by rw[←S.o,B.o]at h;cases h),HB.o⟩
theorem ou{next:Int}:∀(l seen:List ai) (last:Int),gQ next seen last l=true→(∀f∈l,last<f.id)∧Goes l∧∀f∈l,kU f=true
 | [],_,_,_=>⟨fun _ h=>(by cases h),fun i j f g _ h=>(by simp at h),fun _ h=>(by cases h)⟩
 | f::l,seen,last,h=>by
  unfold gQ at h;rw[J4,Bool.not_eq_true']at h;obtain⟨d,k⟩:=h;simp only[Bool.or_eq_false_iff,decide_eq_false_iff_not]at d;obtain⟨⟨⟨a1,_⟩,a3⟩,_⟩:=d;obtain⟨e,m,n⟩:=ou l _ _ k;refine⟨fun g a=>?_,fun i j x y o b c=>?_,fun g a=>?_⟩
  ·rcases Kk.1 a with rfl|a
   ·omega
   ·have:=e g a;omega
  ·cases j with
   | zero=>omega
   | succ j =>
    have c:l[j]?=A y:=by simpa using c
    cases i with
    | zero =>
     have b:f=x:=by simpa using b
     subst b;exact e y (J8 c)
    | succ i=>exact m i j x y (by omega) (by simpa using b) c
  ·rcases Kk.1 a with rfl|a
   ·simpa using a3
   ·exact n g a
theorem rn{next:Int}{l:List ai}(h:eR next l=true):1≤next∧l.length≤256∧Goes l∧∀f∈l,0≤f.u∧f.c.length≤6:=by
 unfold eR at h;simp only[J4,oB]at h;obtain⟨⟨⟨a,e⟩,b⟩,c⟩:=h;obtain⟨_,g2,g3⟩:=ou l _ _ c;refine⟨a,b,g2,fun f d=>?_⟩;have:=g3 f d;unfold kU at this;simp only[J4,oB]at this;omega
structure iO (w:J) (M:Nat) (l:List ai):Prop where
 goes:Goes l
 len:l.length≤256
 fits:∀f∈l,0≤f.u∧f.c.length≤6
 at_:∃v next,1≤next∧w.heap[M]?=A (r7 #[v,I U next] 152 (0,0))∧aG.h w (fun b=>b<w.heap.size) l v
theorem iO.of{W0 W:J}{M:Nat}{next:Int}{l:List ai}{v:tS}(h:kB W0 M next l v W)(a:eR next l=true):iO W M l:=by
 obtain⟨b,c,d,e⟩:=rn a;exact⟨d,c,e,v,next,b,h.2.2.1,h.h⟩
theorem iO.C{w w':J}{M:Nat}{l:List ai}(h:iO w M l)(a:Kr w w'):iO w' M l:=by
 obtain⟨d,e,f,v,next,g,c,i⟩:=h;exact⟨d,e,f,v,next,g,aa a c (JL.1 c).1,Rd.sI (fun b (j:b<w.heap.size)=>JS j a.size) (Rd.sm i (fun _ h=>h) a)⟩
theorem zQ{w:J}{M:Nat}{l:List ai}(h:iO w M l):vv va 106 #[vo (A ⟨M,0,Y⟩)] w (fun e w'=>e=wg (xt true)∧w=w'):=by
 obtain⟨v,next,b,a,_⟩:=h.at_;obtain⟨_,c,_⟩:=cj a;have d:(0:Int)<next:=by omega
 clear h b a
 go_enter Tryz.func106,Tryz.ntmps106
 go_wp2_with fail
 go_ret;exact⟨Z,Z⟩
theorem GU{w:J}{M:Nat}{l:List ai}(h:iO w M l)(x:Int):vv va 107 #[vo (A ⟨M,0,Y⟩),I U x] w (fun e w'=>∃k:Nat,e=wg (y9 #[I U k,xt (l.any fun f=>f.id==x)])∧((l.any fun f=>f.id==x)=true→k<l.length)∧Kr w w'):=by
 obtain⟨v,next,s,j,i⟩:=h.at_;obtain⟨y,_⟩:=cj j;have g:=Hd (zZ l v x w h.goes (by have:=h.len;omega) i);obtain⟨p,c,m⟩:=Rd.q i;obtain⟨n,a⟩:=zzy (l.length);rw[a]at m g ⊢;subst m;obtain⟨r,b⟩:=zzy ((l.any fun f=>f.id==x));rw[b]at g ⊢;clear h s j i a b
 go_enter Tryz.func107,Tryz.ntmps107
 go_wp2_with fail
 refine g.o.mono ?_;rintro e w1 ⟨k,rfl,q,d⟩;obtain⟨t,u⟩:=zz2 q d;clear q d g;go_wp2_with fail
 go_returns
 exact⟨k,Z,t.o,u.o⟩
theorem yf{W:J}{f:Func}{t u b:Nat}{ty:TypeId}{a c c2 x:tS}{tmps:Array tS}{R:Ending→J→Prop}(j:f.results=#[.cell t ty,.tmp u])(d:(isAgg ty).run va W=.ok true W)(e:(Go.sizeOf ty).run va W=.ok 3 W)(k:tmps.getD t xk=vo (A ⟨b,0,Y⟩))(hu:tmps.getD u xk=x)
  (h:W.heap[b]?=A (r7 #[a,c,c2] ty (0,0))) (l:R (wg (y9 #[wP #[a,c,c2],x])) W):bodyPost va f R .ret ⟨tmps,[]⟩ W:=by
 obtain⟨a0,a1,a2,_⟩:=aL h;have g:tmps[t]?.getD xk=vo (A ⟨b,0,Y⟩):=by simpa using k
 have i:tmps[u]?.getD xk=x:=by simpa using hu
 refine bodyPost_ret (v:=y9 #[wP #[a,c,c2],x]) ?_ Z l;simp[results,j,go_sem,g,i,d,e,a0,a1,a2]
def I7(r:Bool) (w:J) (e:Ending) (w':J):Prop:=(∃(a b:Int) (p:Option Addr) (n c:Nat),e=wg (y9 #[wP #[I U a,I U b,O p n c],xt r]))∧Kr w w'
theorem C5{w:J}{M:Nat}{l:List ai}(h:iO w M l)(x:Int):vv va 77 #[vo (A ⟨M,0,Y⟩),I U x] w (I7 (l.any fun f=>f.id==x) w):=by
 obtain⟨r,hr⟩:=zzy ((l.any fun f=>f.id==x));obtain⟨w1,g⟩:=zzx (w.alloc (r7 #[I U 0,I U 0,O Y 0 0] 47));have hb:Kr w w1:=by rw[g];exact (JO _ w).alloc (JM _) _
 have hx:w1.heap[w.heap.size]?=A (r7 #[I U 0,I U 0,O Y 0 0] 47 (0,0)):=by rw[g];exact oc w _
 have V:=h.C hb;obtain⟨C,c⟩:=zz2 (zQ V) (GU V x);obtain⟨n,D⟩:=zzy (l.length);rw[hr]at c ⊢;rw[D]at c;obtain⟨HN,W,X,H,HH⟩:=zz5 D hb hx g V;clear hb hx g V h hr D
 go_enter Tryz.func77,Tryz.ntmps77
 go_upto_region 1 with fail
 change Code.wp _ _ _ _ (w.alloc (r7 #[I U 0,I U 0,O Y 0 0] 47));rw[←H.o];clear H;go_wp2_with fail
 refine C.o.mono ?_;rintro e K ⟨rfl,rfl⟩;go_wp2_with fail
 refine c.o.mono ?_;rintro e K ⟨k,rfl,hk,d⟩;have i:=aa d X.o (JL.1 X.o).1;have j:=HH.o.C d;obtain⟨q,s⟩:=zz2 (W.o.trans (d.mono W.o.size)) i
 cases r with
 | false =>
  obtain⟨x0,x1,x2,g0,g1,g2⟩:=aL i;clear d i j hk C c HH X W;go_wp2_with fail
  refine yf Tryz.results77 (by simp[go_sem]) (by simp[go_sem]) Z Z (pL s.o _ _ _) ⟨⟨_,_,_,_,_,Z⟩,?_⟩;exact ((q.o.setCell (p:=⟨w.heap.size,0,Y⟩) (JM _) _).setCell (p:=⟨w.heap.size,1,Y⟩) (JM _) _).setCell (p:=⟨w.heap.size,2,Y⟩) (JM _) _
 | true =>
  have hk:=hk Z;obtain⟨v,next,_,hm,t⟩:=j.at_;obtain⟨f,hf⟩:∃e,l[k]?=A e:=⟨_,JR (by rw[HN.o];exact hk)⟩;have ad:=(j.fits f (J8 hf)).2;have L:=Rd.X t hf;rw[HN.o]at L;obtain⟨b,off,cap,vs,rfl,_,_,_,_,N,a⟩:=L;obtain⟨P,Q,sl,rfl,E⟩:=bW.1 N;obtain⟨p6,c6,u⟩:=Rd.q E;have HO:=Hd (Ap f sl K ⟨P,Q⟩ E (by omega));obtain⟨m6,R⟩:=zzy (f.c.length);rw[R]at u;subst u;have c0:K.cell? ⟨b,off+k*3,Y⟩=A (I U f.id):=a 0 _ Z;have c1:K.cell? ⟨b,off+k*3+1,Y⟩=A (I U f.u):=a 1 _ Z;have c2:K.cell? ⟨b,off+k*3+2,Y⟩=A (O p6 m6 c6):=a 2 _ Z;obtain⟨m0,_⟩:=cj hm;clear d i j C c HH X W hm t hf ad N a P Q E R;go_wp2_with fail
  refine HO.o.mono ?_;rintro e w3 ⟨y0,y1,y2,rfl,F,y⟩;obtain⟨_,_,ar,S,z⟩:=bW.1 y;obtain⟨p7,c7,B⟩:=Rd.q z;injection S with q0 S
  injection S with q1 S
  injection S with q2 _
  rw[B]at q2;obtain⟨m7,T⟩:=zzy (f.c.length);rw[T]at q2;subst q0 q1 q2;have G:=aa F s.o (JL.1 s.o).1;obtain⟨af,aq⟩:=zz2 G (q.o.trans (F.mono q.o.size));obtain⟨x0,x1,x2,g0,g1,g2⟩:=aL G;clear F G y z T B s q c0 c1 c2 m0 HO;go_wp2_with fail
  refine yf Tryz.results77 (by simp[go_sem]) (by simp[go_sem]) Z Z (pL af.o _ _ _) ⟨⟨_,_,_,_,_,Z⟩,?_⟩;exact ((aq.o.setCell (p:=⟨w.heap.size,0,Y⟩) (JM _) _).setCell (p:=⟨w.heap.size,1,Y⟩) (JM _) _).setCell (p:=⟨w.heap.size,2,Y⟩) (JM _) _
def aH{α:Type} (x:Except Flt α):Prop:=∀e,x=zs e→0<e.1
theorem aH.ok{α:Type}{a:α}:aH (xn a:Except Flt α):=fun e h=>by cases h
theorem aH.h{α:Type}{e:Flt}(h:0<e.1):aH (zs e:Except Flt α):=fun b a=>by injection a with a;rw[←a];exact h
theorem iN{σ α:Type}{f:σ→α→Except Flt σ}(a:∀s x,aH (f s x)):∀(l:List α) (s:σ),aH (aV f s l)
 | [],_=>aH.ok
 | x::l,s=>by
  unfold aV;have h:=a s x
  cases b:f s x with
  | error e=>exact aH.h (h e b)
  | ok s'=>exact iN a l s'
theorem qx{α β:Type}{f:α→Except Flt β}(a:∀x,aH (f x))(l:List α):aH (cF f l):=iN (fun s x=>by
 have h:=a x
 cases b:f x with
 | error e=>exact aH.h (h e b)
 | ok s'=>exact aH.ok) l []
theorem li(vars:List ByteArray):∀(d:Nat) (T:ac),aH (aJ vars d T)
 | 0,T=>by
  unfold aJ
  split
  ·exact aH.ok
  ·split
   ·split
    ·exact aH.ok
    ·exact aH.h (show (0:Int)<213 by decide)
   ·exact aH.ok
 | d+1,T=>by
  unfold aJ
  split
  ·exact aH.ok
  ·split
   ·split
    ·exact aH.ok
    ·exact aH.h (show (0:Int)<213 by decide)
   ·have h:=qx (li vars d) T.z
    cases a:cF (aJ vars d) T.z with
    | error e=>exact aH.h (h e a)
    | ok ks=>exact aH.ok
theorem zM(b:Bool)(s:List ByteArray×List fe)(T:ac):aH (cg b s T):=by
 unfold cg
 split
 ·exact aH.ok
 ·split
  ·split
   ·exact aH.ok
   ·split
    ·exact aH.h (show (0:Int)<213 by decide)
    ·split
     ·exact aH.h (show (0:Int)<204 by decide)
     ·exact aH.ok
  ·exact aH.ok
theorem tH(types:List am)(T:ac):aH (cM types T):=by
 unfold cM
 split
 ·exact aH.h (show (0:Int)<211 by decide)
 ·split
  ·exact aH.ok
  ·exact aH.h (show (0:Int)<212 by decide)
theorem wZ(d:Nat)(types:List am)(s:RSt)(T:ac):aH (cK d types s T):=by
 unfold cK
 split
 ·have h:=tH types T
  cases a:cM types T with
  | error e=>exact aH.h (h e a)
  | ok k =>
   have b:=iN (zM (T.q==5)) T.z (s.b,[]);dsimp only
   cases c:aV (cg (T.q==5)) (s.b,[]) T.z with
   | error e=>exact aH.h (b e c)
   | ok r=>exact aH.ok
 ·split
  ·split
   ·exact aH.ok
   ·rename_i t _ _
    have h:=li s.b d t
    cases a:aJ s.b d t with
    | error e=>exact aH.h (h e a)
    | ok x=>exact aH.ok
  ·split
   ·have h:=tH types T
    cases a:cM types T with
    | error e=>exact aH.h (h e a)
    | ok k =>
     have b:=qx (li s.b d) T.z;dsimp only
     cases c:cF (aJ s.b d) T.z with
     | error e=>exact aH.h (b e c)
     | ok r=>exact aH.ok
   ·split
    ·split
     ·exact aH.h (show (0:Int)<214 by decide)
     ·exact aH.ok
    ·split
     ·have b:=qx (li s.b d) T.z
      cases c:cF (aJ s.b d) T.z with
      | error e=>exact aH.h (b e c)
      | ok r=>exact aH.ok
     ·exact aH.ok
theorem xm(d:Nat)(types:List am)(rs:List aD)(T:ac):aH (gi d types rs T):=by
 unfold gi
 split
 ·split
  ·exact aH.h (show (0:Int)<210 by decide)
  ·split
   ·exact aH.h (show (0:Int)<2 by decide)
   ·split
    ·exact aH.h (show (0:Int)<204 by decide)
    ·have a:=iN (wZ d types) T.z ⟨[],[],[]⟩
     cases b:aV (cK d types) ⟨[],[],[]⟩ T.z with
     | error e=>exact aH.h (a e b)
     | ok r=>exact aH.ok
 ·exact aH.ok
theorem wC(l:List ByteArray)(T:ac):aH (fieldStep l T):=by
 unfold fieldStep
 split
 ·exact aH.h (show (0:Int)<210 by decide)
 ·exact aH.ok
theorem yQ(ts:List am)(T:ac):aH (gn ts T):=by
 unfold gn
 split
 ·split
  ·exact aH.h (show (0:Int)<210 by decide)
  ·split
   ·exact aH.h (show (0:Int)<204 by decide)
   ·have a:=iN wC T.z []
    cases b:aV fieldStep [] T.z with
    | error e=>exact aH.h (a e b)
    | ok r=>exact aH.ok
 ·exact aH.ok
theorem Et(d:Nat)(T:ac):aH (lz d T):=by
 unfold lz;have h:=iN yQ T.z []
 cases a:aV gn [] T.z with
 | error e=>exact aH.h (h e a)
 | ok ts =>
  have b:=iN (xm d ts) T.z [];dsimp only
  cases c:aV (gi d ts) [] T.z with
  | error e=>exact aH.h (b e c)
  | ok r=>exact aH.ok
theorem BK{s:ByteArray}{er:Flt}(h:cd s=zs er):er.1≠0:=by
 unfold cd at h
 split at h
 ·unfold jc at h
  split at h
  ·have:=Et 30 _ er h;omega
  ·injection h with h;rw[←h];decide
 ·rename_i a
  injection h with h;rw[←h];exact a
structure jI (w:J) (K:Nat) (m:au) (R:dc):Prop where
 i1:I64 m.g
 i2:I64 m.h
 at_:∃(sf st ss sy sr:tS) (M:Nat),w.heap[K]?=A (r7 #[r9 m.c,I U m.g,sf,st,ss,I U m.h,sy,sr,vo (A ⟨M,0,Y⟩)] 116 (0,0))∧
  aG.h w (fun b=>b<w.heap.size) m.a sf∧dx.h w (fun b=>b<w.heap.size) m.d st∧ea.h w (fun b=>b<w.heap.size) m.e ss∧
  eW.h w (fun b=>b<w.heap.size) R.c sy∧(fM 30).h w (fun b=>b<w.heap.size) R.a sr∧iO w M m.a
theorem al{α:Type}{r:Rd α}{w w':J}{xs:List α}{v:tS}(h:r.h w (fun b=>b<w.heap.size) xs v)(a:Kr w w'):r.h w' (fun b=>b<w'.heap.size) xs v:=
 Rd.sI (fun b (c:b<w.heap.size)=>JS c a.size) (Rd.sm h (fun _ h=>h) a)
theorem jI.C{w w':J}{K:Nat}{m:au}{R:dc}(h:jI w K m R)(a:Kr w w'):jI w' K m R:=by
 obtain⟨c,d,sf,st,ss,sy,sr,M,b,e,f,g,i,j,k⟩:=h;exact⟨c,d,sf,st,ss,sy,sr,M,aa a b (JL.1 b).1,al e a,al f a,al g a,al i a,al j a,k.C a⟩
def Fc(m:au) (w:J) (e:Ending) (w':J):Prop:=
 Kr w w'∧∃(K:Nat) (ok:Bool),e=wg (y9 #[vo (A ⟨K,0,Y⟩),xt ok])∧((∃er,cd m.c=zs er∧ok=false)∨∃R,cd m.c=xn R∧ok=eR m.g m.a∧(ok=true→jI w' K m R))
theorem Dl{m:au}{vs:List tS}{w:J}(hm:bG.at_ w (fun b=>b<w.heap.size) m vs)(ht:aI w):vv va 24 #[wP vs.toArray] w (Fc m w):=by
 obtain⟨cm,bt,bB,sf,st,ss,rfl,N,P,Q⟩:=fC.1 hm;obtain⟨pf,cf,bR⟩:=Rd.q N;obtain⟨pt,ct,b0⟩:=Rd.q P;obtain⟨ps,cs,b1⟩:=Rd.q Q;obtain⟨nf,b2⟩:=zzy (m.a.length);obtain⟨nt,b3⟩:=zzy (m.d.length);obtain⟨ns,b4⟩:=zzy (m.e.length);rw[b2]at bR;rw[b3]at b0;rw[b4]at b1;subst bR;subst b0;subst b1;obtain⟨C,hC⟩:∃C:Array tS,C=#[r9 m.c,I U m.g,O pf nf cf,O pt nt ct,O ps ns cs,I U m.h]:=⟨_,rfl⟩;obtain⟨W1,z⟩:=zzx (w.alloc (r7 C 28));have S:Kr w W1:=by rw[z];exact (JO _ w).alloc (JM _) _
 have i:W1.heap[w.heap.size]?=A (r7 C 28 (0,0)):=by rw[z];exact oc w _
 have G:=Hd (BJ m.c W1 (ht.C S));have b5:=Hd (fun V (hV:Kr w V)=>al N hV);have cn:=Hd (fun V (hV:Kr w V)=>al P hV);have cp:=Hd (fun V (hV:Kr w V)=>al Q hV);obtain⟨B,b6,T,HC,HI,b7⟩:=zz6 S z i hC (And.intro bt bB) (fun er=>@BK m.c er);obtain⟨tx,W⟩:=zzy (m.c);obtain⟨nx,X⟩:=zzy (m.g);obtain⟨mn,ad⟩:=zzy (m.h);rw[W]at HC G b7;rw[X,ad]at HC HI;obtain⟨af,D,aq⟩:=zz3 W X ad;clear hm ht cm bt bB N P Q b2 b3 b4 W X ad S z i hC;rw[af.o,D.o,aq.o]
 go_enter Tryz.func24,Tryz.ntmps24
 go_upto_region 1 with fail
 change Code.wp _ _ _ _ (w.alloc (r7 #[r9 tx,I U nx,O pf nf cf,O pt nt ct,O ps ns cs,I U mn] 28));rw[←HC.o,←b6.o];clear b6;have i:=T.o;rw[HC.o]at i;obtain⟨⟨a0,a1,a2,a3,a4,a5⟩,_⟩:=aC i;clear i;go_wp2_with fail
 refine G.o.mono ?_;rintro e W2 ⟨l,he⟩;obtain⟨q,r,er,pl,rfl,a⟩:∃q r er pl,e=wg (y9 #[wP #[q,r],wP #[I U er,I U pl]])∧((∃x,cd tx=zs x∧er≠0∧q=O Y 0 0∧r=O Y 0 0)∨∃R,cd tx=xn R∧er=0∧eW.h W2 (fun b=>b<W2.heap.size) R.c q∧(fM 30).h W2 (fun b=>b<W2.heap.size) R.a r):=by
  cases hs:cd tx with
  | error x =>
   rw[hs]at he;exact⟨_,_,_,_,he,Or.inl ⟨x,Z,b7.o x hs,Z,Z⟩⟩
  | ok R =>
   rw[hs]at he;obtain⟨st,sr,f,g,h3⟩:=he;exact⟨_,_,_,_,f,Or.inr ⟨R,Z,Z,Rd.sI (fun b hb=>hb.2) g,Rd.sI (fun b hb=>hb.2) h3⟩⟩
 obtain⟨p7,n7,c7,h7⟩:∃p n c,q=O p n c:=by
  rcases a with ⟨_,_,_,h,_⟩|⟨R,_,_,h,_⟩
  ·exact⟨_,_,_,h⟩
  ·obtain⟨p,c,h⟩:=Rd.q h;exact⟨_,_,_,h⟩
 obtain⟨p8,n8,c8,h8⟩:∃p n c,r=O p n c:=by
  rcases a with ⟨_,_,_,_,h⟩|⟨R,_,_,_,h⟩
  ·exact⟨_,_,_,h⟩
  ·obtain⟨p,c,h⟩:=Rd.q h;exact⟨_,_,_,h⟩
 subst h7 h8;obtain⟨W3,E⟩:=zzx ((W2.alloc (r7 #[O p7 n7 c7,O p8 n8 c8] 107)).alloc (r7 #[I U er,I U pl] 109));obtain⟨ar,a6,_⟩:=bc W2 (r7 #[O p7 n7 c7,O p8 n8 c8] 107) (r7 #[I U er,I U pl] 109);have s:Kr W2 W3:=by rw[E];exact ((JO _ W2).alloc (JM _) _).alloc (by simp) _
 rw[←E]at ar a6;have ba:=(B.o.trans (l.mono B.o.size)).trans (s.mono (B.o.trans (l.mono B.o.size)).size);have j:=aa (l.trans (s.mono l.size)) T.o (JL.1 T.o).1;obtain⟨b8,b9,ca,bb,cb,cc⟩:=zz6 (Hm nx m.a (O pf nf cf) W3 HI.o.1 (b5.o W3 ba)) ba E j ar a6;have bd:Hid ((∃x,cd tx=zs x∧er≠0)∨∃R,cd tx=xn R∧er=0∧eW.h W3 (fun b=>b<W3.heap.size) R.c (O p7 n7 c7)∧(fM 30).h W3 (fun b=>b<W3.heap.size) R.a (O p8 n8 c8)):=by
  rcases a with ⟨x,f,g,_⟩|⟨R,f,g,h3,h4⟩
  ·exact Or.inl ⟨x,f,g⟩
  ·exact Or.inr ⟨R,f,g,al h3 s,al h4 s⟩
 clear a he l s ba j ar a6 E a0 a1 a2 a3 a4 a5;go_upto_region 2 with fail
 change Code.wp _ _ _ _ ((W2.alloc (r7 #[O p7 n7 c7,O p8 n8 c8] 107)).alloc (r7 #[I U er,I U pl] 109));rw[←ca.o];clear ca;have j:=bb.o;rw[HC.o]at j;obtain⟨⟨a0,a1,a2,a3,a4,a5⟩,_⟩:=aC j;clear j;go_wp2_with fail
 refine b8.o.mono ?_;rintro e W4 ⟨d,ch⟩;obtain⟨pm,eo,rfl,bg⟩:∃(pm:Option Addr) (eo:Int),e=wg (y9 #[vo pm,I U eo])∧((eR nx m.a=true∧eo=0∧∃M,pm=A ⟨M,0,Y⟩∧iO W4 M m.a)∨(eR nx m.a=false∧eo=4)):=by
  rcases ch with ⟨f,M,u,g,h3⟩|⟨f,g⟩
  ·exact⟨_,_,g,Or.inl ⟨f,Z,M,Z,iO.of h3 f⟩⟩
  ·exact⟨_,_,g,Or.inr ⟨f,Z⟩⟩
 have bk:=aa d bb.o (JL.1 bb.o).1;have ck:=aa d cb.o (JL.1 cb.o).1;have F:=aa d cc.o (JL.1 cc.o).1;have bl:=b9.o.trans (d.mono b9.o.size);obtain⟨H,t⟩:=zzx (W4.alloc (r7 #[r9 tx,I U nx,O pf nf cf,O pt nt ct,O ps ns cs,I U mn,O p7 n7 c7,O p8 n8 c8,vo pm] 116));have k:Kr W4 H:=by rw[t];exact (JO _ W4).alloc (JM _) _
 have bm:H.heap[W4.heap.size]?=A (r7 #[r9 tx,I U nx,O pf nf cf,O pt nt ct,O ps ns cs,I U mn,O p7 n7 c7,O p8 n8 c8,vo pm] 116 (0,0)):=by rw[t];exact oc W4 _
 have v:=bl.trans (k.mono bl.size);rw[HC.o]at bk;obtain⟨⟨a0,a1,a2,a3,a4,a5⟩,_⟩:=aC bk;obtain⟨r0,r1,_⟩:=cj ck;obtain⟨f0,f1,_⟩:=cj F;have K:=aa k F (JL.1 F).1;obtain⟨g0,g1,_⟩:=cj K;have bn:=Hd t;rw[t]at g0 g1;have hend:∀ok:Bool,ok=(er==0&&eo==0)→Fc m w (wg (y9 #[vo (A ⟨W4.heap.size,0,Y⟩),xt ok])) H:=by
  intro ok bq;refine⟨v,_,_,Z,?_⟩;rw[af.o,D.o];rcases bd.o with ⟨x,f,g⟩|⟨R,f,g,h3,h4⟩
  ·exact Or.inl ⟨x,f,by rw[bq];simp[g]⟩
  ·refine Or.inr ⟨R,f,?_,fun hk=>?_⟩
   ·rw[bq,g];rcases bg with ⟨k1,k2,_⟩|⟨k1,k2⟩<;>rw[k1,k2]<;>rfl
   ·rcases bg with ⟨k1,k2,M,k3,k4⟩|⟨k1,k2⟩
    ·rw[k3]at bm;refine⟨by rw[D.o];exact HI.o.1,by rw[aq.o];exact HI.o.2,_,_,_,_,_,M,?_,b5.o H v,cn.o H v,cp.o H v,al h3 (d.trans (k.mono d.size)),al h4 (d.trans (k.mono d.size)),k4.C k⟩;rw[af.o,D.o,aq.o];exact bm
    ·rw[bq,k2]at hk;simp at hk
 have y:=Hd hend;clear hend ch bg d bk ck F bl k bm v K t b8
 by_cases f:er=0
 ·subst f;have cl:((0:Int)==0)=true:=rfl
  by_cases g:eo=0
  ·subst g;have L:=Hd (y.o true Z);go_wp2_with fail
   rw[bn.o]at L
   go_returns
   exact L.o
  ·have cq:(eo==0)=false:=by simpa using g
   have L:=Hd (y.o false (by rw[cq];rfl));go_wp2_with fail
   rw[bn.o]at L
   go_returns
   exact L.o
 ·have cl:(er==0)=false:=by simpa using f
  have L:=Hd (y.o false (by rw[cl];rfl));go_wp2_with fail
  rw[bn.o]at L
  go_returns
  exact L.o
