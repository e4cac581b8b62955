/- Parts of one proof, joined; conditions stand in each theorem. -/
import Derived.Test.YtkhfjgjjhlnnnaaGreatDoorOC
open Except renaming error→z8,ok→xL
open Go renaming Value→vn,World→vk,Calls→wB
open Go.Ending renaming returned→xv
open Go.Value renaming agg→wD,string→J,int→I,pointer→wF,slice→A,bool→xS
open Go.IntKind renaming i64→Z,u8→O
open Option renaming some→Y,none→U
open Go.Obj renaming cells→ur
open Go.Proofs.Tryz renaming prog→wq
open Or renaming inl→wP,inr→xj
open Go.Code renaming wp→xV
namespace Go.Proofs.YtkhfjgjjhlnnnaaGreatDoor
set_option maxHeartbeats 8000000
set_option maxRecDepth 100000
open Go.RowKit
theorem iy{σ:Type}{fl fl':Flt}{r:Except Flt σ}{P:σ→Prop}(h:Goes fl r fl' P)(b:fl'.1=0):fl.1=0:=by
 by_cases a:fl.1=0
 ·exact a
 ·have e:=h.1 a;rw[e]at b;exact absurd b a
theorem sX{binds:Bool}{c:Int}{l:Nat}{d:Nat}{ts:List ae}{s:RSt}{T:ab}{fl f g:Flt}{j:Int}{vars':List ByteArray}{args:List dy}(t:T.b=l)(u:(l=5∧binds=true∧c=1)∨(l=6∧binds=false∧c=2))
  (a:Goes fl (bK ts T) f (fun i=>j=(i:Int))) (b:Goes f (aG (bY binds) (s.b,[]) T.q) g (fun r=>(vars',args)=r)):Goes fl (aC d ts s T) g (fun v=>(⟨vars',s.c++[⟨c,j,args,.zero⟩],s.d⟩:RSt)=v):=by
 have e:aC d ts s T=match (generalizing:=false) bK ts T with
  | .error e=>z8 e
  | .ok k=>match (generalizing:=false) aG (bY binds) (s.b,[]) T.q with
   | .error e=>z8 e
   | .ok r=>xL ⟨r.1,s.c++[⟨c,k,r.2,.zero⟩],s.d⟩:=by
  unfold aC;rcases u with ⟨rfl,rfl,rfl⟩|⟨rfl,rfl,rfl⟩<;>rw[t]<;>rfl
 rw[e];refine⟨fun h=>?_,fun h=>?_⟩
 ·have m:=a.1 h;rw[m]at b;exact b.1 h
 ·have a:=a.2 h
  cases n:bK ts T with
  | error er =>
   rw[n]at a;have a:f=er:=a;subst a;exact b.1 (l6 ts T _ n)
  | ok y =>
   rw[n]at a;obtain⟨m,o⟩:=a;have o:j=(y:Int):=o;subst m;subst o;have b:=b.2 h
   cases q:aG (bY binds) (s.b,[]) T.q with
   | error er =>
    rw[q]at b;exact b
   | ok r =>
    rw[q]at b;obtain⟨w,p⟩:=b;have p:(vars',args)=r:=p;subst p;exact⟨w,V⟩
theorem zo{d:Nat}{ts:List ae}{s:RSt}{T K:ab}{rest:List ab}{fl b:Flt}{E:ax}(g:T.b=7)(i:T.q=K::rest)(a:Goes fl (aB s.b d K) b (fun y=>E=y)):Goes fl (aC d ts s T) b (fun j=>(⟨s.b,s.c++[⟨3,0,[],E⟩],s.d⟩:RSt)=j):=by
 have e:aC d ts s T=match (generalizing:=false) aB s.b d K with
  | .error e=>z8 e
  | .ok x=>xL ⟨s.b,s.c++[⟨3,0,[],x⟩],s.d⟩:=by
  unfold aC;rw[g,i];rfl
 rw[e];refine⟨a.1,fun h=>?_⟩;have a:=a.2 h
 cases f:aB s.b d K with
 | error er =>
  rw[f]at a;exact a
 | ok r =>
  rw[f]at a;obtain⟨k,c⟩:=a;have c:E=r:=c;subst c;exact⟨k,V⟩
theorem vJ{d:Nat}{ts:List ae}{s:RSt}{T:ab}{fl c f:Flt}{j:Int}{es:List ax}(p:T.b=8)(a:Goes fl (bK ts T) c (fun i=>j=(i:Int)))(b:Goes c (bC (aB s.b d) T.q) f (fun ys=>es=ys)):Goes fl (aC d ts s T) f (fun q=>(⟨s.b,s.c,s.d++[⟨1,j,0,es⟩]⟩:RSt)=q):=by
 have e:aC d ts s T=match (generalizing:=false) bK ts T with
  | .error e=>z8 e
  | .ok k=>match (generalizing:=false) bC (aB s.b d) T.q with
   | .error e=>z8 e
   | .ok xs=>xL ⟨s.b,s.c,s.d++[⟨1,k,0,xs⟩]⟩:=by
  unfold aC;rw[p];rfl
 rw[e];refine⟨fun h=>?_,fun h=>?_⟩
 ·have g:=a.1 h;rw[g]at b;exact b.1 h
 ·have a:=a.2 h
  cases l:bK ts T with
  | error er =>
   rw[l]at a;have a:c=er:=a;subst a;exact b.1 (l6 ts T _ l)
  | ok y =>
   rw[l]at a;obtain⟨g,m⟩:=a;have m:j=(y:Int):=m;subst g;subst m;have b:=b.2 h
   cases o:bC (aB s.b d) T.q with
   | error er =>
    rw[o]at b;exact b
   | ok r =>
    rw[o]at b;obtain⟨t,n⟩:=b;have n:es=r:=n;subst n;exact⟨t,V⟩
theorem vu{d:Nat}{ts:List ae}{s:RSt}{T:ab}{fl:Flt}{k:Int}(c:T.b=9)(f:k=bG s.c):Goes fl (aC d ts s T) (az fl (decide (T.h<1)||decide (k<T.h)) 214 T.t) (fun g=>(⟨s.b,s.c,s.d++[⟨2,0,T.h-1,[]⟩]⟩:RSt)=g):=by
 have e:aC d ts s T=if T.h<1||(bG s.c:Int)<T.h then z8 (214,T.t) else xL ⟨s.b,s.c,s.d++[⟨2,0,T.h-1,[]⟩]⟩:=by
  unfold aC;rw[c];rfl
 rw[e,←f];obtain⟨b,i⟩:=fl;unfold Goes az;refine⟨fun h=>?_,fun h=>?_⟩
 ·have h:¬b=0:=h;simp[h]
 ·have h:b=0:=h;subst h
  by_cases a:(decide (T.h<1)||decide (k<T.h))=true
  ·rw[r6 a,a];rfl
  ·rw[r5 a,Bool.eq_false_iff.2 a];exact⟨V,V⟩
theorem B6{d:Nat}{ts:List ae}{s:RSt}{T:ab}{fl b:Flt}{es:List ax}(g:T.b=10)(a:Goes fl (bC (aB s.b d) T.q) b (fun ys=>es=ys)):Goes fl (aC d ts s T) b (fun i=>(⟨s.b,s.c,s.d++[⟨3,0,0,es⟩]⟩:RSt)=i):=by
 have e:aC d ts s T=match (generalizing:=false) bC (aB s.b d) T.q with
   | .error e=>z8 e
   | .ok xs=>xL ⟨s.b,s.c,s.d++[⟨3,0,0,xs⟩]⟩:=by
  unfold aC;rw[g];rfl
 rw[e];refine⟨a.1,fun h=>?_⟩;have a:=a.2 h
 cases f:bC (aB s.b d) T.q with
 | error er =>
  rw[f]at a;exact a
 | ok r =>
  rw[f]at a;obtain⟨j,c⟩:=a;have c:es=r:=c;subst c;exact⟨j,V⟩
theorem zk{d:Nat}{ts:List ae}{s:RSt}{T:ab}{fl:Flt}(a:T.b=11):Goes fl (aC d ts s T) fl (fun b=>(⟨s.b,s.c,s.d++[⟨4,0,0,[]⟩]⟩:RSt)=b):=by
 refine fL (y:=⟨s.b,s.c,s.d++[⟨4,0,0,[]⟩]⟩) ?_ V;unfold aC;rw[a];rfl
def dN(d M L:Nat) (DT:Nat→Prop) (ts:List ae) (nm:ByteArray) (sal vv:Int) (h i:Nat) (vT vR:vn) (fl:Flt) (r:Except Flt RSt) (w:vk) (e:Ending) (w':vk):Prop:=
 ∃(fl':Flt) (a:RSt) (k':Int) (g c f:vn) (D':Nat→Prop),e=xv (wD #[J nm,I Z sal,I Z vv,c,f])∧Chg (fun b=>b=M∨L≤b) w w'∧St2 64 70 (bg d) (bD d) M L DT ts a.b k' fl' vT vR g a.c c a.d f D' w'∧k'=bG a.c∧a.b.length≤17∧(fl'.1=0→a.b.length≤16)∧a.c.length≤h+1∧a.d.length≤i+1∧Goes fl r fl' (fun y=>a=y)
def fx(S:Nat) (a b x2:Obj) (W:vk):Prop:=W.heap[S]?=Y a∧W.heap[S+1]?=Y b∧W.heap[S+2]?=Y x2
theorem fx.new(w:vk)(a b x2:Obj):fx w.heap.size a b x2 (((w.alloc a).alloc b).alloc x2)∧Gc w (((w.alloc a).alloc b).alloc x2):=by
 refine⟨⟨?_,?_,?_⟩,(((Fl _ w).alloc (Fj _) _).alloc (by simp) _).alloc (by simp;omega) _⟩
 ·have:=qv w a;have c:=aa ((Fl (w.alloc a).heap.size (w.alloc a)).alloc (Fj _) b) this (by simp);exact aa ((Fl ((w.alloc a).alloc b).heap.size ((w.alloc a).alloc b)).alloc (Fj _) x2) c (by simp;omega)
 ·have:=qv (w.alloc a) b;rw[r9]at this;exact aa ((Fl ((w.alloc a).alloc b).heap.size ((w.alloc a).alloc b)).alloc (Fj _) x2) this (by simp)
 ·have:=qv ((w.alloc a).alloc b) x2;rw[r9,r9]at this;exact this
theorem fx.lt{S:Nat}{a b x2:Obj}{W:vk}(h:fx S a b x2 W):S+2<W.heap.size:=(Fi.1 h.2.2).1
theorem fx.u{S:Nat}{b c x2:Obj}{W W':vk}(h:fx S b c x2 W)(a:Gc W W'):fx S b c x2 W':=by
 have:=h.lt;exact⟨aa a h.1 (by omega),aa a h.2.1 (by omega),aa a h.2.2 (by omega)⟩
theorem fx.chg{S:Nat}{c d x2:Obj}{F:Nat→Prop}{W W':vk}(h:fx S c d x2 W)(a:Chg F W W')(hF:∀b,F b→b<S):fx S c d x2 W':=by
 have:=h.lt;exact⟨(a.q S (by omega) (fun e=>by have:=hF _ e;omega)).trans h.1,(a.q (S+1) (by omega) (fun e=>by have:=hF _ e;omega)).trans h.2.1,(a.q (S+2) (by omega) (fun e=>by have:=hF _ e;omega)).trans h.2.2⟩
theorem fx.set{S:Nat}{a b x2:Obj}{W:vk}(h:fx S a b x2 W)(g i:Nat)(u:vn)(c:g<S∨S+2<g):fx S a b x2 (W.setCell ⟨g,i,U⟩ u):=
 ⟨(Fp W ⟨g,i,U⟩ u S (by show S≠g;omega)).trans h.1,(Fp W ⟨g,i,U⟩ u (S+1) (by show S+1≠g;omega)).trans h.2.1,(Fp W ⟨g,i,U⟩ u (S+2) (by show S+2≠g;omega)).trans h.2.2⟩
theorem fx.set0{S:Nat}{cs:Array vn}{t:TypeId}{a x2:Obj}{W:vk}(h:fx S (ur cs t (0,0)) a x2 W)(i:Nat)(u:vn):fx S (ur (cs.setIfInBounds i u) t (0,0)) a x2 (W.setCell ⟨S,i,U⟩ u):=
 ⟨heap_set h.1 i u,(Fp W ⟨S,i,U⟩ u (S+1) (by show S+1≠S;omega)).trans h.2.1,(Fp W ⟨S,i,U⟩ u (S+2) (by show S+2≠S;omega)).trans h.2.2⟩
theorem i6{fn:Func}(h:fn.results=#[.cell 6 50])(W:vk)(g:Ending→vk→Prop)(T:Nat)(a b c d e:vn)(i:W.heap[T]?=Y (ur #[a,b,c,d,e] 50 (0,0)))
  (tmps:Array vn) (j:tmps.getD 6 undef=wF (Y ⟨T,0,U⟩)) (k:g (xv (wD #[a,b,c,d,e])) W):bodyPost wq fn g .ret ⟨tmps,[]⟩ W:=by
 obtain⟨l,m,c2,n,c4⟩:=cells5 i;have f:tmps[6]?.getD undef=wF (Y ⟨T,0,U⟩):=by simpa using j
 refine bodyPost_ret (v:=wD #[a,b,c,d,e]) ?_ V k;simp[results,h,go_sem,f,l,m,c2,n,c4]
theorem od(c:Int)(a:0≤c)(b:c<256):U8 c:=⟨a,b⟩
theorem jb:I64 0:=⟨by decide,by decide⟩
theorem qW:f6 ax.zero:=⟨⟨by decide,by decide⟩,jg,⟨by decide,by decide⟩,⟨by decide,by decide⟩⟩
theorem jW{M L:Nat}{w w':vk}(h:Chg (fun b=>b=M) w w'):Chg (fun b=>b=M∨L≤b) w w':=⟨h.os,h.a,h.c,h.h,fun b a c=>h.q b a (fun e=>c (wP e))⟩
theorem eu{M L:Nat}{w w':vk}(_hL:L≤w.heap.size)(h:Gc w w'):Chg (fun b=>b=M∨L≤b) w w':=Chg.f h
theorem jG{M L:Nat}{v:vn}{w w':vk}(h:Chg (fun b=>v.ownBlock=Y b) w w')(a:∀b,v.ownBlock=Y b→L≤b):Chg (fun b=>b=M∨L≤b) w w':=⟨h.os,h.a,h.c,h.h,fun b c d=>h.q b c (fun e=>d (xj (a b e)))⟩
theorem An(l:List aX)(c:aX)(h:c.b=1):((bG l:Nat):Int)+1=bG (l++[c]):=by
 unfold bG;rw[List.filter_append,FC,List.filter_cons,r6 (by rw[h];rfl)];rfl
theorem qQ(l:List aX)(c:aX)(h:¬(c.b==1)=true):((bG l:Nat):Int)=bG (l++[c]):=by
 unfold bG;rw[List.filter_append,FC,List.filter_cons,r5 h];rfl
theorem wO(d M L B:Nat)(DT:Nat→Prop)(ts:List ae)(s:RSt)(k:Int)(fl:Flt)(vT vR vV vC vA:vn)(D:Nat→Prop)(nm:ByteArray)(sal vv:Int)(T:ab)(p:Option Addr)(n c:Nat)(w:vk)
  (h:St2 64 70 (bg d) (bD d) M L DT ts s.b k fl vT vR vV s.c vC s.d vA D w) (hn:T.q.length=n) (hd:n≤20000) (hf:s.c.length≤20000) (_han:s.d.length≤20000) (da:s.b.length≤17∧(fl.1=0→s.b.length≤16)) (dc:k=bG s.c) (hk:T.b=5) (hh:B≤M) (dd:aj w B (d+1) T.q (A p n c)) (dg:∀K∈T.q,(K.b=12∨K.b=13∨K.b=14∨K.b=15)∧K.f.size≤72007∧aK K=true) :
  wB wq 51 #[wF (Y ⟨M,0,U⟩),wD #[J nm,I Z sal,I Z vv,vC,vA],wD #[I O T.b,J T.f,I Z T.h,I Z T.t,A p n c]] w (dN d M L DT ts nm sal vv s.c.length s.d.length vT vR fl (aC d ts s T) w):=by
 obtain⟨pC,cC,dp⟩:=h.x.b;obtain⟨P,Q,ds⟩:=h.y.b;obtain⟨f,cb⟩:=zzy (s.c.length);obtain⟨H,cc⟩:=zzy (s.d.length);rw[cb]at dp hf ⊢;rw[cc]at ds _han ⊢;subst dp;subst ds;obtain⟨w1,ch⟩:=zzx (((w.alloc (ur #[J nm,I Z sal,I Z vv,A pC f cC,A P H Q] 50)).alloc (ur #[I O 5,J T.f,I Z T.h,I Z T.t,A p n c] 25)).alloc (ur #[J ⟨#[]⟩,I Z 0,I Z 0,A U 0 0,A U 0 0] 50));obtain⟨R,bb⟩:=fx.new w (ur #[J nm,I Z sal,I Z vv,A pC f cC,A P H Q] 50 (0,0)) (ur #[I O 5,J T.f,I Z T.h,I Z T.t,A p n c] 25 (0,0)) (ur #[J ⟨#[]⟩,I Z 0,I Z 0,A U 0 0,A U 0 0] 50 (0,0));rw[←ch]at R bb;have hV:=h.lt;have hle:=h.le;have ck:=Hd (fun g (e:(A pC f cC).ownBlock=Y g)=>h.x.lt e);have cl:=Hd (fun g (e:(A P H Q).ownBlock=Y g)=>h.y.lt e);obtain⟨dv,hW,HD,ea,cq,br,eb⟩:=zz7 h.xl h.yl h.d (h.u bb) bb R ch;obtain⟨bc,hi,HV,ec,HK,HN⟩:=zz6 cb cc da dc hk hn;obtain⟨a0,a1,a2,a3,a4⟩:=cells5 R.1;obtain⟨b0,b1,b2,b3,b4⟩:=cells5 R.2.1;have eg:Hid (wB wq 80 #[wF (Y ⟨M,0,U⟩),wD #[I O 5,J T.f,I Z T.h,I Z T.t,A p n c]] w1 (fun e w'=>∃fl' j,e=xv (I Z j)∧I64 j∧aD M ts s.b k vT vR vV w1 fl' w'∧Goes fl (bK ts T) fl' (fun i=>j=(i:Int)))):=by
  have:=lB ea.o.rm T p c (by rw[HN.o];omega);rw[HK.o,HN.o]at this;exact this
 obtain⟨hl,hp,HM⟩:=zz3 dd dg hh;clear dd dg;rw[hk];clear h ch R bb cb cc da dc hk hn
 go_enter Tryz.func51,Tryz.ntmps51
 go_upto_region 1 with fail
 change xV _ _ _ _ (((w.alloc (ur #[J nm,I Z sal,I Z vv,A pC f cC,A P H Q] 50)).alloc (ur #[I O 5,J T.f,I Z T.h,I Z T.t,A p n c] 25)).alloc (ur #[J ⟨#[]⟩,I Z 0,I Z 0,A U 0 0,A U 0 0] 50));rw[←eb.o];clear eb;go_wp2_with fail
 refine eg.o.mono ?_;rintro e r ⟨ek,j,rfl,hj,u,bt⟩;obtain⟨el,S,en,eo,HJ⟩:=zz5 (ea.o.call u) (br.o.chg u.1 (fun b t=>by omega)) u bt hj;obtain⟨C,W⟩:=zzx (r.alloc (ur #[I O 1,I Z j,A U 0 0,I O 0,I O 0,I Z 0,J ⟨#[]⟩,I Z 0,I O 0,A U 0 0] 64));have bd:Gc r C:=by rw[W];exact (Fl _ r).alloc (Fj _) _
 have cr:=qv r (ur #[I O 1,I Z j,A U 0 0,I O 0,I O 0,I Z 0,J ⟨#[]⟩,I Z 0,I O 0,A U 0 0] 64);rw[←W]at cr;have X:C.heap.size=r.heap.size+1:=by rw[W,r9]
 have hX:=u.1.h;have hY:=cq.o.size;have h3:=br.o.lt;obtain⟨ep,ad,bB,er,et,ev⟩:=zz6 cr (el.o.u bd) (S.o.u bd) bd X W;clear a0 a1 a2 a3 a4 b0 b1 b2 b3 b4 u bt hj bd cr X W eg;obtain⟨a0,a1,a2,a3,a4⟩:=cells5 S.o.1;obtain⟨b0,b1,b2,b3,b4⟩:=cells5 S.o.2.1;go_upto_region 5 with fail
 change xV _ _ _ _ (r.alloc (ur #[I O 1,I Z j,A U 0 0,I O 0,I O 0,I Z 0,J ⟨#[]⟩,I Z 0,I O 0,A U 0 0] 64));rw[←ev.o];clear ev a0 a1 a2 a3 a4 b0 b1 b2 b3 b4;obtain⟨b0,b1,b2,b3,b4⟩:=cells5 bB.o.2.1;have HA:Hid (wB wq 81 #[wF (Y ⟨M,0,U⟩),wD #[I O 5,J T.f,I Z T.h,I Z T.t,A p n c],xS true] C (mD M ts k vT vR D n ek (aG (bY true) (s.b,[]) T.q) C)):=by
  have:=qI D d M B ts s.b k vT vR vV ek true T (A p n c) C ad.o.rm ad.o.vv (fun b t=>⟨(ad.o.d b t).2.1,fun e=>by have:=(ad.o.d b t).1;omega⟩) HM.o (hl.o.u (by
   have h1:Below B w w1:=cq.o.mono (by omega);have h2:=eI en.o.1 HM.o (by omega)
   exact (h1.trans h2).trans (er.o.mono (by omega)))) (by rw[HN.o];exact hd) ⟨HV.o.1,fun h0=>HV.o.2 (iy eo.o h0)⟩ hp.o
  rw[HK.o,HN.o]at this;exact this
 go_wp2_with fail
 refine HA.o.mono ?_;rintro e w4 ⟨fe,af,hq,args,v,rfl,a,hr,l,bR,b5,fm,fp,b6⟩;obtain⟨pv,cv,fv⟩:=l.b;obtain⟨N,fI⟩:=zzy (args.length);rw[fI]at fv;subst fv;obtain⟨hs,fM,ct⟩:=zz3 (ad.o.C a b6) (bB.o.chg a.1 (fun b t=>by omega)) (bv a.1 ep.o (Fi.1 ep.o).1 (fun e=>by omega));have h4:=a.1.h;have X:=et.o;obtain⟨ht,hv,hx,hy,fT⟩:=zz5 a.1 b5 fm fp (l.C (G:=fun b=>D b∨am C w4 b) (fun b t=>xj t.1) (fun g hg=>xj ⟨bR g hg,l.lt hg⟩));obtain⟨W5,bk⟩:=zzx (w4.setCell ⟨r.heap.size,2,U⟩ (A pv N cv));have cu:¬(D r.heap.size∨am C w4 r.heap.size):=fun e=>by
  rcases e with e|e
  ·have:=(el.o.d _ e).2.1;omega
  ·have:=e.1;omega
 have ak:=heap_set ct.o 2 (A pv N cv);have cx:=hs.o.set r.heap.size 2 (A pv N cv) (by omega) cu (fun e=>by have:=ck.o _ e;omega) (fun e=>by have:=cl.o _ e;omega);have cR:=fM.o.set r.heap.size 2 (A pv N cv) (by omega);have cT:Chg (fun b=>b=M∨L≤b) w4 (w4.setCell ⟨r.heap.size,2,U⟩ (A pv N cv)):=Chg.t (p:=⟨r.heap.size,2,U⟩) (Chg.refl _ _) (wP (xj (by show L≤r.heap.size;omega))) _;rw[←bk]at ak cx cR cT
 have al:gk.C W5 (fun b=>D b∨am C w4 b) args (A pv N cv):=Rd.f (fun b t o ho=>by
  rw[bk]
  exact (Fp w4 ⟨r.heap.size,2,U⟩ _ b (fun e=>cu (by have e:b=r.heap.size:=e;rw[←e];exact t))).trans ho) fT.o
 have ak:W5.heap[r.heap.size]?=Y (ur #[I O 1,I Z j,A pv N cv,I O 0,I O 0,I Z 0,J ⟨#[]⟩,I Z 0,I O 0,A U 0 0] 64 (0,0)):=ak;obtain⟨hz,bl,aq,hA,cV,gf⟩:=zz6 ak cx cR cT al bk;have fz:=aE ct.o;obtain⟨y0,y1,y2,y3,y4,y5,y6,y7,y8,y9⟩:=cN ct.o;clear a b5 fm fp b6 l bR fI ak cx cR cT al bk cu b0 b1 b2 b3 b4 HA hr;go_upto_region 6 with fail
 change xV _ _ _ _ (w4.setCell ⟨r.heap.size,2,U⟩ (A pv N cv));rw[←gf.o];clear gf fz y0 y1 y2 y3 y4 y5 y6 y7 y8 y9;have hD:Hid ((bg d).at_ W5 (fun b=>D b∨am C w4 b) ⟨1,j,args,.zero⟩ [I O 1,I Z j,A pv N cv,I O 0,I O 0,I Z 0,J ⟨#[]⟩,I Z 0,I O 0,A U 0 0]):=ft.2 ⟨⟨by show (0:Int)≤1;decide,by show (1:Int)<256;decide⟩,HJ.o,qW,_,_,V,cV.o,oh⟩;have gg:Hid (Chg (fun b=>b=M∨L≤b) w W5):=(((eu hle cq.o).b (jW en.o.1)).b (eu (by omega) er.o)).b ((jW ht.o).b hA.o);have hE:Hid (∀q,(fun b=>D b∨am C w4 b) q→q<w.heap.size∨w.heap.size+3≤q):=fun q e=>by
  rcases e with e|e
  ·exact wP (HD.o q e).2.1
  ·have:=e.1;exact xj (by omega)
 obtain⟨us,ar,gD⟩:=bl.o.x;rw[bc.o,dP]at ar;have E:Gc W5 (W5.alloc (ur #[I O 1,I Z j,A pv N cv,I O 0,I O 0,I Z 0,J ⟨#[]⟩,I Z 0,I O 0,A U 0 0] 64)):=(Fl _ W5).alloc (Fj _) _;obtain⟨hG,gE,gF,gH,hI,gL⟩:=zz6 (db ar E) E (Rd.qv (fun b t o ho=>(E.block b (bl.o.d b t).2.1).trans ho) gD) (Rd.z _ (fun b t o ho=>(E.block b (bl.o.d b t).2.1).trans ho) hD.o) (bl.o.u E) (aq.o.u E);obtain⟨a0,a1,a2,a3,a4⟩:=cells5 aq.o.1;obtain⟨e0,e1,e2,e3,e4,e5,e6,e7,e8,e9⟩:=cN hz.o;clear ar gD E;go_upto_region 7 with (at_builtin;go_must (refine fk i5 V (.tmp 31) (.tmp 33) V (p:=pC) (n:=f) (c:=cC) (z:=[I O 1,I Z j,A pv N cv,I O 0,I O 0,I Z 0,J ⟨#[]⟩,I Z 0,I O 0,A U 0 0]) V V hG.o (qv W5 _) V (by simp[Value.oneCell']) (by omega) ?_);intro g cap W7 hg hC av;have a6:=gL.o.chg hC (fun b t=>by have:=ck.o _ t;omega);have fz:=aE a6.1;obtain⟨q0,q1,q2,q3,q4⟩:=cells5 a6.1)
 change xV _ _ _ _ (W7.setCell ⟨w.heap.size,3,U⟩ (A (Y ⟨g,0,U⟩) (f+1) cap));have gM:=hI.o.push (by decide) bc.o gF.o gH.o hg hC (by rw[dP];exact av);have hS:=a6.lt;have h5:=gE.o.size;have h6:=hC.h;have h7:=gg.o.h;have hJ:L≤g∧(g<w.heap.size∨W5.heap.size≤g):=by
  rcases hg with e|e
  ·exact⟨dv.o g e,wP (ck.o g e)⟩
  ·exact⟨by omega,xj (by omega)⟩
 have hT:=aq.o.lt;have cW:∀q,w.heap.size≤q→q≤w.heap.size+2→¬(fun b=>D b∨am C w4 b) q:=fun q h1 h2 e=>by have:=hE.o q e;omega
 obtain⟨W8,bn⟩:=zzx (W7.setCell ⟨w.heap.size,3,U⟩ (A (Y ⟨g,0,U⟩) (f+1) cap));have c0:=(gM).set w.heap.size 3 (A (Y ⟨g,0,U⟩) (f+1) cap) (by omega) (cW _ (Fj _) (by omega)) (fun e=>by injection e with e;have e:g=_:=e;omega) (fun e=>by have:=cl.o _ e;omega)
 have c1:=a6.set0 3 (A (Y ⟨g,0,U⟩) (f+1) cap);rw[←bn]at c0 c1;have gN:Chg (fun b=>b=M∨L≤b) w W8:=by
  rw[bn];exact Chg.t (p:=⟨w.heap.size,3,U⟩) ((gg.o.b (eu (by omega) gE.o)).b (jG hC (fun b t=>by have:=dv.o b t;omega))) (wP (xj (by show L≤w.heap.size;omega))) _
 obtain⟨bq,gO,hL,gS,hM,hN⟩:=zz6 c0 c1 gN bn cW hJ;clear hg hC av gM a6 c0 c1 gN bn cW a0 a1 a2 a3 a4 e0 e1 e2 e3 e4 e5 e6 e7 e8 e9;rw[←gS.o];clear gS fz q0 q1 q2 q3 q4;have hO:0≤k∧k≤20000:=by
  have h1:=ec.o;have h2:bG s.c≤s.c.length:=List.length_filter_le _ _;rw[bc.o]at h2;omega
 obtain⟨W9,c3⟩:=zzx (W8.setCell ⟨M,3,U⟩ (I Z (k+1)));have c5:Chg (fun b=>b=M) W8 (W8.setCell ⟨M,3,U⟩ (I Z (k+1))):=Chg.t (F:=fun b=>b=M) (p:=⟨M,3,U⟩) (Chg.refl _ _) (wP V) _;have gT:=heap_set bq.o.m 3 (I Z (k+1));have c6:=bq.o.chgM (k':=k+1) (fl':=fe) c5 gT;have c7:=gO.o.set M 3 (I Z (k+1)) (by omega);have c8:=hL.o.b (jW (L:=L) c5);rw[←c3]at c6 c7 c8;obtain⟨m0,m1,m2,m3,m4,m5⟩:=cU bq.o.m;have fz:=aE bq.o.m;obtain⟨hP,ba,hQ,ha⟩:=zz4 c6 c7 c8 c3;obtain⟨h8,h9⟩:=hO;clear c5 gT c6 c7 c8 c3;go_upto_region 25 with fail
 change xV _ _ _ _ (W8.setCell ⟨M,3,U⟩ (I Z (k+1)));rw[←ha.o];clear ha fz m0 m1 m2 m3 m4 m5;have b7:=fU ba.o.2.2 (J nm) (I Z sal) (I Z vv) (A (Y ⟨g,0,U⟩) (f+1) cap) (A P H Q);have b8:St2 64 70 (bg d) (bD d) M L DT ts (af) (k+1) (fe) vT vR (hq) (s.c++[⟨1,j,args,.zero⟩]) (A (Y ⟨g,0,U⟩) (f+1) cap) s.d (A P H Q) (fun b=>D b∨am C w4 b) W9:=hP.o;have hK:∀b,b=w.heap.size+2→L≤b∧¬(fun b=>D b∨am C w4 b) b∧(A (Y ⟨g,0,U⟩) (f+1) cap).ownBlock≠Y b∧(A P H Q).ownBlock≠Y b:=fun b t=>by
  subst t;have:=hN.o;refine⟨by omega,hM.o _ (by omega) (Fj _),?_,?_⟩
  ·intro e;injection e with e;have e:g=_:=e;omega
  ·intro e;have:=cl.o _ e;omega
 have b9:=b8.z (W':=st5 W9 (w.heap.size+2) (J nm) (I Z sal) (I Z vv) (A (Y ⟨g,0,U⟩) (f+1) cap) (A P H Q)) (fun b=>b=w.heap.size+2) (by rw[gI];exact Fj _) (fun b _ hR=>ei _ _ _ _ _ b hR) hK;have ca:Chg (fun b=>b=M∨L≤b) w (st5 W9 (w.heap.size+2) (J nm) (I Z sal) (I Z vv) (A (Y ⟨g,0,U⟩) (f+1) cap) (A P H Q)):=hQ.o.b (fH _ _ (xj (by omega)) _ _ _ _ _);have HP:Hid (dN d M L DT ts nm sal vv f H vT vR fl (aC d ts s T) w (xv (wD #[J nm,I Z sal,I Z vv,A (Y ⟨g,0,U⟩) (f+1) cap,A P H Q])) (st5 W9 (w.heap.size+2) (J nm) (I Z sal) (I Z vv) (A (Y ⟨g,0,U⟩) (f+1) cap) (A P H Q))):=
  ⟨_,⟨af,s.c++[⟨1,j,args,.zero⟩],s.d⟩,k+1,_,_,_,_,V,ca,b9,by rw[ec.o];exact An _ _ V,hx.o,hy.o,by show (s.c++[_]).length≤_;rw[FC,bc.o];exact Fj _,by show s.d.length≤_;rw[hi.o];omega,sX HK.o (by simp) eo.o hv.o⟩
 have hc:=Hd b7;obtain⟨a0,a1,a2,a3,a4⟩:=cells5 ba.o.1;have c9:W9.heap[w.heap.size+1+1]?=Y (ur #[J ⟨#[]⟩,I Z 0,I Z 0,A U 0 0,A U 0 0] 50 (0,0)):=ba.o.2.2;have fz:=aE c9;obtain⟨r0,r1,r2,r3,r4⟩:=cells5 c9;clear b7 b8 hK b9 ca c9;go_wp2_with fail
 exact i6 Tryz.results51 _ _ (w.heap.size+1+1) _ _ _ _ _ hc.o _ V HP.o
theorem xU(d M L B:Nat)(DT:Nat→Prop)(ts:List ae)(s:RSt)(k:Int)(fl:Flt)(vT vR vV vC vA:vn)(D:Nat→Prop)(nm:ByteArray)(sal vv:Int)(T:ab)(p:Option Addr)(n c:Nat)(w:vk)
  (h:St2 64 70 (bg d) (bD d) M L DT ts s.b k fl vT vR vV s.c vC s.d vA D w) (hn:T.q.length=n) (gg:n≤20000) (gD:s.c.length≤20000) (_han:s.d.length≤20000) (c0:s.b.length≤17∧(fl.1=0→s.b.length≤16)) (c1:k=bG s.c) (hk:T.b=6) (gE:B≤M) (c3:aj w B (d+1) T.q (A p n c)) (c5:∀K∈T.q,(K.b=12∨K.b=13∨K.b=14∨K.b=15)∧K.f.size≤72007∧aK K=true) :
  wB wq 51 #[wF (Y ⟨M,0,U⟩),wD #[J nm,I Z sal,I Z vv,vC,vA],wD #[I O T.b,J T.f,I Z T.h,I Z T.t,A p n c]] w (dN d M L DT ts nm sal vv s.c.length s.d.length vT vR fl (aC d ts s T) w):=by
 obtain⟨pC,cC,c6⟩:=h.x.b;obtain⟨H,N,c7⟩:=h.y.b;obtain⟨f,b7⟩:=zzy (s.c.length);obtain⟨E,b8⟩:=zzy (s.d.length);rw[b7]at c6 gD ⊢;rw[b8]at c7 _han ⊢;subst c6;subst c7;obtain⟨w1,b9⟩:=zzx (((w.alloc (ur #[J nm,I Z sal,I Z vv,A pC f cC,A H E N] 50)).alloc (ur #[I O 6,J T.f,I Z T.h,I Z T.t,A p n c] 25)).alloc (ur #[J ⟨#[]⟩,I Z 0,I Z 0,A U 0 0,A U 0 0] 50));obtain⟨P,a6⟩:=fx.new w (ur #[J nm,I Z sal,I Z vv,A pC f cC,A H E N] 50 (0,0)) (ur #[I O 6,J T.f,I Z T.h,I Z T.t,A p n c] 25 (0,0)) (ur #[J ⟨#[]⟩,I Z 0,I Z 0,A U 0 0,A U 0 0] 50 (0,0));rw[←b9]at P a6;have hE:=h.lt;have hle:=h.le;have ca:=Hd (fun g (e:(A pC f cC).ownBlock=Y g)=>h.x.lt e);have cb:=Hd (fun g (e:(A H E N).ownBlock=Y g)=>h.y.lt e);obtain⟨c8,hG,HD,c9,cc,bk,da⟩:=zz7 h.xl h.yl h.d (h.u a6) a6 P b9;obtain⟨ch,gF,HV,gH,HK,HN⟩:=zz6 b7 b8 c0 c1 hk hn;obtain⟨a0,a1,a2,a3,a4⟩:=cells5 P.1;obtain⟨b0,b1,b2,b3,b4⟩:=cells5 P.2.1;have dc:Hid (wB wq 80 #[wF (Y ⟨M,0,U⟩),wD #[I O 6,J T.f,I Z T.h,I Z T.t,A p n c]] w1 (fun e w'=>∃fl' j,e=xv (I Z j)∧I64 j∧aD M ts s.b k vT vR vV w1 fl' w'∧Goes fl (bK ts T) fl' (fun i=>j=(i:Int)))):=by
  have:=lB c9.o.rm T p c (by rw[HN.o];omega);rw[HK.o,HN.o]at this;exact this
 obtain⟨gL,gM,HM⟩:=zz3 c3 c5 gE;clear c3 c5;rw[hk];clear h b9 P a6 b7 b8 c0 c1 hk hn
 go_enter Tryz.func51,Tryz.ntmps51
 go_upto_region 1 with fail
 change xV _ _ _ _ (((w.alloc (ur #[J nm,I Z sal,I Z vv,A pC f cC,A H E N] 50)).alloc (ur #[I O 6,J T.f,I Z T.h,I Z T.t,A p n c] 25)).alloc (ur #[J ⟨#[]⟩,I Z 0,I Z 0,A U 0 0,A U 0 0] 50));rw[←da.o];clear da;go_wp2_with fail
 refine dc.o.mono ?_;rintro e m ⟨dd,j,rfl,hj,t,bl⟩;obtain⟨dg,Q,dp,ds,HJ⟩:=zz5 (c9.o.call t) (bk.o.chg t.1 (fun b r=>by omega)) t bl hj;obtain⟨u,R⟩:=zzx (m.alloc (ur #[I O 2,I Z j,A U 0 0,I O 0,I O 0,I Z 0,J ⟨#[]⟩,I Z 0,I O 0,A U 0 0] 64));have ba:Gc m u:=by rw[R];exact (Fl _ m).alloc (Fj _) _
 have ck:=qv m (ur #[I O 2,I Z j,A U 0 0,I O 0,I O 0,I Z 0,J ⟨#[]⟩,I Z 0,I O 0,A U 0 0] 64);rw[←R]at ck;have S:u.heap.size=m.heap.size+1:=by rw[R,r9]
 have hI:=t.1.h;have hJ:=cc.o.size;have hL:=bk.o.lt;obtain⟨dv,W,bn,ea,eb,ec⟩:=zz6 ck (dg.o.u ba) (Q.o.u ba) ba S R;clear a0 a1 a2 a3 a4 b0 b1 b2 b3 b4 t bl hj ba ck S R dc;obtain⟨a0,a1,a2,a3,a4⟩:=cells5 Q.o.1;obtain⟨b0,b1,b2,b3,b4⟩:=cells5 Q.o.2.1;go_upto_region 10 with fail
 change xV _ _ _ _ (m.alloc (ur #[I O 2,I Z j,A U 0 0,I O 0,I O 0,I Z 0,J ⟨#[]⟩,I Z 0,I O 0,A U 0 0] 64));rw[←ec.o];clear ec a0 a1 a2 a3 a4 b0 b1 b2 b3 b4;obtain⟨b0,b1,b2,b3,b4⟩:=cells5 bn.o.2.1;have HA:Hid (wB wq 81 #[wF (Y ⟨M,0,U⟩),wD #[I O 6,J T.f,I Z T.h,I Z T.t,A p n c],xS false] u (mD M ts k vT vR D n dd (aG (bY false) (s.b,[]) T.q) u)):=by
  have:=qI D d M B ts s.b k vT vR vV dd false T (A p n c) u W.o.rm W.o.vv (fun b r=>⟨(W.o.d b r).2.1,fun e=>by have:=(W.o.d b r).1;omega⟩) HM.o (gL.o.u (by
   have h1:Below B w w1:=cc.o.mono (by omega);have h2:=eI dp.o.1 HM.o (by omega)
   exact (h1.trans h2).trans (ea.o.mono (by omega)))) (by rw[HN.o];exact gg) ⟨HV.o.1,fun h0=>HV.o.2 (iy ds.o h0)⟩ gM.o
  rw[HK.o,HN.o]at this;exact this
 go_wp2_with fail
 refine HA.o.mono ?_;rintro e w4 ⟨gN,X,gO,args,v,rfl,a,gS,l,bq,br,eg,ek,bt⟩;obtain⟨pv,cv,el⟩:=l.b;obtain⟨F,en⟩:=zzy (args.length);rw[en]at el;subst el;obtain⟨gT,eo,cl⟩:=zz3 (W.o.C a bt) (bn.o.chg a.1 (fun b r=>by omega)) (bv a.1 dv.o (Fi.1 dv.o).1 (fun e=>by omega));have hM:=a.1.h;have S:=eb.o;obtain⟨ha,hc,hd,hf,ep⟩:=zz5 a.1 br eg ek (l.C (G:=fun b=>D b∨am u w4 b) (fun b r=>xj r.1) (fun g hg=>xj ⟨bq g hg,l.lt hg⟩));obtain⟨W5,bb⟩:=zzx (w4.setCell ⟨m.heap.size,2,U⟩ (A pv F cv));have cq:¬(D m.heap.size∨am u w4 m.heap.size):=fun e=>by
  rcases e with e|e
  ·have:=(dg.o.d _ e).2.1;omega
  ·have:=e.1;omega
 have ad:=heap_set cl.o 2 (A pv F cv);have cr:=gT.o.set m.heap.size 2 (A pv F cv) (by omega) cq (fun e=>by have:=ca.o _ e;omega) (fun e=>by have:=cb.o _ e;omega);have ct:=eo.o.set m.heap.size 2 (A pv F cv) (by omega);have cu:Chg (fun b=>b=M∨L≤b) w4 (w4.setCell ⟨m.heap.size,2,U⟩ (A pv F cv)):=Chg.t (p:=⟨m.heap.size,2,U⟩) (Chg.refl _ _) (wP (xj (by show L≤m.heap.size;omega))) _;rw[←bb]at ad cr ct cu
 have af:gk.C W5 (fun b=>D b∨am u w4 b) args (A pv F cv):=Rd.f (fun b r o ho=>by
  rw[bb]
  exact (Fp w4 ⟨m.heap.size,2,U⟩ _ b (fun e=>cq (by have e:b=m.heap.size:=e;rw[←e];exact r))).trans ho) ep.o
 have ad:W5.heap[m.heap.size]?=Y (ur #[I O 2,I Z j,A pv F cv,I O 0,I O 0,I Z 0,J ⟨#[]⟩,I Z 0,I O 0,A U 0 0] 64 (0,0)):=ad;obtain⟨hh,bc,ak,hi,cx,er⟩:=zz6 ad cr ct cu af bb;have fz:=aE cl.o;obtain⟨y0,y1,y2,y3,y4,y5,y6,y7,y8,y9⟩:=cN cl.o;clear a br eg ek bt l bq en ad cr ct cu af bb cq b0 b1 b2 b3 b4 HA gS;go_upto_region 11 with fail
 change xV _ _ _ _ (w4.setCell ⟨m.heap.size,2,U⟩ (A pv F cv));rw[←er.o];clear er fz y0 y1 y2 y3 y4 y5 y6 y7 y8 y9;have hl:Hid ((bg d).at_ W5 (fun b=>D b∨am u w4 b) ⟨2,j,args,.zero⟩ [I O 2,I Z j,A pv F cv,I O 0,I O 0,I Z 0,J ⟨#[]⟩,I Z 0,I O 0,A U 0 0]):=ft.2 ⟨⟨by show (0:Int)≤2;decide,by show (2:Int)<256;decide⟩,HJ.o,qW,_,_,V,cx.o,oh⟩;have et:Hid (Chg (fun b=>b=M∨L≤b) w W5):=(((eu hle cc.o).b (jW dp.o.1)).b (eu (by omega) ea.o)).b ((jW ha.o).b hi.o);have hp:Hid (∀q,(fun b=>D b∨am u w4 b) q→q<w.heap.size∨w.heap.size+3≤q):=fun q e=>by
  rcases e with e|e
  ·exact wP (HD.o q e).2.1
  ·have:=e.1;exact xj (by omega)
 obtain⟨us,al,ev⟩:=bc.o.x;rw[ch.o,dP]at al;have C:Gc W5 (W5.alloc (ur #[I O 2,I Z j,A pv F cv,I O 0,I O 0,I Z 0,J ⟨#[]⟩,I Z 0,I O 0,A U 0 0] 64)):=(Fl _ W5).alloc (Fj _) _;obtain⟨hq,fe,fm,fp,hr,fv⟩:=zz6 (db al C) C (Rd.qv (fun b r o ho=>(C.block b (bc.o.d b r).2.1).trans ho) ev) (Rd.z _ (fun b r o ho=>(C.block b (bc.o.d b r).2.1).trans ho) hl.o) (bc.o.u C) (ak.o.u C);obtain⟨a0,a1,a2,a3,a4⟩:=cells5 ak.o.1;obtain⟨e0,e1,e2,e3,e4,e5,e6,e7,e8,e9⟩:=cN hh.o;clear al ev C;go_upto_region 25 with (at_builtin;go_must (refine fk i5 V (.tmp 54) (.tmp 56) V (p:=pC) (n:=f) (c:=cC) (z:=[I O 2,I Z j,A pv F cv,I O 0,I O 0,I Z 0,J ⟨#[]⟩,I Z 0,I O 0,A U 0 0]) V V hq.o (qv W5 _) V (by simp[Value.oneCell']) (by omega) ?_);intro g cap W7 hg hC aq;have ar:=fv.o.chg hC (fun b r=>by have:=ca.o _ r;omega);have fz:=aE ar.1;obtain⟨q0,q1,q2,q3,q4⟩:=cells5 ar.1)
 change xV _ _ _ _ (W7.setCell ⟨w.heap.size,3,U⟩ (A (Y ⟨g,0,U⟩) (f+1) cap));have fI:=hr.o.push (by decide) ch.o fm.o fp.o hg hC (by rw[dP];exact aq);have hA:=ar.lt;have hN:=fe.o.size;have hO:=hC.h;have hP:=et.o.h;have hs:L≤g∧(g<w.heap.size∨W5.heap.size≤g):=by
  rcases hg with e|e
  ·exact⟨c8.o g e,wP (ca.o g e)⟩
  ·exact⟨by omega,xj (by omega)⟩
 have hD:=ak.o.lt;have cR:∀q,w.heap.size≤q→q≤w.heap.size+2→¬(fun b=>D b∨am u w4 b) q:=fun q h1 h2 e=>by have:=hp.o q e;omega
 obtain⟨W8,bd⟩:=zzx (W7.setCell ⟨w.heap.size,3,U⟩ (A (Y ⟨g,0,U⟩) (f+1) cap));have cT:=(fI).set w.heap.size 3 (A (Y ⟨g,0,U⟩) (f+1) cap) (by omega) (cR _ (Fj _) (by omega)) (fun e=>by injection e with e;have e:g=_:=e;omega) (fun e=>by have:=cb.o _ e;omega)
 have cV:=ar.set0 3 (A (Y ⟨g,0,U⟩) (f+1) cap);rw[←bd]at cT cV;have fM:Chg (fun b=>b=M∨L≤b) w W8:=by
  rw[bd];exact Chg.t (p:=⟨w.heap.size,3,U⟩) ((et.o.b (eu (by omega) fe.o)).b (jG hC (fun b r=>by have:=c8.o b r;omega))) (wP (xj (by show L≤w.heap.size;omega))) _
 obtain⟨ht,av,hv,fT,hx,hy⟩:=zz6 cT cV fM bd cR hs;clear hg hC aq fI ar cT cV fM bd cR a0 a1 a2 a3 a4 e0 e1 e2 e3 e4 e5 e6 e7 e8 e9;rw[←fT.o];clear fT fz q0 q1 q2 q3 q4;have bB:=fU av.o.2.2 (J nm) (I Z sal) (I Z vv) (A (Y ⟨g,0,U⟩) (f+1) cap) (A H E N);have bR:St2 64 70 (bg d) (bD d) M L DT ts (X) (k) (gN) vT vR (gO) (s.c++[⟨2,j,args,.zero⟩]) (A (Y ⟨g,0,U⟩) (f+1) cap) s.d (A H E N) (fun b=>D b∨am u w4 b) W8:=ht.o;have hK:∀b,b=w.heap.size+2→L≤b∧¬(fun b=>D b∨am u w4 b) b∧(A (Y ⟨g,0,U⟩) (f+1) cap).ownBlock≠Y b∧(A H E N).ownBlock≠Y b:=fun b r=>by
  subst r;have:=hy.o;refine⟨by omega,hx.o _ (by omega) (Fj _),?_,?_⟩
  ·intro e;injection e with e;have e:g=_:=e;omega
  ·intro e;have:=cb.o _ e;omega
 have b5:=bR.z (W':=st5 W8 (w.heap.size+2) (J nm) (I Z sal) (I Z vv) (A (Y ⟨g,0,U⟩) (f+1) cap) (A H E N)) (fun b=>b=w.heap.size+2) (by rw[gI];exact Fj _) (fun b _ hz=>ei _ _ _ _ _ b hz) hK;have b6:Chg (fun b=>b=M∨L≤b) w (st5 W8 (w.heap.size+2) (J nm) (I Z sal) (I Z vv) (A (Y ⟨g,0,U⟩) (f+1) cap) (A H E N)):=hv.o.b (fH _ _ (xj (by omega)) _ _ _ _ _);have HP:Hid (dN d M L DT ts nm sal vv f E vT vR fl (aC d ts s T) w (xv (wD #[J nm,I Z sal,I Z vv,A (Y ⟨g,0,U⟩) (f+1) cap,A H E N])) (st5 W8 (w.heap.size+2) (J nm) (I Z sal) (I Z vv) (A (Y ⟨g,0,U⟩) (f+1) cap) (A H E N))):=
  ⟨_,⟨X,s.c++[⟨2,j,args,.zero⟩],s.d⟩,k,_,_,_,_,V,b6,b5,by rw[gH.o];exact qQ _ _ (by show ¬((2:Int)==1)=true;decide),hd.o,hf.o,by show (s.c++[_]).length≤_;rw[FC,ch.o];exact Fj _,by show s.d.length≤_;rw[gF.o];omega,sX HK.o (by simp) ds.o hc.o⟩
 have gf:=Hd bB;obtain⟨a0,a1,a2,a3,a4⟩:=cells5 av.o.1;have cW:W8.heap[w.heap.size+1+1]?=Y (ur #[J ⟨#[]⟩,I Z 0,I Z 0,A U 0 0,A U 0 0] 50 (0,0)):=av.o.2.2;have fz:=aE cW;obtain⟨r0,r1,r2,r3,r4⟩:=cells5 cW;clear bB bR hK b5 b6 cW;go_wp2_with fail
 exact i6 Tryz.results51 _ _ (w.heap.size+1+1) _ _ _ _ _ gf.o _ V HP.o
