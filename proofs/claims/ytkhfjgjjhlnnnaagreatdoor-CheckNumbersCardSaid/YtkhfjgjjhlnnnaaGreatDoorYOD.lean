/- Parts of one proof, joined; conditions stand in each theorem. -/
import Derived.Test.YtkhfjgjjhlnnnaaGreatDoorYOC
open Except renaming error→BT,ok→AF
open Go renaming Value→wF,World→wD,Calls→xL
open Go.Ending renaming returned→z8
open Go.Value renaming agg→xS,string→J,int→I,pointer→xV,slice→A,bool→AJ
open Go.IntKind renaming i64→Z,u8→O
open Option renaming some→Y,none→U
open Go.Obj renaming cells→wq
open Go.Proofs.Tryz renaming prog→xD
open Or renaming inl→z6,inr→z7
open Go.Code renaming wp→AR
namespace Go.Proofs.YtkhfjgjjhlnnnaaGreatDoor
set_option maxHeartbeats 8000000
set_option maxRecDepth 100000
open Go.RowKit
theorem iD{σ:Type}{fl fl':Flt}{r:Except Flt σ}{P:σ→Prop}(h:Goes fl r fl' P)(b:fl'.1=0):fl.1=0:=by
 by_cases a:fl.1=0
 ·exact a
 ·have e:=h.1 a;rw[e]at b;exact absurd b a
theorem sZ{binds:Bool}{c:Int}{l:Nat}{d:Nat}{ts:List ae}{s:RSt}{T:ab}{fl f g:Flt}{j:Int}{vars':List ByteArray}{args:List dw}(t:T.b=l)(u:(l=5∧binds=true∧c=1)∨(l=6∧binds=false∧c=2))
  (a:Goes fl (bI ts T) f (fun i=>j=(i:Int))) (b:Goes f (aG (bU binds) (s.b,[]) T.u) g (fun r=>(vars',args)=r)):Goes fl (aC d ts s T) g (fun v=>(⟨vars',s.c++[⟨c,j,args,.zero⟩],s.d⟩:RSt)=v):=by
 have e:aC d ts s T=match (generalizing:=false) bI ts T with
  | .error e=>BT e
  | .ok k=>match (generalizing:=false) aG (bU binds) (s.b,[]) T.u with
   | .error e=>BT e
   | .ok r=>AF ⟨r.1,s.c++[⟨c,k,r.2,.zero⟩],s.d⟩:=by
  unfold aC;rcases u with ⟨rfl,rfl,rfl⟩|⟨rfl,rfl,rfl⟩<;>rw[t]<;>rfl
 rw[e];refine⟨fun h=>?_,fun h=>?_⟩
 ·have m:=a.1 h;rw[m]at b;exact b.1 h
 ·have a:=a.2 h
  cases n:bI ts T with
  | error er =>
   rw[n]at a;have a:f=er:=a;subst a;exact b.1 (md ts T _ n)
  | ok y =>
   rw[n]at a;obtain⟨m,o⟩:=a;have o:j=(y:Int):=o;subst m;subst o;have b:=b.2 h
   cases q:aG (bU binds) (s.b,[]) T.u with
   | error er =>
    rw[q]at b;exact b
   | ok r =>
    rw[q]at b;obtain⟨w,p⟩:=b;have p:(vars',args)=r:=p;subst p;exact⟨w,V⟩
theorem zg{d:Nat}{ts:List ae}{s:RSt}{T K:ab}{rest:List ab}{fl b:Flt}{E:aw}(g:T.b=7)(i:T.u=K::rest)(a:Goes fl (aB s.b d K) b (fun y=>E=y)):Goes fl (aC d ts s T) b (fun j=>(⟨s.b,s.c++[⟨3,0,[],E⟩],s.d⟩:RSt)=j):=by
 have e:aC d ts s T=match (generalizing:=false) aB s.b d K with
  | .error e=>BT e
  | .ok x=>AF ⟨s.b,s.c++[⟨3,0,[],x⟩],s.d⟩:=by
  unfold aC;rw[g,i];rfl
 rw[e];refine⟨a.1,fun h=>?_⟩;have a:=a.2 h
 cases f:aB s.b d K with
 | error er =>
  rw[f]at a;exact a
 | ok r =>
  rw[f]at a;obtain⟨k,c⟩:=a;have c:E=r:=c;subst c;exact⟨k,V⟩
theorem vG{d:Nat}{ts:List ae}{s:RSt}{T:ab}{fl c f:Flt}{j:Int}{es:List aw}(p:T.b=8)(a:Goes fl (bI ts T) c (fun i=>j=(i:Int)))(b:Goes c (bz (aB s.b d) T.u) f (fun ys=>es=ys)):Goes fl (aC d ts s T) f (fun q=>(⟨s.b,s.c,s.d++[⟨1,j,0,es⟩]⟩:RSt)=q):=by
 have e:aC d ts s T=match (generalizing:=false) bI ts T with
  | .error e=>BT e
  | .ok k=>match (generalizing:=false) bz (aB s.b d) T.u with
   | .error e=>BT e
   | .ok xs=>AF ⟨s.b,s.c,s.d++[⟨1,k,0,xs⟩]⟩:=by
  unfold aC;rw[p];rfl
 rw[e];refine⟨fun h=>?_,fun h=>?_⟩
 ·have g:=a.1 h;rw[g]at b;exact b.1 h
 ·have a:=a.2 h
  cases l:bI ts T with
  | error er =>
   rw[l]at a;have a:c=er:=a;subst a;exact b.1 (md ts T _ l)
  | ok y =>
   rw[l]at a;obtain⟨g,m⟩:=a;have m:j=(y:Int):=m;subst g;subst m;have b:=b.2 h
   cases o:bz (aB s.b d) T.u with
   | error er =>
    rw[o]at b;exact b
   | ok r =>
    rw[o]at b;obtain⟨t,n⟩:=b;have n:es=r:=n;subst n;exact⟨t,V⟩
theorem vm{d:Nat}{ts:List ae}{s:RSt}{T:ab}{fl:Flt}{k:Int}(c:T.b=9)(f:k=bE s.c):Goes fl (aC d ts s T) (az fl (decide (T.h<1)||decide (k<T.h)) 214 T.y) (fun g=>(⟨s.b,s.c,s.d++[⟨2,0,T.h-1,[]⟩]⟩:RSt)=g):=by
 have e:aC d ts s T=if T.h<1||(bE s.c:Int)<T.h then BT (214,T.y) else AF ⟨s.b,s.c,s.d++[⟨2,0,T.h-1,[]⟩]⟩:=by
  unfold aC;rw[c];rfl
 rw[e,←f];obtain⟨b,i⟩:=fl;unfold Goes az;refine⟨fun h=>?_,fun h=>?_⟩
 ·have h:¬b=0:=h;simp[h]
 ·have h:b=0:=h;subst h
  by_cases a:(decide (T.h<1)||decide (k<T.h))=true
  ·rw[rv a,a];rfl
  ·rw[qv a,Bool.eq_false_iff.2 a];exact⟨V,V⟩
theorem BN{d:Nat}{ts:List ae}{s:RSt}{T:ab}{fl b:Flt}{es:List aw}(g:T.b=10)(a:Goes fl (bz (aB s.b d) T.u) b (fun ys=>es=ys)):Goes fl (aC d ts s T) b (fun i=>(⟨s.b,s.c,s.d++[⟨3,0,0,es⟩]⟩:RSt)=i):=by
 have e:aC d ts s T=match (generalizing:=false) bz (aB s.b d) T.u with
   | .error e=>BT e
   | .ok xs=>AF ⟨s.b,s.c,s.d++[⟨3,0,0,xs⟩]⟩:=by
  unfold aC;rw[g];rfl
 rw[e];refine⟨a.1,fun h=>?_⟩;have a:=a.2 h
 cases f:bz (aB s.b d) T.u with
 | error er =>
  rw[f]at a;exact a
 | ok r =>
  rw[f]at a;obtain⟨j,c⟩:=a;have c:es=r:=c;subst c;exact⟨j,V⟩
theorem zc{d:Nat}{ts:List ae}{s:RSt}{T:ab}{fl:Flt}(a:T.b=11):Goes fl (aC d ts s T) fl (fun b=>(⟨s.b,s.c,s.d++[⟨4,0,0,[]⟩]⟩:RSt)=b):=by
 refine fO (y:=⟨s.b,s.c,s.d++[⟨4,0,0,[]⟩]⟩) ?_ V;unfold aC;rw[a];rfl
def dO(d M L:Nat) (DT:Nat→Prop) (ts:List ae) (nm:ByteArray) (sal vv:Int) (h i:Nat) (vT vR:wF) (fl:Flt) (r:Except Flt RSt) (w:wD) (e:Ending) (w':wD):Prop:=
 ∃(fl':Flt) (a:RSt) (k':Int) (g c f:wF) (D':Nat→Prop),e=z8 (xS #[J nm,I Z sal,I Z vv,c,f])∧Chg (fun b=>b=M∨L≤b) w w'∧St2 64 70 (bf d) (bA d) M L DT ts a.b k' fl' vT vR g a.c c a.d f D' w'∧k'=bE a.c∧a.b.length≤17∧(fl'.1=0→a.b.length≤16)∧a.c.length≤h+1∧a.d.length≤i+1∧Goes fl r fl' (fun y=>a=y)
def fA(S:Nat) (a b x2:Obj) (W:wD):Prop:=W.heap[S]?=Y a∧W.heap[S+1]?=Y b∧W.heap[S+2]?=Y x2
theorem fA.new(w:wD)(a b x2:Obj):fA w.heap.size a b x2 (((w.alloc a).alloc b).alloc x2)∧FK w (((w.alloc a).alloc b).alloc x2):=by
 refine⟨⟨?_,?_,?_⟩,(((EP _ w).alloc (EO _) _).alloc (by simp) _).alloc (by simp;omega) _⟩
 ·have:=p9 w a;have c:=aa ((EP (w.alloc a).heap.size (w.alloc a)).alloc (EO _) b) this (by simp);exact aa ((EP ((w.alloc a).alloc b).heap.size ((w.alloc a).alloc b)).alloc (EO _) x2) c (by simp;omega)
 ·have:=p9 (w.alloc a) b;rw[r9]at this;exact aa ((EP ((w.alloc a).alloc b).heap.size ((w.alloc a).alloc b)).alloc (EO _) x2) this (by simp)
 ·have:=p9 ((w.alloc a).alloc b) x2;rw[r9,r9]at this;exact this
theorem fA.lt{S:Nat}{a b x2:Obj}{W:wD}(h:fA S a b x2 W):S+2<W.heap.size:=(EN.1 h.2.2).1
theorem fA.z{S:Nat}{b c x2:Obj}{W W':wD}(h:fA S b c x2 W)(a:FK W W'):fA S b c x2 W':=by
 have:=h.lt;exact⟨aa a h.1 (by omega),aa a h.2.1 (by omega),aa a h.2.2 (by omega)⟩
theorem fA.chg{S:Nat}{c d x2:Obj}{F:Nat→Prop}{W W':wD}(h:fA S c d x2 W)(a:Chg F W W')(hF:∀b,F b→b<S):fA S c d x2 W':=by
 have:=h.lt;exact⟨(a.u S (by omega) (fun e=>by have:=hF _ e;omega)).trans h.1,(a.u (S+1) (by omega) (fun e=>by have:=hF _ e;omega)).trans h.2.1,(a.u (S+2) (by omega) (fun e=>by have:=hF _ e;omega)).trans h.2.2⟩
theorem fA.set{S:Nat}{a b x2:Obj}{W:wD}(h:fA S a b x2 W)(g i:Nat)(u:wF)(c:g<S∨S+2<g):fA S a b x2 (W.setCell ⟨g,i,U⟩ u):=
 ⟨(ER W ⟨g,i,U⟩ u S (by show S≠g;omega)).trans h.1,(ER W ⟨g,i,U⟩ u (S+1) (by show S+1≠g;omega)).trans h.2.1,(ER W ⟨g,i,U⟩ u (S+2) (by show S+2≠g;omega)).trans h.2.2⟩
theorem fA.set0{S:Nat}{cs:Array wF}{t:TypeId}{a x2:Obj}{W:wD}(h:fA S (wq cs t (0,0)) a x2 W)(i:Nat)(u:wF):fA S (wq (cs.setIfInBounds i u) t (0,0)) a x2 (W.setCell ⟨S,i,U⟩ u):=
 ⟨heap_set h.1 i u,(ER W ⟨S,i,U⟩ u (S+1) (by show S+1≠S;omega)).trans h.2.1,(ER W ⟨S,i,U⟩ u (S+2) (by show S+2≠S;omega)).trans h.2.2⟩
theorem i9{fn:Func}(h:fn.results=#[.cell 6 50])(W:wD)(g:Ending→wD→Prop)(T:Nat)(a b c d e:wF)(i:W.heap[T]?=Y (wq #[a,b,c,d,e] 50 (0,0)))
  (tmps:Array wF) (j:tmps.getD 6 undef=xV (Y ⟨T,0,U⟩)) (k:g (z8 (xS #[a,b,c,d,e])) W):bodyPost xD fn g .ret ⟨tmps,[]⟩ W:=by
 obtain⟨l,m,c2,n,c4⟩:=cells5 i;have f:tmps[6]?.getD undef=xV (Y ⟨T,0,U⟩):=by simpa using j
 refine bodyPost_ret (v:=xS #[a,b,c,d,e]) ?_ V k;simp[results,h,go_sem,f,l,m,c2,n,c4]
theorem om(c:Int)(a:0≤c)(b:c<256):U8 c:=⟨a,b⟩
theorem je:I64 0:=⟨by decide,by decide⟩
theorem rb:ga aw.zero:=⟨⟨by decide,by decide⟩,jk,⟨by decide,by decide⟩,⟨by decide,by decide⟩⟩
theorem j0{M L:Nat}{w w':wD}(h:Chg (fun b=>b=M) w w'):Chg (fun b=>b=M∨L≤b) w w':=⟨h.os,h.a,h.c,h.h,fun b a c=>h.u b a (fun e=>c (z6 e))⟩
theorem eu{M L:Nat}{w w':wD}(_hL:L≤w.heap.size)(h:FK w w'):Chg (fun b=>b=M∨L≤b) w w':=Chg.f h
theorem jJ{M L:Nat}{v:wF}{w w':wD}(h:Chg (fun b=>v.ownBlock=Y b) w w')(a:∀b,v.ownBlock=Y b→L≤b):Chg (fun b=>b=M∨L≤b) w w':=⟨h.os,h.a,h.c,h.h,fun b c d=>h.u b c (fun e=>d (z7 (a b e)))⟩
theorem Af(l:List aW)(c:aW)(h:c.b=1):((bE l:Nat):Int)+1=bE (l++[c]):=by
 unfold bE;rw[List.filter_append,Fc,List.filter_cons,rv (by rw[h];rfl)];rfl
theorem qV(l:List aW)(c:aW)(h:¬(c.b==1)=true):((bE l:Nat):Int)=bE (l++[c]):=by
 unfold bE;rw[List.filter_append,Fc,List.filter_cons,qv h];rfl
theorem wL(d M L B:Nat)(DT:Nat→Prop)(ts:List ae)(s:RSt)(k:Int)(fl:Flt)(vT vR vV vC vA:wF)(D:Nat→Prop)(nm:ByteArray)(sal vv:Int)(T:ab)(p:Option Addr)(n c:Nat)(w:wD)
  (h:St2 64 70 (bf d) (bA d) M L DT ts s.b k fl vT vR vV s.c vC s.d vA D w) (hn:T.u.length=n) (hd:n≤20000) (hf:s.c.length≤20000) (_han:s.d.length≤20000) (da:s.b.length≤17∧(fl.1=0→s.b.length≤16)) (dc:k=bE s.c) (hk:T.b=5) (hh:B≤M) (dd:ao w B (d+1) T.u (A p n c)) (dg:∀K∈T.u,(K.b=12∨K.b=13∨K.b=14∨K.b=15)∧K.f.size≤72007∧aI K=true) :
  xL xD 51 #[xV (Y ⟨M,0,U⟩),xS #[J nm,I Z sal,I Z vv,vC,vA],xS #[I O T.b,J T.f,I Z T.h,I Z T.y,A p n c]] w (dO d M L DT ts nm sal vv s.c.length s.d.length vT vR fl (aC d ts s T) w):=by
 obtain⟨pC,cC,dp⟩:=h.x.b;obtain⟨P,Q,ds⟩:=h.y.b;obtain⟨f,cb⟩:=zzy (s.c.length);obtain⟨H,cc⟩:=zzy (s.d.length);rw[cb]at dp hf ⊢;rw[cc]at ds _han ⊢;subst dp;subst ds;obtain⟨w1,ch⟩:=zzx (((w.alloc (wq #[J nm,I Z sal,I Z vv,A pC f cC,A P H Q] 50)).alloc (wq #[I O 5,J T.f,I Z T.h,I Z T.y,A p n c] 25)).alloc (wq #[J ⟨#[]⟩,I Z 0,I Z 0,A U 0 0,A U 0 0] 50));obtain⟨R,bb⟩:=fA.new w (wq #[J nm,I Z sal,I Z vv,A pC f cC,A P H Q] 50 (0,0)) (wq #[I O 5,J T.f,I Z T.h,I Z T.y,A p n c] 25 (0,0)) (wq #[J ⟨#[]⟩,I Z 0,I Z 0,A U 0 0,A U 0 0] 50 (0,0));rw[←ch]at R bb;have hV:=h.lt;have hle:=h.le;have ck:=Hd (fun g (e:(A pC f cC).ownBlock=Y g)=>h.x.lt e);have cl:=Hd (fun g (e:(A P H Q).ownBlock=Y g)=>h.y.lt e);obtain⟨dv,hW,HD,ea,cq,br,eb⟩:=zz7 h.xl h.yl h.d (h.z bb) bb R ch;obtain⟨bc,hi,HV,ec,HK,HN⟩:=zz6 cb cc da dc hk hn;obtain⟨a0,a1,a2,a3,a4⟩:=cells5 R.1;obtain⟨b0,b1,b2,b3,b4⟩:=cells5 R.2.1;have eg:Hid (xL xD 80 #[xV (Y ⟨M,0,U⟩),xS #[I O 5,J T.f,I Z T.h,I Z T.y,A p n c]] w1 (fun e w'=>∃fl' j,e=z8 (I Z j)∧I64 j∧aD M ts s.b k vT vR vV w1 fl' w'∧Goes fl (bI ts T) fl' (fun i=>j=(i:Int)))):=by
  have:=lH ea.o.rm T p c (by rw[HN.o];omega);rw[HK.o,HN.o]at this;exact this
 obtain⟨hl,hp,HM⟩:=zz3 dd dg hh;clear dd dg;rw[hk];clear h ch R bb cb cc da dc hk hn
 go_enter Tryz.func51,Tryz.ntmps51
 go_upto_region 1 with fail
 change AR _ _ _ _ (((w.alloc (wq #[J nm,I Z sal,I Z vv,A pC f cC,A P H Q] 50)).alloc (wq #[I O 5,J T.f,I Z T.h,I Z T.y,A p n c] 25)).alloc (wq #[J ⟨#[]⟩,I Z 0,I Z 0,A U 0 0,A U 0 0] 50));rw[←eb.o];clear eb;go_wp2_with fail
 refine eg.o.mono ?_;rintro e r ⟨ek,j,rfl,hj,u,bt⟩;obtain⟨el,S,en,eo,HJ⟩:=zz5 (ea.o.call u) (br.o.chg u.1 (fun b t=>by omega)) u bt hj;obtain⟨C,W⟩:=zzx (r.alloc (wq #[I O 1,I Z j,A U 0 0,I O 0,I O 0,I Z 0,J ⟨#[]⟩,I Z 0,I O 0,A U 0 0] 64));have bd:FK r C:=by rw[W];exact (EP _ r).alloc (EO _) _
 have cr:=p9 r (wq #[I O 1,I Z j,A U 0 0,I O 0,I O 0,I Z 0,J ⟨#[]⟩,I Z 0,I O 0,A U 0 0] 64);rw[←W]at cr;have X:C.heap.size=r.heap.size+1:=by rw[W,r9]
 have hX:=u.1.h;have hY:=cq.o.size;have h3:=br.o.lt;obtain⟨ep,ad,bB,er,et,ev⟩:=zz6 cr (el.o.z bd) (S.o.z bd) bd X W;clear a0 a1 a2 a3 a4 b0 b1 b2 b3 b4 u bt hj bd cr X W eg;obtain⟨a0,a1,a2,a3,a4⟩:=cells5 S.o.1;obtain⟨b0,b1,b2,b3,b4⟩:=cells5 S.o.2.1;go_upto_region 5 with fail
 change AR _ _ _ _ (r.alloc (wq #[I O 1,I Z j,A U 0 0,I O 0,I O 0,I Z 0,J ⟨#[]⟩,I Z 0,I O 0,A U 0 0] 64));rw[←ev.o];clear ev a0 a1 a2 a3 a4 b0 b1 b2 b3 b4;obtain⟨b0,b1,b2,b3,b4⟩:=cells5 bB.o.2.1;have HA:Hid (xL xD 81 #[xV (Y ⟨M,0,U⟩),xS #[I O 5,J T.f,I Z T.h,I Z T.y,A p n c],AJ true] C (mH M ts k vT vR D n ek (aG (bU true) (s.b,[]) T.u) C)):=by
  have:=qN D d M B ts s.b k vT vR vV ek true T (A p n c) C ad.o.rm ad.o.vv (fun b t=>⟨(ad.o.d b t).2.1,fun e=>by have:=(ad.o.d b t).1;omega⟩) HM.o (hl.o.z (by
   have h1:Below B w w1:=cq.o.mono (by omega);have h2:=eI en.o.1 HM.o (by omega)
   exact (h1.trans h2).trans (er.o.mono (by omega)))) (by rw[HN.o];exact hd) ⟨HV.o.1,fun h0=>HV.o.2 (iD eo.o h0)⟩ hp.o
  rw[HK.o,HN.o]at this;exact this
 go_wp2_with fail
 refine HA.o.mono ?_;rintro e w4 ⟨fe,af,hq,args,v,rfl,a,hr,l,bR,b5,fm,fp,b6⟩;obtain⟨pv,cv,fv⟩:=l.b;obtain⟨N,fI⟩:=zzy (args.length);rw[fI]at fv;subst fv;obtain⟨hs,fM,ct⟩:=zz3 (ad.o.N a b6) (bB.o.chg a.1 (fun b t=>by omega)) (bu a.1 ep.o (EN.1 ep.o).1 (fun e=>by omega));have h4:=a.1.h;have X:=et.o;obtain⟨ht,hv,hx,hy,fT⟩:=zz5 a.1 b5 fm fp (l.K (G:=fun b=>D b∨ai C w4 b) (fun b t=>z7 t.1) (fun g hg=>z7 ⟨bR g hg,l.lt hg⟩));obtain⟨W5,bk⟩:=zzx (w4.setCell ⟨r.heap.size,2,U⟩ (A pv N cv));have cu:¬(D r.heap.size∨ai C w4 r.heap.size):=fun e=>by
  rcases e with e|e
  ·have:=(el.o.d _ e).2.1;omega
  ·have:=e.1;omega
 have ak:=heap_set ct.o 2 (A pv N cv);have cx:=hs.o.set r.heap.size 2 (A pv N cv) (by omega) cu (fun e=>by have:=ck.o _ e;omega) (fun e=>by have:=cl.o _ e;omega);have cR:=fM.o.set r.heap.size 2 (A pv N cv) (by omega);have cT:Chg (fun b=>b=M∨L≤b) w4 (w4.setCell ⟨r.heap.size,2,U⟩ (A pv N cv)):=Chg.y (p:=⟨r.heap.size,2,U⟩) (Chg.refl _ _) (z6 (z7 (by show L≤r.heap.size;omega))) _;rw[←bk]at ak cx cR cT
 have al:gn.K W5 (fun b=>D b∨ai C w4 b) args (A pv N cv):=Rd.f (fun b t o ho=>by
  rw[bk]
  exact (ER w4 ⟨r.heap.size,2,U⟩ _ b (fun e=>cu (by have e:b=r.heap.size:=e;rw[←e];exact t))).trans ho) fT.o
 have ak:W5.heap[r.heap.size]?=Y (wq #[I O 1,I Z j,A pv N cv,I O 0,I O 0,I Z 0,J ⟨#[]⟩,I Z 0,I O 0,A U 0 0] 64 (0,0)):=ak;obtain⟨hz,bl,aq,hA,cV,gf⟩:=zz6 ak cx cR cT al bk;have fz:=aE ct.o;obtain⟨y0,y1,y2,y3,y4,y5,y6,y7,y8,y9⟩:=cL ct.o;clear a b5 fm fp b6 l bR fI ak cx cR cT al bk cu b0 b1 b2 b3 b4 HA hr;go_upto_region 6 with fail
 change AR _ _ _ _ (w4.setCell ⟨r.heap.size,2,U⟩ (A pv N cv));rw[←gf.o];clear gf fz y0 y1 y2 y3 y4 y5 y6 y7 y8 y9;have hD:Hid ((bf d).at_ W5 (fun b=>D b∨ai C w4 b) ⟨1,j,args,.zero⟩ [I O 1,I Z j,A pv N cv,I O 0,I O 0,I Z 0,J ⟨#[]⟩,I Z 0,I O 0,A U 0 0]):=fw.2 ⟨⟨by show (0:Int)≤1;decide,by show (1:Int)<256;decide⟩,HJ.o,rb,_,_,V,cV.o,ou⟩;have gg:Hid (Chg (fun b=>b=M∨L≤b) w W5):=(((eu hle cq.o).b (j0 en.o.1)).b (eu (by omega) er.o)).b ((j0 ht.o).b hA.o);have hE:Hid (∀q,(fun b=>D b∨ai C w4 b) q→q<w.heap.size∨w.heap.size+3≤q):=fun q e=>by
  rcases e with e|e
  ·exact z6 (HD.o q e).2.1
  ·have:=e.1;exact z7 (by omega)
 obtain⟨us,ar,gD⟩:=bl.o.x;rw[bc.o,dP]at ar;have E:FK W5 (W5.alloc (wq #[I O 1,I Z j,A pv N cv,I O 0,I O 0,I Z 0,J ⟨#[]⟩,I Z 0,I O 0,A U 0 0] 64)):=(EP _ W5).alloc (EO _) _;obtain⟨hG,gE,gF,gH,hI,gL⟩:=zz6 (cY ar E) E (Rd.vk (fun b t o ho=>(E.block b (bl.o.d b t).2.1).trans ho) gD) (Rd.C _ (fun b t o ho=>(E.block b (bl.o.d b t).2.1).trans ho) hD.o) (bl.o.z E) (aq.o.z E);obtain⟨a0,a1,a2,a3,a4⟩:=cells5 aq.o.1;obtain⟨e0,e1,e2,e3,e4,e5,e6,e7,e8,e9⟩:=cL hz.o;clear ar gD E;go_upto_region 7 with (at_builtin;go_must (refine dU i8 V (.tmp 31) (.tmp 33) V (p:=pC) (n:=f) (c:=cC) (z:=[I O 1,I Z j,A pv N cv,I O 0,I O 0,I Z 0,J ⟨#[]⟩,I Z 0,I O 0,A U 0 0]) V V hG.o (p9 W5 _) V (by simp[Value.oneCell']) (by omega) ?_);intro g cap W7 hg hC av;have a6:=gL.o.chg hC (fun b t=>by have:=ck.o _ t;omega);have fz:=aE a6.1;obtain⟨q0,q1,q2,q3,q4⟩:=cells5 a6.1)
 change AR _ _ _ _ (W7.setCell ⟨w.heap.size,3,U⟩ (A (Y ⟨g,0,U⟩) (f+1) cap));have gM:=hI.o.push (by decide) bc.o gF.o gH.o hg hC (by rw[dP];exact av);have hS:=a6.lt;have h5:=gE.o.size;have h6:=hC.h;have h7:=gg.o.h;have hJ:L≤g∧(g<w.heap.size∨W5.heap.size≤g):=by
  rcases hg with e|e
  ·exact⟨dv.o g e,z6 (ck.o g e)⟩
  ·exact⟨by omega,z7 (by omega)⟩
 have hT:=aq.o.lt;have cW:∀q,w.heap.size≤q→q≤w.heap.size+2→¬(fun b=>D b∨ai C w4 b) q:=fun q h1 h2 e=>by have:=hE.o q e;omega
 obtain⟨W8,bn⟩:=zzx (W7.setCell ⟨w.heap.size,3,U⟩ (A (Y ⟨g,0,U⟩) (f+1) cap));have c0:=(gM).set w.heap.size 3 (A (Y ⟨g,0,U⟩) (f+1) cap) (by omega) (cW _ (EO _) (by omega)) (fun e=>by injection e with e;have e:g=_:=e;omega) (fun e=>by have:=cl.o _ e;omega)
 have c1:=a6.set0 3 (A (Y ⟨g,0,U⟩) (f+1) cap);rw[←bn]at c0 c1;have gN:Chg (fun b=>b=M∨L≤b) w W8:=by
  rw[bn];exact Chg.y (p:=⟨w.heap.size,3,U⟩) ((gg.o.b (eu (by omega) gE.o)).b (jJ hC (fun b t=>by have:=dv.o b t;omega))) (z6 (z7 (by show L≤w.heap.size;omega))) _
 obtain⟨bq,gO,hL,gS,hM,hN⟩:=zz6 c0 c1 gN bn cW hJ;clear hg hC av gM a6 c0 c1 gN bn cW a0 a1 a2 a3 a4 e0 e1 e2 e3 e4 e5 e6 e7 e8 e9;rw[←gS.o];clear gS fz q0 q1 q2 q3 q4;have hO:0≤k∧k≤20000:=by
  have h1:=ec.o;have h2:bE s.c≤s.c.length:=List.length_filter_le _ _;rw[bc.o]at h2;omega
 obtain⟨W9,c3⟩:=zzx (W8.setCell ⟨M,3,U⟩ (I Z (k+1)));have c5:Chg (fun b=>b=M) W8 (W8.setCell ⟨M,3,U⟩ (I Z (k+1))):=Chg.y (F:=fun b=>b=M) (p:=⟨M,3,U⟩) (Chg.refl _ _) (z6 V) _;have gT:=heap_set bq.o.m 3 (I Z (k+1));have c6:=bq.o.chgM (k':=k+1) (fl':=fe) c5 gT;have c7:=gO.o.set M 3 (I Z (k+1)) (by omega);have c8:=hL.o.b (j0 (L:=L) c5);rw[←c3]at c6 c7 c8;obtain⟨m0,m1,m2,m3,m4,m5⟩:=cQ bq.o.m;have fz:=aE bq.o.m;obtain⟨hP,ba,hQ,ha⟩:=zz4 c6 c7 c8 c3;obtain⟨h8,h9⟩:=hO;clear c5 gT c6 c7 c8 c3;go_upto_region 25 with fail
 change AR _ _ _ _ (W8.setCell ⟨M,3,U⟩ (I Z (k+1)));rw[←ha.o];clear ha fz m0 m1 m2 m3 m4 m5;have b7:=fX ba.o.2.2 (J nm) (I Z sal) (I Z vv) (A (Y ⟨g,0,U⟩) (f+1) cap) (A P H Q);have b8:St2 64 70 (bf d) (bA d) M L DT ts (af) (k+1) (fe) vT vR (hq) (s.c++[⟨1,j,args,.zero⟩]) (A (Y ⟨g,0,U⟩) (f+1) cap) s.d (A P H Q) (fun b=>D b∨ai C w4 b) W9:=hP.o;have hK:∀b,b=w.heap.size+2→L≤b∧¬(fun b=>D b∨ai C w4 b) b∧(A (Y ⟨g,0,U⟩) (f+1) cap).ownBlock≠Y b∧(A P H Q).ownBlock≠Y b:=fun b t=>by
  subst t;have:=hN.o;refine⟨by omega,hM.o _ (by omega) (EO _),?_,?_⟩
  ·intro e;injection e with e;have e:g=_:=e;omega
  ·intro e;have:=cl.o _ e;omega
 have b9:=b8.C (W':=st5 W9 (w.heap.size+2) (J nm) (I Z sal) (I Z vv) (A (Y ⟨g,0,U⟩) (f+1) cap) (A P H Q)) (fun b=>b=w.heap.size+2) (by rw[gJ];exact EO _) (fun b _ hR=>eh _ _ _ _ _ b hR) hK;have ca:Chg (fun b=>b=M∨L≤b) w (st5 W9 (w.heap.size+2) (J nm) (I Z sal) (I Z vv) (A (Y ⟨g,0,U⟩) (f+1) cap) (A P H Q)):=hQ.o.b (fK _ _ (z7 (by omega)) _ _ _ _ _);have HP:Hid (dO d M L DT ts nm sal vv f H vT vR fl (aC d ts s T) w (z8 (xS #[J nm,I Z sal,I Z vv,A (Y ⟨g,0,U⟩) (f+1) cap,A P H Q])) (st5 W9 (w.heap.size+2) (J nm) (I Z sal) (I Z vv) (A (Y ⟨g,0,U⟩) (f+1) cap) (A P H Q))):=
  ⟨_,⟨af,s.c++[⟨1,j,args,.zero⟩],s.d⟩,k+1,_,_,_,_,V,ca,b9,by rw[ec.o];exact Af _ _ V,hx.o,hy.o,by show (s.c++[_]).length≤_;rw[Fc,bc.o];exact EO _,by show s.d.length≤_;rw[hi.o];omega,sZ HK.o (by simp) eo.o hv.o⟩
 have hc:=Hd b7;obtain⟨a0,a1,a2,a3,a4⟩:=cells5 ba.o.1;have c9:W9.heap[w.heap.size+1+1]?=Y (wq #[J ⟨#[]⟩,I Z 0,I Z 0,A U 0 0,A U 0 0] 50 (0,0)):=ba.o.2.2;have fz:=aE c9;obtain⟨r0,r1,r2,r3,r4⟩:=cells5 c9;clear b7 b8 hK b9 ca c9;go_wp2_with fail
 exact i9 Tryz.results51 _ _ (w.heap.size+1+1) _ _ _ _ _ hc.o _ V HP.o
theorem xR(d M L B:Nat)(DT:Nat→Prop)(ts:List ae)(s:RSt)(k:Int)(fl:Flt)(vT vR vV vC vA:wF)(D:Nat→Prop)(nm:ByteArray)(sal vv:Int)(T:ab)(p:Option Addr)(n c:Nat)(w:wD)
  (h:St2 64 70 (bf d) (bA d) M L DT ts s.b k fl vT vR vV s.c vC s.d vA D w) (hn:T.u.length=n) (gg:n≤20000) (gD:s.c.length≤20000) (_han:s.d.length≤20000) (c0:s.b.length≤17∧(fl.1=0→s.b.length≤16)) (c1:k=bE s.c) (hk:T.b=6) (gE:B≤M) (c3:ao w B (d+1) T.u (A p n c)) (c5:∀K∈T.u,(K.b=12∨K.b=13∨K.b=14∨K.b=15)∧K.f.size≤72007∧aI K=true) :
  xL xD 51 #[xV (Y ⟨M,0,U⟩),xS #[J nm,I Z sal,I Z vv,vC,vA],xS #[I O T.b,J T.f,I Z T.h,I Z T.y,A p n c]] w (dO d M L DT ts nm sal vv s.c.length s.d.length vT vR fl (aC d ts s T) w):=by
 obtain⟨pC,cC,c6⟩:=h.x.b;obtain⟨H,N,c7⟩:=h.y.b;obtain⟨f,b7⟩:=zzy (s.c.length);obtain⟨E,b8⟩:=zzy (s.d.length);rw[b7]at c6 gD ⊢;rw[b8]at c7 _han ⊢;subst c6;subst c7;obtain⟨w1,b9⟩:=zzx (((w.alloc (wq #[J nm,I Z sal,I Z vv,A pC f cC,A H E N] 50)).alloc (wq #[I O 6,J T.f,I Z T.h,I Z T.y,A p n c] 25)).alloc (wq #[J ⟨#[]⟩,I Z 0,I Z 0,A U 0 0,A U 0 0] 50));obtain⟨P,a6⟩:=fA.new w (wq #[J nm,I Z sal,I Z vv,A pC f cC,A H E N] 50 (0,0)) (wq #[I O 6,J T.f,I Z T.h,I Z T.y,A p n c] 25 (0,0)) (wq #[J ⟨#[]⟩,I Z 0,I Z 0,A U 0 0,A U 0 0] 50 (0,0));rw[←b9]at P a6;have hE:=h.lt;have hle:=h.le;have ca:=Hd (fun g (e:(A pC f cC).ownBlock=Y g)=>h.x.lt e);have cb:=Hd (fun g (e:(A H E N).ownBlock=Y g)=>h.y.lt e);obtain⟨c8,hG,HD,c9,cc,bk,da⟩:=zz7 h.xl h.yl h.d (h.z a6) a6 P b9;obtain⟨ch,gF,HV,gH,HK,HN⟩:=zz6 b7 b8 c0 c1 hk hn;obtain⟨a0,a1,a2,a3,a4⟩:=cells5 P.1;obtain⟨b0,b1,b2,b3,b4⟩:=cells5 P.2.1;have dc:Hid (xL xD 80 #[xV (Y ⟨M,0,U⟩),xS #[I O 6,J T.f,I Z T.h,I Z T.y,A p n c]] w1 (fun e w'=>∃fl' j,e=z8 (I Z j)∧I64 j∧aD M ts s.b k vT vR vV w1 fl' w'∧Goes fl (bI ts T) fl' (fun i=>j=(i:Int)))):=by
  have:=lH c9.o.rm T p c (by rw[HN.o];omega);rw[HK.o,HN.o]at this;exact this
 obtain⟨gL,gM,HM⟩:=zz3 c3 c5 gE;clear c3 c5;rw[hk];clear h b9 P a6 b7 b8 c0 c1 hk hn
 go_enter Tryz.func51,Tryz.ntmps51
 go_upto_region 1 with fail
 change AR _ _ _ _ (((w.alloc (wq #[J nm,I Z sal,I Z vv,A pC f cC,A H E N] 50)).alloc (wq #[I O 6,J T.f,I Z T.h,I Z T.y,A p n c] 25)).alloc (wq #[J ⟨#[]⟩,I Z 0,I Z 0,A U 0 0,A U 0 0] 50));rw[←da.o];clear da;go_wp2_with fail
 refine dc.o.mono ?_;rintro e m ⟨dd,j,rfl,hj,t,bl⟩;obtain⟨dg,Q,dp,ds,HJ⟩:=zz5 (c9.o.call t) (bk.o.chg t.1 (fun b r=>by omega)) t bl hj;obtain⟨u,R⟩:=zzx (m.alloc (wq #[I O 2,I Z j,A U 0 0,I O 0,I O 0,I Z 0,J ⟨#[]⟩,I Z 0,I O 0,A U 0 0] 64));have ba:FK m u:=by rw[R];exact (EP _ m).alloc (EO _) _
 have ck:=p9 m (wq #[I O 2,I Z j,A U 0 0,I O 0,I O 0,I Z 0,J ⟨#[]⟩,I Z 0,I O 0,A U 0 0] 64);rw[←R]at ck;have S:u.heap.size=m.heap.size+1:=by rw[R,r9]
 have hI:=t.1.h;have hJ:=cc.o.size;have hL:=bk.o.lt;obtain⟨dv,W,bn,ea,eb,ec⟩:=zz6 ck (dg.o.z ba) (Q.o.z ba) ba S R;clear a0 a1 a2 a3 a4 b0 b1 b2 b3 b4 t bl hj ba ck S R dc;obtain⟨a0,a1,a2,a3,a4⟩:=cells5 Q.o.1;obtain⟨b0,b1,b2,b3,b4⟩:=cells5 Q.o.2.1;go_upto_region 10 with fail
 change AR _ _ _ _ (m.alloc (wq #[I O 2,I Z j,A U 0 0,I O 0,I O 0,I Z 0,J ⟨#[]⟩,I Z 0,I O 0,A U 0 0] 64));rw[←ec.o];clear ec a0 a1 a2 a3 a4 b0 b1 b2 b3 b4;obtain⟨b0,b1,b2,b3,b4⟩:=cells5 bn.o.2.1;have HA:Hid (xL xD 81 #[xV (Y ⟨M,0,U⟩),xS #[I O 6,J T.f,I Z T.h,I Z T.y,A p n c],AJ false] u (mH M ts k vT vR D n dd (aG (bU false) (s.b,[]) T.u) u)):=by
  have:=qN D d M B ts s.b k vT vR vV dd false T (A p n c) u W.o.rm W.o.vv (fun b r=>⟨(W.o.d b r).2.1,fun e=>by have:=(W.o.d b r).1;omega⟩) HM.o (gL.o.z (by
   have h1:Below B w w1:=cc.o.mono (by omega);have h2:=eI dp.o.1 HM.o (by omega)
   exact (h1.trans h2).trans (ea.o.mono (by omega)))) (by rw[HN.o];exact gg) ⟨HV.o.1,fun h0=>HV.o.2 (iD ds.o h0)⟩ gM.o
  rw[HK.o,HN.o]at this;exact this
 go_wp2_with fail
 refine HA.o.mono ?_;rintro e w4 ⟨gN,X,gO,args,v,rfl,a,gS,l,bq,br,eg,ek,bt⟩;obtain⟨pv,cv,el⟩:=l.b;obtain⟨F,en⟩:=zzy (args.length);rw[en]at el;subst el;obtain⟨gT,eo,cl⟩:=zz3 (W.o.N a bt) (bn.o.chg a.1 (fun b r=>by omega)) (bu a.1 dv.o (EN.1 dv.o).1 (fun e=>by omega));have hM:=a.1.h;have S:=eb.o;obtain⟨ha,hc,hd,hf,ep⟩:=zz5 a.1 br eg ek (l.K (G:=fun b=>D b∨ai u w4 b) (fun b r=>z7 r.1) (fun g hg=>z7 ⟨bq g hg,l.lt hg⟩));obtain⟨W5,bb⟩:=zzx (w4.setCell ⟨m.heap.size,2,U⟩ (A pv F cv));have cq:¬(D m.heap.size∨ai u w4 m.heap.size):=fun e=>by
  rcases e with e|e
  ·have:=(dg.o.d _ e).2.1;omega
  ·have:=e.1;omega
 have ad:=heap_set cl.o 2 (A pv F cv);have cr:=gT.o.set m.heap.size 2 (A pv F cv) (by omega) cq (fun e=>by have:=ca.o _ e;omega) (fun e=>by have:=cb.o _ e;omega);have ct:=eo.o.set m.heap.size 2 (A pv F cv) (by omega);have cu:Chg (fun b=>b=M∨L≤b) w4 (w4.setCell ⟨m.heap.size,2,U⟩ (A pv F cv)):=Chg.y (p:=⟨m.heap.size,2,U⟩) (Chg.refl _ _) (z6 (z7 (by show L≤m.heap.size;omega))) _;rw[←bb]at ad cr ct cu
 have af:gn.K W5 (fun b=>D b∨ai u w4 b) args (A pv F cv):=Rd.f (fun b r o ho=>by
  rw[bb]
  exact (ER w4 ⟨m.heap.size,2,U⟩ _ b (fun e=>cq (by have e:b=m.heap.size:=e;rw[←e];exact r))).trans ho) ep.o
 have ad:W5.heap[m.heap.size]?=Y (wq #[I O 2,I Z j,A pv F cv,I O 0,I O 0,I Z 0,J ⟨#[]⟩,I Z 0,I O 0,A U 0 0] 64 (0,0)):=ad;obtain⟨hh,bc,ak,hi,cx,er⟩:=zz6 ad cr ct cu af bb;have fz:=aE cl.o;obtain⟨y0,y1,y2,y3,y4,y5,y6,y7,y8,y9⟩:=cL cl.o;clear a br eg ek bt l bq en ad cr ct cu af bb cq b0 b1 b2 b3 b4 HA gS;go_upto_region 11 with fail
 change AR _ _ _ _ (w4.setCell ⟨m.heap.size,2,U⟩ (A pv F cv));rw[←er.o];clear er fz y0 y1 y2 y3 y4 y5 y6 y7 y8 y9;have hl:Hid ((bf d).at_ W5 (fun b=>D b∨ai u w4 b) ⟨2,j,args,.zero⟩ [I O 2,I Z j,A pv F cv,I O 0,I O 0,I Z 0,J ⟨#[]⟩,I Z 0,I O 0,A U 0 0]):=fw.2 ⟨⟨by show (0:Int)≤2;decide,by show (2:Int)<256;decide⟩,HJ.o,rb,_,_,V,cx.o,ou⟩;have et:Hid (Chg (fun b=>b=M∨L≤b) w W5):=(((eu hle cc.o).b (j0 dp.o.1)).b (eu (by omega) ea.o)).b ((j0 ha.o).b hi.o);have hp:Hid (∀q,(fun b=>D b∨ai u w4 b) q→q<w.heap.size∨w.heap.size+3≤q):=fun q e=>by
  rcases e with e|e
  ·exact z6 (HD.o q e).2.1
  ·have:=e.1;exact z7 (by omega)
 obtain⟨us,al,ev⟩:=bc.o.x;rw[ch.o,dP]at al;have C:FK W5 (W5.alloc (wq #[I O 2,I Z j,A pv F cv,I O 0,I O 0,I Z 0,J ⟨#[]⟩,I Z 0,I O 0,A U 0 0] 64)):=(EP _ W5).alloc (EO _) _;obtain⟨hq,fe,fm,fp,hr,fv⟩:=zz6 (cY al C) C (Rd.vk (fun b r o ho=>(C.block b (bc.o.d b r).2.1).trans ho) ev) (Rd.C _ (fun b r o ho=>(C.block b (bc.o.d b r).2.1).trans ho) hl.o) (bc.o.z C) (ak.o.z C);obtain⟨a0,a1,a2,a3,a4⟩:=cells5 ak.o.1;obtain⟨e0,e1,e2,e3,e4,e5,e6,e7,e8,e9⟩:=cL hh.o;clear al ev C;go_upto_region 25 with (at_builtin;go_must (refine dU i8 V (.tmp 54) (.tmp 56) V (p:=pC) (n:=f) (c:=cC) (z:=[I O 2,I Z j,A pv F cv,I O 0,I O 0,I Z 0,J ⟨#[]⟩,I Z 0,I O 0,A U 0 0]) V V hq.o (p9 W5 _) V (by simp[Value.oneCell']) (by omega) ?_);intro g cap W7 hg hC aq;have ar:=fv.o.chg hC (fun b r=>by have:=ca.o _ r;omega);have fz:=aE ar.1;obtain⟨q0,q1,q2,q3,q4⟩:=cells5 ar.1)
 change AR _ _ _ _ (W7.setCell ⟨w.heap.size,3,U⟩ (A (Y ⟨g,0,U⟩) (f+1) cap));have fI:=hr.o.push (by decide) ch.o fm.o fp.o hg hC (by rw[dP];exact aq);have hA:=ar.lt;have hN:=fe.o.size;have hO:=hC.h;have hP:=et.o.h;have hs:L≤g∧(g<w.heap.size∨W5.heap.size≤g):=by
  rcases hg with e|e
  ·exact⟨c8.o g e,z6 (ca.o g e)⟩
  ·exact⟨by omega,z7 (by omega)⟩
 have hD:=ak.o.lt;have cR:∀q,w.heap.size≤q→q≤w.heap.size+2→¬(fun b=>D b∨ai u w4 b) q:=fun q h1 h2 e=>by have:=hp.o q e;omega
 obtain⟨W8,bd⟩:=zzx (W7.setCell ⟨w.heap.size,3,U⟩ (A (Y ⟨g,0,U⟩) (f+1) cap));have cT:=(fI).set w.heap.size 3 (A (Y ⟨g,0,U⟩) (f+1) cap) (by omega) (cR _ (EO _) (by omega)) (fun e=>by injection e with e;have e:g=_:=e;omega) (fun e=>by have:=cb.o _ e;omega)
 have cV:=ar.set0 3 (A (Y ⟨g,0,U⟩) (f+1) cap);rw[←bd]at cT cV;have fM:Chg (fun b=>b=M∨L≤b) w W8:=by
  rw[bd];exact Chg.y (p:=⟨w.heap.size,3,U⟩) ((et.o.b (eu (by omega) fe.o)).b (jJ hC (fun b r=>by have:=c8.o b r;omega))) (z6 (z7 (by show L≤w.heap.size;omega))) _
 obtain⟨ht,av,hv,fT,hx,hy⟩:=zz6 cT cV fM bd cR hs;clear hg hC aq fI ar cT cV fM bd cR a0 a1 a2 a3 a4 e0 e1 e2 e3 e4 e5 e6 e7 e8 e9;rw[←fT.o];clear fT fz q0 q1 q2 q3 q4;have bB:=fX av.o.2.2 (J nm) (I Z sal) (I Z vv) (A (Y ⟨g,0,U⟩) (f+1) cap) (A H E N);have bR:St2 64 70 (bf d) (bA d) M L DT ts (X) (k) (gN) vT vR (gO) (s.c++[⟨2,j,args,.zero⟩]) (A (Y ⟨g,0,U⟩) (f+1) cap) s.d (A H E N) (fun b=>D b∨ai u w4 b) W8:=ht.o;have hK:∀b,b=w.heap.size+2→L≤b∧¬(fun b=>D b∨ai u w4 b) b∧(A (Y ⟨g,0,U⟩) (f+1) cap).ownBlock≠Y b∧(A H E N).ownBlock≠Y b:=fun b r=>by
  subst r;have:=hy.o;refine⟨by omega,hx.o _ (by omega) (EO _),?_,?_⟩
  ·intro e;injection e with e;have e:g=_:=e;omega
  ·intro e;have:=cb.o _ e;omega
 have b5:=bR.C (W':=st5 W8 (w.heap.size+2) (J nm) (I Z sal) (I Z vv) (A (Y ⟨g,0,U⟩) (f+1) cap) (A H E N)) (fun b=>b=w.heap.size+2) (by rw[gJ];exact EO _) (fun b _ hz=>eh _ _ _ _ _ b hz) hK;have b6:Chg (fun b=>b=M∨L≤b) w (st5 W8 (w.heap.size+2) (J nm) (I Z sal) (I Z vv) (A (Y ⟨g,0,U⟩) (f+1) cap) (A H E N)):=hv.o.b (fK _ _ (z7 (by omega)) _ _ _ _ _);have HP:Hid (dO d M L DT ts nm sal vv f E vT vR fl (aC d ts s T) w (z8 (xS #[J nm,I Z sal,I Z vv,A (Y ⟨g,0,U⟩) (f+1) cap,A H E N])) (st5 W8 (w.heap.size+2) (J nm) (I Z sal) (I Z vv) (A (Y ⟨g,0,U⟩) (f+1) cap) (A H E N))):=
  ⟨_,⟨X,s.c++[⟨2,j,args,.zero⟩],s.d⟩,k,_,_,_,_,V,b6,b5,by rw[gH.o];exact qV _ _ (by show ¬((2:Int)==1)=true;decide),hd.o,hf.o,by show (s.c++[_]).length≤_;rw[Fc,ch.o];exact EO _,by show s.d.length≤_;rw[gF.o];omega,sZ HK.o (by simp) ds.o hc.o⟩
 have gf:=Hd bB;obtain⟨a0,a1,a2,a3,a4⟩:=cells5 av.o.1;have cW:W8.heap[w.heap.size+1+1]?=Y (wq #[J ⟨#[]⟩,I Z 0,I Z 0,A U 0 0,A U 0 0] 50 (0,0)):=av.o.2.2;have fz:=aE cW;obtain⟨r0,r1,r2,r3,r4⟩:=cells5 cW;clear bB bR hK b5 b6 cW;go_wp2_with fail
 exact i9 Tryz.results51 _ _ (w.heap.size+1+1) _ _ _ _ _ gf.o _ V HP.o
