/- Parts of one proof, joined; conditions stand in each theorem. -/
import Derived.Test.YtoahnjkclckodaaGreatDoorIN
import Derived.Test.YtoahnjkclckodaaGreatDoorIQ
import Derived.Test.YtoahnjkclckodaaGreatDoorNA
import Derived.Test.YtoahnjkclckodaaGreatDoorIA
import Derived.Test.YtoahnjkclckodaaGreatDoorMA
open Go renaming World→J,Value→tS
open Bool renaming true→tT,false→ur
open Option renaming some→A,none→Y
open Go.Value renaming int→I,string→r9,slice→O
open Go.IntKind renaming i64→U
open Go.Obj renaming cells→r7
namespace Go.Proofs.YtoahnjkclckodaaGreatDoor
set_option maxHeartbeats 16000000
set_option maxRecDepth 100000
open Go.RowKit
def valsN(l:List aE):Nat:=l.length+(l.map fun v=>v.h.size / 20).sum
def nE(l:List ai):Nat:=(l.map fun f=>valsN f.c).sum
def gA(r:eb):Nat:=valsN r.b+r.a.length+nE r.a
def qp(m:au):Nat:=(m.a.length+m.d.length+m.e.length)+nE m.a+(m.d.map fun t=>t.b.length).sum+(m.e.map fun s=>gA s.a).sum
structure tG (m:au):Prop where
 c:m.c.size≤4000
 parts:qp m≤1500
theorem sC{α:Type}(g:α→Nat):∀(l:List α) (x:α),x∈l→g x≤(l.map g).sum
 | [],_,h=>by cases h
 | y::l,x,h=>by
  rw[List.map_cons,List.sum_cons];rcases Kk.1 h with rfl|h
  ·omega
  ·have:=sC g l x h;omega
theorem pD{α:Type}{f g:α→Nat}{c:Nat}:∀(l:List α),(∀x∈l,f x≤c*(1+g x))→(l.map f).sum≤c*(l.length+(l.map g).sum)
 | [],_=>by simp
 | x::l,h=>by
  have a:=pD l (fun y b=>h y (List.mem_cons_of_mem _ b));have d:=h x List.mem_cons_self;simp only[List.map_cons,List.sum_cons,Kf,Nat.mul_add,Nat.mul_one]at a d ⊢;omega
theorem Df(l:List aE):szV l≤40*valsN l:=pD (g:=fun v:aE=>v.h.size / 20) l (fun v _=>by omega)
theorem Jk(f:ai):szF f≤40*(1+valsN f.c):=by
 have:=Df f.c;unfold szF;omega
theorem Ac(l:List ai):(l.map szF).sum≤40*(l.length+nE l):=pD (g:=fun f:ai=>valsN f.c) l (fun f _=>Jk f)
theorem I1(r:eb):szR r≤24+40*gA r:=by
 have a:=Ac r.a;have b:=Df r.b;unfold szR gA;omega
theorem D8(m:au):szM m≤60+m.c.size+40*qp m:=by
 have a:=Ac m.a;have b:(m.d.map szT).sum≤40*(m.d.length+(m.d.map fun t=>t.b.length).sum):=pD (g:=fun t:io=>t.b.length) m.d (fun t _=>by unfold szT;omega);have c:(m.e.map szS).sum≤40*(m.e.length+(m.e.map fun s=>gA s.a).sum):=pD (g:=fun s:dM=>gA s.a) m.e (fun s _=>by have:=I1 s.a;unfold szS;omega);unfold szM qp;omega
theorem tG.sz{m:au}(h:tG m):szM m≤140737488355328:=by
 have:=D8 m;have:=h.c;have:=h.parts;omega
structure wN (f:ai):Prop where
 id:I64 f.id
 u:I64 f.u
 c:∀v∈f.c,gy v
structure Hu (m:au):Prop where
 g:I64 m.g
 h:I64 m.h
 a:∀f∈m.a,wN f
 d:∀t∈m.d,I64 t.a∧∀i∈t.b,I64 i
 e:∀s∈m.e,I64 s.id∧I64 s.b∧I64 s.a.h∧I64 s.a.u∧(∀f∈s.a.a,wN f)∧∀v∈s.a.b,gy v
theorem row_mem{α:Type}{r:Rd α}{w:J}{F:Nat→Prop}{xs:List α}{v:tS}{x:α}(h:r.h w F xs v)(b:x∈xs):∃vs,r.at_ w F x vs:=by
 obtain⟨i,hi⟩:=List.getElem?_of_mem b;obtain⟨_,_,_,vs,_,_,_,_,_,a,_⟩:=Rd.X h hi;exact⟨vs,a⟩
theorem wU{w:J}{F:Nat→Prop}{l:List aE}{v:tS}(h:bK.h w F l v):∀x∈l,gy x:=fun x b=>by
 obtain⟨vs,a⟩:=row_mem h b;exact (dX.1 a).2
theorem vg{w:J}{F:Nat→Prop}{l:List ai}{v:tS}(h:aG.h w F l v):∀x∈l,wN x:=fun x b=>by
 obtain⟨vs,a⟩:=row_mem h b;obtain⟨c,d,_,_,e⟩:=bW.1 a;exact⟨c,d,wU e⟩
theorem yC{w:J}{F:Nat→Prop}{m:au}{vs:List tS}(h:bG.at_ w F m vs):Hu m:=by
 obtain⟨_,f,g,_,_,_,_,j,k,l⟩:=fC.1 h;refine⟨f,g,vg j,fun t b=>?_,fun s b=>?_⟩
 ·obtain⟨_,a⟩:=row_mem k b;obtain⟨c,_,_,d⟩:=gz.1 a;refine⟨c,fun i hi=>?_⟩;obtain⟨_,e⟩:=row_mem d hi;obtain⟨_,n,o⟩:=e;exact⟨n,o⟩
 ·obtain⟨_,a⟩:=row_mem l b;obtain⟨c,d,_,_,p⟩:=gx.1 a;obtain⟨q,r,_,_,_,u,v⟩:=cY.1 p;exact⟨c,d,q,r,vg u,wU v⟩
theorem tN{v:aE}(h:dV v=tT):dD v=tT∧uG v:=by
 unfold dV at h;unfold dD
 split at h
 ·rename_i a
  have a:v.q=1:=by simpa using a
  exact⟨by rw[a,h];rfl,Or.inl a⟩
 ·split at h
  ·rename_i a b
   have b:v.q=2:=by simpa using b
   rw[J4]at h;have c:v.u=0:=by simpa using h.1
   exact⟨by rw[b,c];rfl,Or.inr b⟩
  ·cases h
theorem Ej{l:List aE}(h:valsN l≤1500){v:aE}(a:v∈l):v.h.size≤65536:=by
 have:=sC (fun v:aE=>v.h.size / 20) l v a;unfold valsN at h;omega
theorem so{l:List aE}(h:valsN l≤1500)(b:∀v∈l,gy v)(c:∀v∈l,dD v=tT):sS l:=
 ⟨fun v a=>⟨(b v a).1,(b v a).2.1,Ej h a,c v a⟩,by unfold valsN at h;omega⟩
theorem tV{l:List ai}{f:ai}(a:f∈l):valsN f.c≤nE l:=sC (fun f:ai=>valsN f.c) l f a
theorem tJ{next:Int}:∀(l:List dM) (last:Int),fX next last l=tT→∀s∈l,jV s.a=tT
 | [],_,_,_,h=>by cases h
 | x::l,last,h,s,a=>by
  unfold fX at h;rw[J4,Bool.not_eq_true']at h;obtain⟨b,c⟩:=h;simp only[Bool.or_eq_false_iff,decide_eq_false_iff_not]at b;rcases Kk.1 a with rfl|a
  ·simpa using b.2
  ·exact tJ l _ c s a
theorem BM:∀(l:List Nat) (c x:Nat),x∈l∨x≤c→x≤l.foldl Nat.max c
 | [],c,x,h=>by
  rcases h with h|h
  ·cases h
  ·exact h
 | y::l,c,x,h=>by
  rw[List.foldl_cons];refine BM l _ x ?_;rcases h with h|h
  ·rcases Kk.1 h with rfl|h
   ·exact Or.inr (Nat.le_max_right c x)
   ·exact Or.inl h
  ·exact Or.inr (JU h (Nat.le_max_left c y))
theorem Ah:∀(d:Nat) (T:ac),dU (d+1) T≤d+1→cN d T
 | 0,T,h=>by
  cases a:T.z with
  | nil=>exact a
  | cons k l =>
   have b:dU 0 k≤(T.z.map (dU 0)).foldl Nat.max 0:=BM _ _ _ (Or.inl (List.mem_map.2 ⟨k,by rw[a];exact List.mem_cons_self,Z⟩));have c:(T.z.map (dU 0)).foldl Nat.max 0+1≤1:=h;have e:dU 0 k=1:=rfl;omega
 | d+1,T,h=>fun k a=>by
  have b:dU (d+1) k≤(T.z.map (dU (d+1))).foldl Nat.max 0:=BM _ _ _ (Or.inl (List.mem_map.2 ⟨k,a,Z⟩));have c:(T.z.map (dU (d+1))).foldl Nat.max 0+1≤d+1+1:=h;exact Ah d k (by omega)
theorem ut{s:ByteArray}{R:dc}(h:cd s=Except.ok R):nD 30 R=true:=by
 unfold cd at h
 split at h
 ·unfold jc at h
  split at h
  ·rename_i b
   have a:((fa s).1.q==1&&okF 30 (fa s).1&&decide (dU 30 (fa s).1≤30)&&decide (dN 30 (fa s).1≤4096))=true:=b;simp only[J4,oB]at a;exact CC (cN.more 29 _ (Ah 29 _ a.1.2)) a.1.1.2 h
  ·cases h
 ·cases h
theorem zC{R:dc}(h:nD 30 R=tT){r:aD}(b:r∈R.a):aK r.a≤8:=by
 unfold nD at h;simp only[J4]at h;have a:=Kh.1 h.1.2 r b;unfold lP at a;simp only[J4,oB]at a;have d:=List.length_filter_le (fun c:bj=>c.q==1) r.a;have e:=a.1.1.2;unfold aK;omega
theorem Jr{m:au}(g:Hu m)(x:tG m)(d:okS m=tT):sA m:=by
 have C:=x.parts;unfold qp at C;have d:jH cd m=true:=d;unfold jH at d
 cases a:cd m.c with
 | error e=>rw[a]at d;cases d
 | ok R =>
  rw[a]at d;simp only[J4]at d;obtain⟨⟨⟨o,_⟩,p⟩,q⟩:=d;have j:∀f∈m.a,kU f=true:=by
   unfold eR at o;simp only[J4]at o;exact (ou m.a _ _ o.2).2.2
  have hlen:=(rn o).2.1;unfold lL at p;simp only[J4,oB]at p;unfold jv at q;simp only[J4,oB]at q;have b:∀f∈m.a,∀v∈f.c,dV v=true:=fun f g v c=>by
   have:=j f g;unfold kU at this;rw[J4]at this;exact Kh.1 this.2 v c
  refine⟨by have:=x.c;omega,g.g,fun f hm=>?_,by omega,fun t y=>?_,p.2,fun s hm=>?_,by omega,g.h⟩
  ·have z:=tV hm;obtain⟨k,n,u⟩:=g.a f hm;exact⟨⟨k,n,so (by omega) u (fun v c=>(tN (b f hm v c)).1)⟩,fun v c=>(tN (b f hm v c)).2⟩
  ·obtain⟨k,n⟩:=g.d t y;refine⟨k,n,?_⟩;have h:=Kh.1 p.1 t y;unfold fR at h;simp only[J4,oB]at h;obtain⟨⟨⟨S,T⟩,_⟩,w⟩:=h;have w:t.b.length=aK (((R.a[t.a.toNat]?).map aD.a).getD []):=by simpa using w
   rw[w]
   cases D:R.a[t.a.toNat]? with
   | none=>exact J0 _
   | some r=>exact zC (ut a) (J8 D)
  ·obtain⟨k,n,u,E,F,G⟩:=g.e s hm;have hw:=tJ m.e _ q.1.1.1 s hm;have H:gA s.a≤(m.e.map fun s=>gA s.a).sum:=sC (fun s:dM=>gA s.a) m.e s hm;have z:gA s.a≤1500:=by omega
   unfold gA at z;unfold jV at hw;simp only[J4]at hw;obtain⟨⟨w1,K⟩,L,w4⟩:=hw;have B:tL s.a:=by
    refine⟨u,E,fun f i=>?_,by omega,so (by omega) G (fun v c=>Kh.1 K v c)⟩;have M:=tV i;obtain⟨N,P,Q⟩:=F f i;exact⟨N,P,so (by omega) Q (fun v c=>Kh.1 (Kh.1 w1 f i) v c)⟩
   refine⟨k,n,B,Cc B (l:=[]) ?_⟩;rw[List.append_nil]
   simpa using L
def Ext{α:Type} (one:WSt→α×WSt):Prop:=∀s,(one s).2.2=ur→s.2=ur∧∀r,one (s.1++r,ur)=((one s).1,(one s).2.1++r,ur)
def lK{α:Type} (one:ISt→α×ISt):Prop:=∀s,ok2 (one s).2→ok2 s∧∀r,one ((s.1.1++r,ur),ur)=((one s).1,((one s).2.1.1++r,ur),ur)
theorem yM(n:Nat):Ext (aT n):=fun s b=>by
 unfold aT at b ⊢
 split at b
 ·cases b
 ·rename_i a
  rw[oe a];simp only[Bool.or_eq_true,oB,not_or,Nat.not_lt]at a;refine⟨by simpa using a.1,fun r=>?_⟩;rw[oe (by simp;omega),List.take_append_of_le_length a.2,List.drop_append_of_le_length a.2]
theorem gh(k:Nat):Ext (aw k):=fun s a=>by
 unfold aw at a ⊢;obtain⟨b,c⟩:=yM k s a;refine⟨b,fun r=>?_⟩;rw[c]
theorem uX:Ext bf:=fun s a=>by
 unfold bf at a ⊢
 split at a
 ·cases a
 ·rename_i b
  rw[oe b];obtain⟨c,d⟩:=gh 4 s a;refine⟨c,fun r=>?_⟩;rw[d];simp only[Bool.or_eq_true,oB,not_or]at b;rw[oe (by simp only[Bool.false_or,oB];exact b.2)]
theorem yn:Ext dO:=fun s a=>by
 unfold dO at a ⊢;obtain⟨b,c⟩:=yM (bf s).1 (bf s).2 a;obtain⟨d,e⟩:=uX s b;refine⟨d,fun r=>?_⟩;rw[e];dsimp only;rw[c]
theorem II:Ext bP:=fun s a=>by
 unfold bP at a ⊢;dsimp only at a ⊢
 by_cases b:(aw 1 s).1=1
 ·simp only[oj b]at a ⊢;obtain⟨a1,a2⟩:=gh 8 _ a;obtain⟨c,d⟩:=gh 1 s a1;refine⟨c,fun r=>?_⟩;rw[d];dsimp only;simp only[oj b];rw[a2,a]
 ·by_cases e:(aw 1 s).1=2
  ·simp only[oe b,oj e]at a ⊢;obtain⟨a1,a2⟩:=yn _ a;obtain⟨c,d⟩:=gh 1 s a1;refine⟨c,fun r=>?_⟩;rw[d];dsimp only;simp only[oe b,oj e];rw[a2,a]
  ·simp only[oe b,oe e]at a
   cases a
theorem Aq{α:Type}{one:WSt→α×WSt}(b:Ext one):∀n,Ext (bQ one n)
 | 0,s,h=>⟨h,fun r=>by show ([],(s.1++r,ur))=([],(s.1++r,ur));rfl⟩
 | n+1,s,h=>by
  unfold bQ at h ⊢
  split at h
  ·rename_i a;rw[a]at h;cases h
  ·rename_i a
   rw[oe a];obtain⟨c,d⟩:=Aq b n (one s).2 h;obtain⟨e,f⟩:=b s c;refine⟨e,fun r=>?_⟩;rw[oe (by simp),f];dsimp only;rw[d]
theorem xo{α:Type}{one:WSt→α×WSt}(b:Ext one):Ext (dp one):=fun s a=>by
 unfold dp at a ⊢;dsimp only at a ⊢;obtain⟨c,d⟩:=Aq b _ _ a;obtain⟨e,f⟩:=uX s c;refine⟨e,fun r=>?_⟩;rw[f];dsimp only;rw[d,a]
theorem xC:Ext eH:=xo II
theorem yx:Ext bT:=fun s a=>by
 unfold bT at a ⊢;dsimp only at a ⊢;obtain⟨b,c⟩:=xC _ a;obtain⟨d,e⟩:=gh 8 _ b;obtain⟨f,g⟩:=gh 8 _ d;refine⟨f,fun r=>?_⟩;rw[g];dsimp only;rw[e];dsimp only;rw[c,a]
theorem DR:Ext dh:=fun s a=>by
 unfold dh at a ⊢;dsimp only at a ⊢;obtain⟨b,c⟩:=xC _ a;obtain⟨d,e⟩:=xo yx _ b;obtain⟨f,g⟩:=gh 8 _ d;obtain⟨h,i⟩:=gh 8 _ f;refine⟨h,fun r=>?_⟩;rw[i];dsimp only;rw[g];dsimp only;rw[e];dsimp only;rw[c,a]
theorem lB:lK bL:=fun s a=>by
 obtain⟨b,c⟩:=gh 8 s.1 a.1;refine⟨⟨b,a.2⟩,fun r=>?_⟩;unfold bL;rw[c]
theorem yG(most:Int):lK (eE most):=fun s a=>by
 unfold eE at a ⊢;dsimp only at a ⊢
 split at a
 ·exact absurd a.2 (by simp)
 ·rename_i b
  rw[oe b];obtain⟨c,d⟩:=gh 8 s.1 a.1;refine⟨⟨c,a.2⟩,fun r=>?_⟩;rw[d];dsimp only;rw[oe b]
theorem xK{α:Type}{one:ISt→α×ISt}(b:lK one):∀n,lK (co one n)
 | 0,s,h=>⟨h,fun r=>by show ([],((s.1.1++r,ur),ur))=([],((s.1.1++r,ur),ur));rfl⟩
 | n+1,s,h=>by
  unfold co at h ⊢
  split at h
  ·rename_i a
   have:=h.1;rw[show (([(one s).1],(one s).2):List α×ISt).2=(one s).2 from rfl,a]at this
   cases this
  ·rename_i a
   rw[oe a];obtain⟨c,d⟩:=xK b n (one s).2 h;obtain⟨e,f⟩:=b s c;refine⟨e,fun r=>?_⟩;rw[f];dsimp only;rw[oe (by simp),d]
theorem qo{α:Type}{one:ISt→α×ISt}(b:lK one)(most:Int):lK (da one most):=fun s a=>by
 unfold da at a ⊢;obtain⟨c,d⟩:=xK b _ _ a;obtain⟨e,f⟩:=yG most s c;refine⟨e,fun r=>?_⟩;rw[f];dsimp only;rw[d]
theorem EA:lK fl:=fun s a=>by
 obtain⟨b,c⟩:=yx s.1 a.1;refine⟨⟨b,a.2⟩,fun r=>?_⟩;unfold fl;rw[c]
theorem uK:∀n,lK (eG n)
 | 0,s,h=>⟨h,fun r=>by show ([],((s.1.1++r,ur),ur))=([],((s.1.1++r,ur),ur));rfl⟩
 | n+1,s,h=>by
  unfold eG at h ⊢;obtain⟨a,b⟩:=uK n (bL s).2 h;obtain⟨c,d⟩:=lB s a;refine⟨c,fun r=>?_⟩;rw[d];dsimp only;rw[b]
theorem FN:lK eD:=fun s a=>by
 unfold eD at a ⊢;dsimp only at a ⊢;obtain⟨b,c⟩:=uK _ _ a;obtain⟨d,e⟩:=yG 8 _ b;obtain⟨f,g⟩:=lB s d;refine⟨f,fun r=>?_⟩;rw[g];dsimp only;rw[e];dsimp only;rw[c]
theorem Fh:lK dz:=fun s a=>by
 unfold dz at a ⊢;dsimp only at a ⊢;obtain⟨b,c⟩:=DR _ a.1;obtain⟨d,e⟩:=lB (bL s).2 ⟨b,a.2⟩;obtain⟨f,g⟩:=lB s d;refine⟨f,fun r=>?_⟩;rw[g];dsimp only;rw[e];dsimp only;rw[c]
theorem G4:lK ei:=fun s a=>by
 unfold ei at a ⊢;dsimp only at a ⊢;obtain⟨f,g⟩:=qo Fh 32 _ a;obtain⟨h,i⟩:=lB _ f;obtain⟨j,k⟩:=qo FN 4096 _ h;obtain⟨l,m⟩:=qo EA 256 _ j;obtain⟨e,b⟩:=lB ((dO s.1).2,s.2) l;obtain⟨c,d⟩:=yn s.1 e.1;refine⟨⟨c,e.2⟩,fun r=>?_⟩;rw[d];dsimp only;rw[b];dsimp only;rw[m];dsimp only;rw[k];dsimp only;rw[i];dsimp only;rw[g]
theorem yV(n:Int)(h:-9223372036854775808≤n∧n≤9223372036854775807):wrap64 n=n:=by unfold wrap64;omega
theorem nj{a b:Nat}(h:a+b≤9000000000000000000):wrap64 ((a:Int)+(b:Int))=((a+b:Nat):Int):=by rw[yV _ (by omega)];omega
def goN{α:Type} (f:Nat→α→Nat):List α→Nat→Nat
 | [],n=>n
 | x::l,n=>if n≤1500 then goN f l (f n x) else n
theorem nJ{α:Type}{f:Nat→α→Nat}{g:α→Nat}:∀(l:List α) (n:Nat),(∀n x,x∈l→f n x≤1500→n+g x≤f n x)→goN f l n≤1500→n+(l.map g).sum≤goN f l n
 | [],n,_,_=>by simp[goN]
 | x::l,n,a,h=>by
  unfold goN at h ⊢
  by_cases b:n≤1500
  ·rw[oj b]at h ⊢;have d:=nJ l (f n x) (fun n y c=>a n y (List.mem_cons_of_mem _ c)) h;have e:=a n x List.mem_cons_self (by omega);rw[List.map_cons,List.sum_cons];omega
  ·rw[oe b]at h;omega
theorem AG{α:Type}{f:Nat→α→Nat}{T:Nat}:∀(l:List α) (n:Nat),(∀n x,x∈l→n≤1500→f n x≤T)→n≤T→goN f l n≤T
 | [],n,_,h=>h
 | x::l,n,a,h=>by
  unfold goN
  split
  ·rename_i b
   exact AG l (f n x) (fun n y c=>a n y (List.mem_cons_of_mem _ c)) (a n x List.mem_cons_self b)
  ·exact h
theorem po{α:Type}{f:Nat→α→Nat}{l:List α}{k n:Nat}{x:α}(a:l[k]?=A x)(b:n≤1500):goN f (l.drop k) n=goN f (l.drop (k+1)) (f n x):=by
 have c:l.drop k=x::l.drop (k+1):=by
  rw[List.drop_eq_getElem_cons (J3.1 a).1];rw[(J3.1 a).2]
 rw[c]
 show (if n≤1500 then _ else _)=_
 rw[oj b]
theorem nK{α:Type}{f:Nat→α→Nat}{l:List α}{n:Nat}(a:¬n≤1500):goN f l n=n:=by
 cases l with
 | nil=>rfl
 | cons x l=>show (if n≤1500 then _ else _)=_;rw[oe a]
def vF(l:List aE):Nat:=goN (fun n v=>n+v.h.size / 20) l l.length
theorem Ib{l:List aE}(h:vF l≤1500):valsN l≤vF l:=nJ (g:=fun v:aE=>v.h.size / 20) l l.length (fun _ _ _ _=>JM _) h
theorem Fi{l:List aE}(a:l.length≤reachBytes)(b:∀v∈l,v.h.size≤maxLen):vF l≤1000000000000000000:=by
 unfold reachBytes at a;refine AG l l.length (fun n v c d=>?_) (by omega);have:=b v c;unfold maxLen at this
 show n+v.h.size / 20≤_
 omega
def xZ{α:Type} (w:J) (N T:Nat) (f:Nat→α→Nat) (l:List α) (r:Nat) (i nv:tS) (W:J):Prop:=
 ∃(a:J) (k n:Nat),a=W∧k≤N∧i=I U (k:Int)∧nv=I U (n:Int)∧n≤T∧Kr w a∧goN f (l.drop k) n=r
theorem oh(l:List aE)(v:tS)(w:J)(F:bK.h w (fun b=>b<w.heap.size) l v)(G:l.length≤reachBytes):Calls Tryz.prog 16 #[v] w (fun e w'=>e=Ending.returned (I U (vF l:Nat))∧Kr w w'):=by
 obtain⟨p,c,H⟩:=Rd.q F;subst H;obtain⟨N,D⟩:=zzy (l.length);have T:=Hd (fun W (X:Kr w W)=>Rd.sm F (fun _ h=>h) X);rw[D]at T G ⊢;have ad:N≤140737488355328:=by unfold reachBytes at G;omega
 obtain⟨r,K⟩:=zzy (vF l);rw[K];have t:goN (fun n v=>n+v.h.size / 20) l N=r:=by rw[←D];exact K
 obtain⟨HR,L⟩:=zz2 t D;clear F G K t D
 go_enter Tryz.func16,Tryz.ntmps16
 go_wp2_with fail
 go_loopw [4,3] (xZ w N 1000000000000000000 (fun n v=>n+v.h.size / 20) l r) (fun i _ _=>N-(intOf i).toNat)
 case atStart=>exact⟨_,0,N,Z,J0 _,Z,Z,by omega,JO _ _,HR.o⟩
 case round =>
  obtain⟨V,k,n,rfl,hk,rfl,rfl,af,m,a⟩:=hrel;have q:=Hd a;clear a
  by_cases M:k<N
  ·by_cases hle:n≤1500
   ·obtain⟨x,P⟩:∃x,l[k]?=A x:=⟨_,JR (by rw[L.o];exact M)⟩;have u:=Rd.X (T.o V m) P;rw[L.o]at u;obtain⟨b1,off,cap,vs,Q,_,_,_,_,y,d⟩:=u;injection Q with e1 _ e3
    subst e1;subst e3;obtain⟨rfl,g⟩:=dX.1 y;have d2:V.cell? ⟨b1,off+k*3+2,Y⟩=A (r9 x.h):=d 2 _ Z;have s:=g.2.2;obtain⟨z,E⟩:=zzy (x.h.size);have j:goN (fun n v=>n+v.h.size / 20) (l.drop (k+1)) (n+z / 20)=r:=by rw[←q.o,po P hle,E]
    obtain⟨B,f,HZ⟩:=zz3 j m E;rw[E]at s;have aq:z≤9223372036854775807:=by unfold maxLen at s;omega
    have R:(k:Int)<N:=by omega
    have C:(n:Int)≤1500:=by omega
    clear y d g P m j E s;go_wp2_with fail
    refine⟨⟨_,k+1,n+z / 20,Z,by omega,by go_num,?_,by omega,f.o,B.o⟩,by simp[intOf];omega⟩;rw[HZ.o,yV ((z:Int) / 20) (by omega),yV _ (by omega),show (n:Int)+(z:Int) / 20=((n+z / 20:Nat):Int) by omega]
   ·have C:¬(n:Int)≤1500:=by omega
    obtain⟨S,f⟩:=zz2 ((nK hle).symm.trans q.o) m;have R:(k:Int)<N:=by omega
    clear m;go_wp2_with fail
    go_ret;exact⟨by rw[S.o];rfl,f.o⟩
  ·obtain rfl:k=N:=by omega
   have a:=q.o;rw[←L.o,List.drop_length]at a;obtain⟨S,f⟩:=zz2 a m;clear m a;go_wp2_with fail
   go_ret;exact⟨by rw[←S.o];rfl,f.o⟩
def gX(n:Nat) (f:ai):Nat:=n+vF f.c
def rz(n:Nat) (t:io):Nat:=n+t.b.length
def l7(n:Nat) (s:dM):Nat:=goN gX s.a.a (n+vF s.a.b+s.a.a.length)
def pu(m:au):Nat:=m.a.length+m.d.length+m.e.length
def xh(m:au):Nat:=goN l7 m.e (goN rz m.d (goN gX m.a (pu m)))
def nF(m:au):Bool:=decide (4000<m.c.size)||decide (1500<xh m)
theorem ya(n:Nat)(f:ai)(h:gX n f≤1500):n+valsN f.c≤gX n f:=by
 unfold gX at h ⊢;have:=Ib (l:=f.c) (by omega);omega
theorem GX(n:Nat)(s:dM)(h:l7 n s≤1500):n+gA s.a≤l7 n s:=by
 unfold l7 at h ⊢;have a:=nJ (g:=fun f:ai=>valsN f.c) s.a.a _ (fun n f _=>ya n f) h;have b:=Ib (l:=s.a.b) (by omega);have c:nE s.a.a=(s.a.a.map fun f:ai=>valsN f.c).sum:=rfl;unfold gA;omega
theorem GV{m:au}(h:nF m=ur):tG m:=by
 unfold nF at h;rw[Bool.or_eq_false_iff]at h;have e:¬4000<m.c.size:=q5 h.1;have a:¬1500<xh m:=q5 h.2;unfold xh at a;have b:=nJ (g:=fun s:dM=>gA s.a) m.e (goN rz m.d (goN gX m.a (pu m))) (fun n s _=>GX n s) (by omega);have c:=nJ (f:=rz) (g:=fun t:io=>t.b.length) m.d (goN gX m.a (pu m)) (fun n t _ _=>JM _) (by omega);have d:=nJ (g:=fun f:ai=>valsN f.c) m.a (pu m) (fun n f _=>ya n f) (by omega);refine⟨by omega,?_⟩;unfold qp;have i:nE m.a=(m.a.map fun f:ai=>valsN f.c).sum:=rfl;unfold pu at a d c b;omega
structure LenM (m:au):Prop where
 a:m.a.length≤reachBytes
 d:m.d.length≤reachBytes
 e:m.e.length≤reachBytes
 c:∀f∈m.a,f.c.length≤reachBytes
 b:∀t∈m.d,t.b.length≤reachBytes
 replies:∀s∈m.e,s.a.a.length≤reachBytes∧s.a.b.length≤reachBytes∧∀f∈s.a.a,f.c.length≤reachBytes
theorem yd{f:ai}(a:f.c.length≤reachBytes)(b:wN f):vF f.c≤1000000000000000000:=Fi a (fun v c=>(b.c v c).2.2)
theorem DN{m:au}{vs:List tS}{w:J}(hm:bG.at_ w (fun b=>b<w.heap.size) m vs)(hl:LenM m):Calls Tryz.prog 6 #[Value.agg vs.toArray] w (aZ (nF m) w):=by
 have b5:=yC hm;obtain⟨cq,_,_,sf,st,ss,u,cr,cu,cv⟩:=fC.1 hm;subst u;obtain⟨pf,cf,dv⟩:=Rd.q cr;obtain⟨pt,ct,ef⟩:=Rd.q cu;obtain⟨ps,cs,eg⟩:=Rd.q cv;obtain⟨nf,aq⟩:=zzy (m.a.length);obtain⟨L,M⟩:=zzy (m.d.length);obtain⟨ns,ar⟩:=zzy (m.e.length);rw[aq]at dv;rw[M]at ef;rw[ar]at eg;subst dv;subst ef;subst eg;have hR:nf≤140737488355328:=by have:=hl.a;rw[aq]at this;unfold reachBytes at this;omega
 have hS:L≤140737488355328:=by have:=hl.d;rw[M]at this;unfold reachBytes at this;omega
 have hU:ns≤140737488355328:=by have:=hl.e;rw[ar]at this;unfold reachBytes at this;omega
 obtain⟨tx,bm⟩:=zzy (m.c);obtain⟨nx,en⟩:=zzy (m.g);obtain⟨mn,eo⟩:=zzy (m.h);rw[bm]at cq;rw[bm,en,eo];obtain⟨w1,bn⟩:=zzx (w.alloc (r7 #[r9 tx,I U nx,O pf nf cf,O pt L ct,O ps ns cs,I U mn] 28));have F:Kr w w1:=by rw[bn];exact (JO _ w).alloc (JM _) _
 have cy:w1.heap[w.heap.size]?=A (r7 #[r9 tx,I U nx,O pf nf cf,O pt L ct,O ps ns cs,I U mn] 28 (0,0)):=by rw[bn];exact oc w _
 have HX:=Hd (fun W (N:Kr w1 W)=>aa N cy (JL.1 cy).1);have HB:=Hd (fun W (N:Kr w1 W)=>F.trans (N.mono F.size));have gE:=Hd (fun W (N:Kr w1 W)=>al cr (F.trans (N.mono F.size)));have gF:=Hd (fun W (N:Kr w1 W)=>al cu (F.trans (N.mono F.size)));have gH:=Hd (fun W (N:Kr w1 W)=>al cv (F.trans (N.mono F.size)));obtain⟨er,HF,HT,HS,a1,b6⟩:=zz6 bn aq M ar hl b5;obtain⟨r1,cA⟩:=zzy (goN gX m.a (nf+L+ns));obtain⟨r2,cC⟩:=zzy (goN rz m.d r1);obtain⟨r3,cR⟩:=zzy (goN l7 m.e r2);have hg:nF m=(decide (4000<tx.size)||decide (1500<r3)):=by rw[←cR,←cC,←cA,←aq,←M,←ar,←bm];rfl
 obtain⟨bg,cT⟩:=zzy (nF m);rw[cT];obtain⟨et,gL,gM,gN⟩:=zz4 (cT.symm.trans hg) cA cC cR;have hV:tx.size≤9223372036854775807:=by unfold maxLen at cq;omega
 clear hm hl b5 cq cr cu cv aq M ar bm en eo F cy bn cA cC cR hg cT
 go_enter Tryz.func6,Tryz.ntmps6
 go_upto_region 1 with fail
 change Code.wp _ _ _ _ (w.alloc (r7 #[r9 tx,I U nx,O pf nf cf,O pt L ct,O ps ns cs,I U mn] 28));rw[←er.o];clear er;obtain⟨⟨x0,x1,x2,x3,x4,x5⟩,_⟩:=aC (HX.o w1 (JO _ _))
 by_cases cV:4000<tx.size
 ·have e0:(4000:Int)<tx.size:=by omega
  have HO:Hid (bg=tT):=by show _=_;rw[et.o,decide_eq_true cV];rfl
  have H0:=Hd (HB.o w1 (JO _ _));go_wp2_with fail
  go_ret;exact⟨by rw[HO.o];rfl,H0.o⟩
 have e0:¬(4000:Int)<tx.size:=by omega
 have gO:Hid (∀W,Kr w1 W→aZ bg w (Ending.returned (Value.bool (decide (1500<(r3:Int))))) W):=fun W N=>by
  refine⟨?_,HB.o W N⟩;rw[et.o,oE cV,Bool.false_or]
  by_cases h:1500<r3
  ·rw[decide_eq_true h,decide_eq_true (show (1500:Int)<r3 by omega)]
  ·rw[oE h,oE (show ¬(1500:Int)<r3 by omega)]
 clear cV;obtain⟨T,hT⟩:∃T:Nat,T=4000000000000000000:=⟨_,rfl⟩;have gS:nf+L+ns≤T:=by omega
 go_upto_region 4 with fail
 go_wp2_with fail
 go_loopw [4,3] (xZ w1 nf T gX m.a r1) (fun i _ _=>nf-(intOf i).toNat)
 case atStart=>exact⟨_,0,nf+L+ns,Z,J0 _,Z,by go_num,gS,JO _ _,gL.o⟩
 case round =>
  clear x0 x1 x2 x3 x4 x5;obtain⟨W1,k,n,rfl,hk,rfl,rfl,M,hb,e2⟩:=hrel;have a6:=Hd e2;clear e2;obtain⟨⟨x0,x1,x2,x3,x4,x5⟩,_⟩:=aC (HX.o W1 hb);have cW:=Hd hb
  by_cases P:k<nf∧n≤1500
  ·obtain⟨p,hle⟩:=P;obtain⟨f,t⟩:∃x,m.a[k]?=A x:=⟨_,JR (by rw[HF.o];exact p)⟩;have u:=Rd.X (gE.o W1 hb) t;rw[HF.o]at u;obtain⟨b1,off,cap,vs,Q,_,_,_,_,z,a⟩:=u;injection Q with e1 _ e3
   subst e1;subst e3;obtain⟨_,_,sl,rfl,D⟩:=bW.1 z;have g:=J8 t;have q:=a1.o.c f g;have d:=yd q (b6.o.a f g);have j:=Hd (oh f.c sl W1 D q);obtain⟨p6,c6,y⟩:=Rd.q D;obtain⟨m6,ad⟩:=zzy (f.c.length);rw[ad]at y;subst y;have d2:W1.cell? ⟨b1,off+k*3+2,Y⟩=A (O p6 m6 c6):=a 2 _ Z;obtain⟨v6,c0⟩:=zzy (vF f.c);rw[c0]at j d;have l:goN gX (m.a.drop (k+1)) (n+v6)=r1:=by
    rw[←a6.o,po t hle];unfold gX;rw[c0]
   have e4:=Hd l;have c1:(k:Int)<nf:=by omega
   have ba:(n:Int)≤1500:=by omega
   have c:=Nat.add_le_add hle d;have B:n+v6≤T:=by rw[hT];exact JU c (by decide)
   have C:wrap64 ((n:Int)+(v6:Int))=((n+v6:Nat):Int):=nj (JU c (by decide));have H:=Hd (And.intro B C);clear z a t g D ad c0 l hb q c B d;go_wp2_with fail
   refine j.o.mono ?_;rintro e W2 ⟨rfl,e5⟩;have gT:=Hd (cW.o.trans (e5.mono cW.o.size));clear e5 j d2 x0 x1 x2 x3 x4 x5;go_wp2_with fail
   exact⟨⟨_,k+1,n+v6,Z,by omega,by go_num,by first|(rw[C])|(rw[Int.natCast_add]),H.o.1,gT.o,e4.o⟩,by simp[intOf];omega⟩
  ·have hend:n=r1:=by
    by_cases p:k<nf
    ·have hle:¬n≤1500:=fun h=>P ⟨p,h⟩
     rw[←a6.o,nK hle]
    ·have R:k=nf:=by omega
     rw[←a6.o,R,←HF.o,List.drop_length];rfl
   subst hend;have hex:(k=nf)∨(k<nf∧1500<n):=by omega
   have ha:=Hd M;clear hb P;rcases hex with rfl|⟨p,hX⟩
   all_goals (
    try (have hA:(k:Int)<nf:=by omega)
    try (have hC:¬(n:Int)≤1500:=by omega)
    go_wp2_with fail
    go_loopw [5,3] (xZ w1 L T rz m.d r2) (fun i _ _=>L-(intOf i).toNat)
    case atStart=>exact⟨_,0,n,Z,J0 _,Z,Z,ha.o,cW.o,gM.o⟩
    case round =>
     clear x0 x1 x2 x3 x4 x5;obtain⟨W3,k3,n3,rfl,hY,rfl,rfl,e6,bb,b7⟩:=hrel;have bd:=Hd b7;clear b7;obtain⟨⟨x0,x1,x2,x3,x4,x5⟩,_⟩:=aC (HX.o W3 bb);have b8:=Hd bb
     by_cases P:k3<L∧n3≤1500
     ·obtain⟨p,hle⟩:=P;obtain⟨f,t⟩:∃x,m.d[k3]?=A x:=⟨_,JR (by rw[HT.o];exact p)⟩;have u:=Rd.X (gF.o W3 bb) t;rw[HT.o]at u;obtain⟨b1,off,cap,vs,Q,_,_,_,_,z,a⟩:=u;injection Q with e1 _ e3
      subst e1;subst e3;obtain⟨_,sl,rfl,D⟩:=gz.1 z;have q:=a1.o.b f (J8 t);obtain⟨p6,c6,y⟩:=Rd.q D;obtain⟨m6,ad⟩:=zzy (f.b.length);rw[ad]at y q;subst y;have d1:W3.cell? ⟨b1,off+k3*2+1,Y⟩=A (O p6 m6 c6):=a 1 _ Z;have l:goN rz (m.d.drop (k3+1)) (n3+m6)=r2:=by
       rw[←bd.o,po t hle];unfold rz;rw[ad]
      have e7:=Hd l;have c1:(k3:Int)<L:=by omega
      have ba:(n3:Int)≤1500:=by omega
      have c:=Nat.add_le_add hle q;have B:n3+m6≤T:=by rw[hT];exact JU c (by decide)
      have C:wrap64 ((n3:Int)+(m6:Int))=((n3+m6:Nat):Int):=nj (JU c (by decide));have H:=Hd (And.intro B C);have hD:m6≤9223372036854775807:=JU q (by decide);clear z a t D ad l bb q c B C;go_wp2_with fail
      exact⟨⟨_,k3+1,n3+m6,Z,by omega,by go_num,by first|(rw[H.o.2])|(rw[Int.natCast_add]),H.o.1,b8.o,e7.o⟩,by simp[intOf];omega⟩
     ·have hend:n3=r2:=by
       by_cases p:k3<L
       ·have hle:¬n3≤1500:=fun h=>P ⟨p,h⟩
        rw[←bd.o,nK hle]
       ·have R:k3=L:=by omega
        rw[←bd.o,R,←HT.o,List.drop_length];rfl
      subst hend;have hex:(k3=L)∨(k3<L∧1500<n3):=by omega
      have hd:=Hd e6;clear bb P;rcases hex with rfl|⟨hE,hG⟩
      all_goals (
       try (have hf:(k3:Int)<L:=by omega)
       try (have hh:¬(n3:Int)≤1500:=by omega)
       go_wp2_with fail
       go_loopw [6,3] (xZ w1 ns T l7 m.e r3) (fun i _ _=>ns-(intOf i).toNat)
       case atStart=>exact⟨_,0,n3,Z,J0 _,Z,Z,hd.o,b8.o,gN.o⟩
       case round =>
        clear x0 x1 x2 x3 x4 x5;obtain⟨W5,V,X,rfl,h0,rfl,rfl,hI,K,ca⟩:=hrel;have bk:=Hd ca;clear ca;obtain⟨⟨x0,x1,x2,x3,x4,x5⟩,_⟩:=aC (HX.o W5 K);have hJ:=Hd K
        by_cases P:V<ns∧X≤1500
        ·obtain⟨p,hle⟩:=P;obtain⟨s,bq⟩:∃x,m.e[V]?=A x:=⟨_,JR (by rw[HS.o];exact p)⟩;have u:=Rd.X (gH.o W5 K) bq;rw[HS.o]at u;obtain⟨b1,off,cap,vs,Q,_,_,_,_,z,a⟩:=u;injection Q with e1 _ e3
         subst e1;subst e3;obtain⟨_,_,rs,rfl,e8⟩:=gx.1 z;obtain⟨_,_,qf,qs,rfl,c3,c5⟩:=cY.1 e8;have g:=J8 bq;obtain⟨bt,bB,q⟩:=a1.o.replies s g;obtain⟨_,_,_,_,e9,fm⟩:=b6.o.e s g;have d:=Fi bB (fun v hv=>(fm v hv).2.2);obtain⟨p6,c6,y⟩:=Rd.q c3;obtain⟨p7,c7,cb⟩:=Rd.q c5;obtain⟨G,bR⟩:=zzy (s.a.a.length);obtain⟨n7,b0⟩:=zzy (s.a.b.length);rw[bR]at y bt;rw[b0]at cb;subst y cb;have d2:W5.cell? ⟨b1,off+V*6+2,Y⟩=A (I U s.a.h):=a 2 _ Z;have d3:W5.cell? ⟨b1,off+V*6+3,Y⟩=A (I U s.a.u):=a 3 _ Z;have d4:W5.cell? ⟨b1,off+V*6+4,Y⟩=A (O p6 G c6):=a 4 _ Z;have d5:W5.cell? ⟨b1,off+V*6+5,Y⟩=A (O p7 n7 c7):=a 5 _ Z;obtain⟨W6,b2⟩:=zzx (W5.alloc (r7 #[I U s.a.h,I U s.a.u,O p6 G c6,O p7 n7 c7] 52));have af:Kr W5 W6:=by rw[b2];exact (JO _ W5).alloc (JM _) _
         have b3:W6.heap[W5.heap.size]?=A (r7 #[I U s.a.h,I U s.a.u,O p6 G c6,O p7 n7 c7] 52 (0,0)):=by rw[b2];exact oc W5 _
         have j:=Hd (fun x:Wb W6=>oh s.a.b (O p7 n7 c7) x.1 (al c5 (af.trans (x.2.mono af.size))) (by rw[b0];rw[b0]at bB;exact bB));have hj:=Hd (fun W (N:Kr W6 W)=>al c3 (af.trans (N.mono af.size)));have fr:=Hd (fun W (N:Kr W6 W)=>aa N b3 (JL.1 b3).1);obtain⟨fs,ft,c8,hn,ho⟩:=zz5 (K.trans (af.mono K.size)) b2 bR q e9;obtain⟨v7,dd⟩:=zzy (vF s.a.b);rw[dd]at j d;obtain⟨r5,dg⟩:=zzy (goN gX s.a.a (X+v7+G));have l:goN l7 (m.e.drop (V+1)) r5=r3:=by
          rw[←bk.o,po bq hle];unfold l7;rw[dd,bR,dg]
         obtain⟨fv,hp⟩:=zz2 l dg;have c1:(V:Int)<ns:=by omega
         have ba:(X:Int)≤1500:=by omega
         have c:=Nat.add_le_add (Nat.add_le_add hle d) bt;have cc:=Nat.add_le_add hle d;have B:X+v7+G≤T:=by rw[hT];exact JU c (by decide)
         have C:wrap64 ((X:Int)+(v7:Int))=((X+v7:Nat):Int):=nj (JU cc (by decide));have ch:wrap64 (((X+v7:Nat):Int)+(G:Int))=((X+v7+G:Nat):Int):=nj (JU c (by decide));have H:=Hd (And.intro B (And.intro C ch));have hK:G≤9223372036854775807:=JU bt (by decide);obtain⟨y0,y1,y2,y3,_⟩:=bC b3;have Y0:=fun x:Wb W6=>x.h y0
         have Y1:=fun x:Wb W6=>x.h y1
         have Y2:=fun x:Wb W6=>x.h y2
         have Y3:=fun x:Wb W6=>x.h y3
         clear z a bq g e8 c3 c5 bR b0 bt bB q e9 fm dd dg l K af b3 b2 c cc B C ch d y0 y1 y2 y3;go_upto_region 16 with fail
         change Code.wp _ _ _ _ (W5.alloc (r7 #[I U s.a.h,I U s.a.u,O p6 G c6,O p7 n7 c7] 52));rw[←ft.o];clear ft d2 d3 d4 d5 x0 x1 x2 x3 x4 x5;refine ao (by kernel_rfl) (by kernel_rfl) ?_
         repeat (go_big_quiet_step ((go_at_call 16;exact Calls.h (j.o _))))
         refine wpQuiet_nil ?_;intro W7 fz;have dn:=bA fz;have fI:=Hd dn;obtain⟨y0,y1,y2,y3,_⟩:=bC (fr.o W7 dn);clear fz dn Y0 Y1 Y2 Y3 j;go_wp2_with fail
         go_loopw [8,3] (xZ W7 G T gX s.a.a r5) (fun i _ _=>G-(intOf i).toNat)
         case atStart=>exact⟨_,0,X+v7+G,Z,J0 _,Z,by rw[H.o.2.1,H.o.2.2],H.o.1,JO _ _,hp.o⟩
         case round =>
          clear y0 y1 y2 y3;obtain⟨W8,k8,n8,rfl,h1,rfl,rfl,fT,b4,ck⟩:=hrel;have bl:=Hd ck;have E:=fI.o.trans (b4.mono fI.o.size);have hL:=Hd E;obtain⟨y0,y1,y2,y3,_⟩:=bC (fr.o W8 E);have cl:=Hd b4;clear ck
          by_cases P:k8<G∧n8≤1500
          ·obtain⟨p,hle⟩:=P;obtain⟨f,t⟩:∃x,s.a.a[k8]?=A x:=⟨_,JR (by rw[c8.o];exact p)⟩;have u:=Rd.X (hj.o W8 E) t;rw[c8.o]at u;obtain⟨b9,gf,hM,vs,Q,_,_,_,_,z,a⟩:=u;injection Q with e1 _ e3
           subst e1;subst e3;obtain⟨_,_,sl,rfl,D⟩:=bW.1 z;have g:=J8 t;have q:=hn.o f g;have d:=yd q (ho.o f g);have j:=Hd (oh f.c sl W8 D q);obtain⟨p9,c9,cm⟩:=Rd.q D;obtain⟨m9,gg⟩:=zzy (f.c.length);rw[gg]at cm;subst cm;have d2:W8.cell? ⟨b9,gf+k8*3+2,Y⟩=A (O p9 m9 c9):=a 2 _ Z;obtain⟨v9,ds⟩:=zzy (vF f.c);rw[ds]at j d;have l:goN gX (s.a.a.drop (k8+1)) (n8+v9)=r5:=by
            rw[←bl.o,po t hle];unfold gX;rw[ds]
           have gr:=Hd l;have c1:(k8:Int)<G:=by omega
           have ba:(n8:Int)≤1500:=by omega
           have c:=Nat.add_le_add hle d;have B:n8+v9≤T:=by rw[hT];exact JU c (by decide)
           have C:wrap64 ((n8:Int)+(v9:Int))=((n8+v9:Nat):Int):=nj (JU c (by decide));have cn:=Hd (And.intro B C);clear z a t g D gg ds l b4 E q c B d C;go_wp2_with fail
           refine j.o.mono ?_;rintro e W9 ⟨rfl,gD⟩;have hq:=Hd (cl.o.trans (gD.mono cl.o.size));clear gD j d2 y0 y1 y2 y3;go_wp2_with fail
           exact⟨⟨_,k8+1,n8+v9,Z,by omega,by go_num,by first|(rw[cn.o.2])|(rw[Int.natCast_add]),cn.o.1,hq.o,gr.o⟩,by simp[intOf];omega⟩
          ·have hend:n8=r5:=by
            by_cases p:k8<G
            ·have hle:¬n8≤1500:=fun h=>P ⟨p,h⟩
             rw[←bl.o,nK hle]
            ·have R:k8=G:=by omega
             rw[←bl.o,R,←c8.o,List.drop_length];rfl
           have hex:(k8=G)∨(k8<G∧1500<n8):=by omega
           have S:=fv.o;rw[←hend]at S;obtain⟨dt,hr,hs⟩:=zz3 S fT (fs.o.trans (E.mono fs.o.size));clear b4 E P hend S;rcases hex with rfl|⟨hN,hO⟩
           all_goals (
            try (have ht:(k8:Int)<G:=by omega)
            try (have hx:¬(n8:Int)≤1500:=by omega)
            go_wp2_with fail
            exact⟨⟨_,V+1,n8,Z,by omega,by go_num,Z,hr.o,hs.o,dt.o⟩,by simp[intOf];omega⟩)
        ·have hend:X=r3:=by
          by_cases p:V<ns
          ·have hle:¬X≤1500:=fun h=>P ⟨p,h⟩
           rw[←bk.o,nK hle]
          ·have R:V=ns:=by omega
           rw[←bk.o,R,←HS.o,List.drop_length];rfl
         subst hend;have hex:(V=ns)∨(V<ns∧1500<X):=by omega
         have cp:=Hd (gO.o W5 K);clear K P;rcases hex with rfl|⟨hP,hQ⟩
         all_goals (
          try (have hy:(V:Int)<ns:=by omega)
          try (have hz:¬(X:Int)≤1500:=by omega)
          go_wp2_with fail
          go_ret
          first|exact cp.o|(have h:=cp.o;rw[decide_eq_true (show (1500:Int)<(X:Int) by omega)]at h;exact h))))
def jn(x n:Int):Int:=if x.tmod n<0 then x.tmod n+n else x.tmod n
theorem xW(x n:Int)(d:1≤n):0≤jn x n∧jn x n<n:=by
 have a:=Int.tmod_lt_of_pos x (b:=n) (by omega);have c:-n<x.tmod n:=Int.lt_tmod_of_pos x (b:=n) (by omega);unfold jn
 split<;>omega
def B9(x n:Int) (w:J) (e:Ending) (w':J):Prop:=e=Ending.returned (I U (jn x n))∧Kr w w'
theorem AD(x n:Int)(w:J)(h:1≤n)(d:n≤1000000) :
  Calls Tryz.prog 12 #[I U x,I U n] w (B9 x n w):=by
 have f:=Int.tmod_lt_of_pos x (b:=n) (by omega);have g:-n<x.tmod n:=Int.lt_tmod_of_pos x (b:=n) (by omega)
 go_enter Tryz.func12,Tryz.ntmps12
 by_cases a:x.tmod n<0
 ·have e:jn x n=x.tmod n+n:=by unfold jn;rw[oj a]
  have c:=Hd e;clear e
  go_wp2
  go_ret;exact⟨by rw[c.o];rfl,JO _ _⟩
 ·have e:jn x n=x.tmod n:=by unfold jn;rw[oe a]
  have c:=Hd e;clear e
  go_wp2
  go_ret;exact⟨by rw[c.o];rfl,JO _ _⟩
