/- Parts of one proof, joined; conditions stand in each theorem. -/
import Derived.Test.YtoonjedifockoaaGreatDoorMD
import Derived.Test.YtoonjedifockoaaGreatDoorNJ
namespace Go.Proofs.YtoonjedifockoaaGreatDoor
open Go.IntKind(i64)
open Go.Value(int string slice)
set_option maxHeartbeats 2000000
set_option maxRecDepth 100000
open Go.RowKit
def gj{α:Type} (r:Rd α) (f:Nat):Prop:=∀(x:α) (vs a:List Value) (w:World),r.at_ w (fun b=>b<w.heap.size) x vs→r.at_ w (fun b=>b<w.heap.size) x a→Calls Tryz.prog f #[.agg vs.toArray,.agg a.toArray] w (ax w)
theorem su(l:List ai)(u v:Value)(w:World)(hu:bo.row w (fun b=>b<w.heap.size) l u)(D:bo.row w (fun b=>b<w.heap.size) l v):Calls Tryz.prog 42 #[u,v] w (ax w):=by
 obtain⟨p,c,E⟩:=Rd.row_shape hu;obtain⟨q,Z,F⟩:=Rd.row_shape D;have r:=Rd.row_len hu;subst E;subst F;obtain⟨n,G⟩:=zzy (l.length);have Q:=Hd (fun W (H:Ft w W)=>Rd.row_below hu (fun _ h=>h) H);have R:=Hd (fun W (H:Ft w W)=>Rd.row_below D (fun _ h=>h) H);rw[G]at Q R r ⊢;have I:=Hd G;have T:(n:Int)≤9223372036854775807:=by unfold maxLen at r;omega
 clear hu D G r
 go_enter Tryz.func42,Tryz.ntmps42
 go_wp2
 go_loopw [5] (ie w n) (fun i _=>n-(intOf i).toNat)
 case atStart=>exact⟨_,0,rfl,EM _,rfl,EB _ _⟩
 case round =>
  obtain⟨e,k,rfl,hk,rfl,s⟩:=hrel
  by_cases J:k<n
  ·obtain⟨x,K⟩:∃x,l[k]?=some x:=⟨_,EE (by rw[I.o];exact J)⟩;have y:=Rd.row_at (Q.o e s) K;rw[I.o]at y;obtain⟨b,off,cap,vs,L,_,_,_,_,A,d⟩:=y;injection L with M _ U
   subst M;subst U;have d:∀m z,vs[m]?=some z→e.cell? ⟨b,off+k*2+m,none⟩=some z:=d;have g:=Rd.row_at (R.o e s) K;rw[I.o]at g;obtain⟨b',f,S,N,B,_,_,_,_,j,a⟩:=g;injection B with O _ P
   subst O;subst P;have a:∀m z,N[m]?=some z→e.cell? ⟨b',f+k*2+m,none⟩=some z:=a;obtain⟨rfl,_,_⟩:=dN.1 A;obtain⟨rfl,_,_⟩:=dN.1 j;have d0:e.cell? ⟨b,off+k*2,none⟩=some (.string x.name):=d 0 _ rfl;have d1:e.cell? ⟨b,off+k*2+1,none⟩=some (int i64 x.fields):=d 1 _ rfl;have V:e.cell? ⟨b',f+k*2,none⟩=some (.string x.name):=a 0 _ rfl;have M:e.cell? ⟨b',f+k*2+1,none⟩=some (int i64 x.fields):=a 1 _ rfl;have C:Ft e e.drew:=(EB _ e).drew;have t:=Hd (s.trans (C.mono s.size));have X:(0:Int)≤k:=by omega
   have Y:(k:Int)<n:=by omega
   clear A j d a K C s
   go_wp2
   go_still_tail 8,(by kernel_rfl)
   change wpList _ _ _ _ _ e.drew;generalize e.drew=W2 at *;clear d0 d1 V M;go_wp2_with fail
   exact⟨⟨_,k+1,rfl,by omega,by go_num,t.o⟩,by simp[intOf];omega⟩
  ·obtain rfl:k=n:=by omega
   have t:=Hd s;clear s
   go_wp2
   go_ret;exact⟨rfl,t.o⟩
theorem tg(l:List cg)(u v:Value)(w:World)(hu:dm.row w (fun b=>b<w.heap.size) l u)(D:dm.row w (fun b=>b<w.heap.size) l v):Calls Tryz.prog 130 #[u,v] w (ax w):=by
 obtain⟨p,c,E⟩:=Rd.row_shape hu;obtain⟨q,c',F⟩:=Rd.row_shape D;have r:=Rd.row_len hu;subst E;subst F;obtain⟨n,G⟩:=zzy (l.length);have R:=Hd (fun W (H:Ft w W)=>Rd.row_below hu (fun _ h=>h) H);have S:=Hd (fun W (H:Ft w W)=>Rd.row_below D (fun _ h=>h) H);rw[G]at R S r ⊢;have I:=Hd G;have U:(n:Int)≤9223372036854775807:=by unfold maxLen at r;omega
 clear hu D G r
 go_enter Tryz.func130,Tryz.ntmps130
 go_wp2
 go_loopw [5] (ie w n) (fun i _=>n-(intOf i).toNat)
 case atStart=>exact⟨_,0,rfl,EM _,rfl,EB _ _⟩
 case round =>
  obtain⟨f,k,rfl,hk,rfl,s⟩:=hrel
  by_cases J:k<n
  ·obtain⟨x,K⟩:∃x,l[k]?=some x:=⟨_,EE (by rw[I.o];exact J)⟩;have y:=Rd.row_at (R.o f s) K;rw[I.o]at y;obtain⟨b,off,cap,vs,L,_,_,_,_,A,d⟩:=y;injection L with M _ N
   subst M;subst N;have d:∀m z,vs[m]?=some z→f.cell? ⟨b,off+k*5+m,none⟩=some z:=d;have g:=Rd.row_at (S.o f s) K;rw[I.o]at g;obtain⟨b',e,T,O,B,_,_,_,_,j,a⟩:=g;injection B with P _ Q
   subst P;subst Q;have a:∀m z,O[m]?=some z→f.cell? ⟨b',e+k*5+m,none⟩=some z:=a;obtain⟨rfl,_⟩:=eP.1 A;obtain⟨rfl,_⟩:=eP.1 j;have d0:f.cell? ⟨b,off+k*5,none⟩=some (int .u8 x.kind):=d 0 _ rfl;have d1:f.cell? ⟨b,off+k*5+1,none⟩=some (int i64 x.var):=d 1 _ rfl;have d2:f.cell? ⟨b,off+k*5+2,none⟩=some (int .u8 x.val.kind):=d 2 _ rfl;have d3:f.cell? ⟨b,off+k*5+3,none⟩=some (int i64 x.val.num):=d 3 _ rfl;have d4:f.cell? ⟨b,off+k*5+4,none⟩=some (.string x.val.text):=d 4 _ rfl;have V:f.cell? ⟨b',e+k*5,none⟩=some (int .u8 x.kind):=a 0 _ rfl;have M:f.cell? ⟨b',e+k*5+1,none⟩=some (int i64 x.var):=a 1 _ rfl;have X:f.cell? ⟨b',e+k*5+2,none⟩=some (int .u8 x.val.kind):=a 2 _ rfl;have N:f.cell? ⟨b',e+k*5+3,none⟩=some (int i64 x.val.num):=a 3 _ rfl;have Y:f.cell? ⟨b',e+k*5+4,none⟩=some (.string x.val.text):=a 4 _ rfl;have C:Ft f f.drew:=(EB _ f).drew;have t:=Hd (s.trans (C.mono s.size));have Z:(0:Int)≤k:=by omega
   have ad:(k:Int)<n:=by omega
   clear A j d a K C s
   go_wp2
   go_still_tail 8,(by kernel_rfl)
   change wpList _ _ _ _ _ f.drew;generalize f.drew=W2 at *;clear d0 d1 d2 d3 d4 V M X N Y;go_wp2_with fail
   exact⟨⟨_,k+1,rfl,by omega,by go_num,t.o⟩,by simp[intOf];omega⟩
  ·obtain rfl:k=n:=by omega
   have t:=Hd s;clear s
   go_wp2
   go_ret;exact⟨rfl,t.o⟩
theorem jG(d:Nat)(l:List ag)(hf:l=[]∨gj (ay d) 131)(u v:Value)(w:World)(hu:(ay d).row w (fun b=>b<w.heap.size) l u)(V:(ay d).row w (fun b=>b<w.heap.size) l v):Calls Tryz.prog 133 #[u,v] w (ax w):=by
 obtain⟨p,c,X⟩:=Rd.row_shape hu;obtain⟨q,c',Y⟩:=Rd.row_shape V;have K:=Rd.row_len hu;subst X;subst Y;obtain⟨n,Z⟩:=zzy (l.length);have HU:=Hd (fun W (hW:Ft w W)=>Rd.row_below hu (fun _ h=>h) hW);have HV:=Hd (fun W (hW:Ft w W)=>Rd.row_below V (fun _ h=>h) hW);have HF:=Hd hf;rw[Z]at HU HV K ⊢;have HN:=Hd Z;have a1:(n:Int)≤9223372036854775807:=by unfold maxLen at K;omega
 clear hu V Z K hf
 go_enter Tryz.func133,Tryz.ntmps133
 go_wp2
 go_loopw [5] (ie w n) (fun i _=>n-(intOf i).toNat)
 case atStart=>exact⟨_,0,rfl,EM _,rfl,EB _ _⟩
 case round =>
  obtain⟨g,k,rfl,hk,rfl,A⟩:=hrel
  by_cases ad:k<n
  ·obtain⟨x,P⟩:∃x,l[k]?=some x:=⟨_,EE (by rw[HN.o];exact ad)⟩;have Q:=Rd.row_at (HU.o g A) P;rw[HN.o]at Q;obtain⟨b,off,cap,vs,af,_,_,_,_,L,f⟩:=Q;injection af with e1 _ e3
   subst e1;subst e3;have f:∀m z,vs[m]?=some z→g.cell? ⟨b,off+k*7+m,none⟩=some z:=by simpa only [cB]using f
   have E:=Rd.row_at (HV.o g A) P;rw[HN.o]at E;obtain⟨b',j,av,ak,R,_,_,_,_,r,a⟩:=E;injection R with an _ aq
   subst an;subst aq;have a:∀m z,ak[m]?=some z→g.cell? ⟨b',j+k*7+m,none⟩=some z:=by simpa only [cB]using a
   have F:=L;have s:=r;obtain⟨_,s0,rfl,S⟩:=bZ.1 L;obtain⟨T,U,G⟩:=aI S;obtain⟨_,a6,rfl,H⟩:=bZ.1 r;obtain⟨I,J,t⟩:=aI H;obtain⟨B,y⟩:=zzy (x.kids.length);rw[y]at G;subst G;rw[y]at t;subst t;have d0:g.cell? ⟨b,off+k*7,none⟩=some (int .u8 x.kind):=f 0 _ rfl;have d1:g.cell? ⟨b,off+k*7+1,none⟩=some (int .u8 x.val.kind):=f 1 _ rfl;have d2:g.cell? ⟨b,off+k*7+2,none⟩=some (int i64 x.val.num):=f 2 _ rfl;have d3:g.cell? ⟨b,off+k*7+3,none⟩=some (.string x.val.text):=f 3 _ rfl;have d4:g.cell? ⟨b,off+k*7+4,none⟩=some (int i64 x.var):=f 4 _ rfl;have d5:g.cell? ⟨b,off+k*7+5,none⟩=some (int .u8 x.op):=f 5 _ rfl;have d6:g.cell? ⟨b,off+k*7+6,none⟩=some (.slice T B U):=f 6 _ rfl;have e0:g.cell? ⟨b',j+k*7,none⟩=some (int .u8 x.kind):=a 0 _ rfl;have e1:g.cell? ⟨b',j+k*7+1,none⟩=some (int .u8 x.val.kind):=a 1 _ rfl;have e2:g.cell? ⟨b',j+k*7+2,none⟩=some (int i64 x.val.num):=a 2 _ rfl;have e3:g.cell? ⟨b',j+k*7+3,none⟩=some (.string x.val.text):=a 3 _ rfl;have e4:g.cell? ⟨b',j+k*7+4,none⟩=some (int i64 x.var):=a 4 _ rfl;have e5:g.cell? ⟨b',j+k*7+5,none⟩=some (int .u8 x.op):=a 5 _ rfl;have e6:g.cell? ⟨b',j+k*7+6,none⟩=some (.slice I B J):=a 6 _ rfl;have C:Ft g g.drew:=(EB _ g).drew;have M:∀b,(b<w.heap.size)→b<g.drew.heap.size:=fun b h=>EF h (EG A.size C.size)
   have N:∀b,b<w.heap.size→∀o,g.heap[b]?=some o→g.drew.heap[b]?=some o:=fun b h o ho=>(C.block b (EF h A.size)).trans ho
   have O:Hid (Calls Tryz.prog 131 #[.agg #[int .u8 x.kind,int .u8 x.val.kind,int i64 x.val.num,.string x.val.text,int i64 x.var,int .u8 x.op,.slice T B U],.agg #[int .u8 x.kind,int .u8 x.val.kind,int i64 x.val.num,.string x.val.text,int i64 x.var,int .u8 x.op,.slice I B J]] g.drew (ax g.drew)):=(HF.o.resolve_left (fun h=>by rw[h]at P;simp at P)) x _ _ g.drew ((ay d).sub M ((ay d).keep N F)) ((ay d).sub M ((ay d).keep N s));have D:=Hd (A.trans (C.mono A.size));have a7:(0:Int)≤k:=by omega
   have a8:(k:Int)<n:=by omega
   clear L r f a P C A S H y F s M N
   go_wp2
   go_still_tail 8,(by kernel_rfl)
   change wpList _ _ _ _ _ g.drew;generalize g.drew=W2 at *;clear d0 d1 d2 d3 d4 d5 d6 e0 e1 e2 e3 e4 e5 e6;go_wp2_with fail
   refine O.o.mono ?_;rintro e W3 ⟨rfl,ar⟩;go_wp2_with fail
   exact⟨⟨_,k+1,rfl,by omega,by go_num,D.o.trans (ar.mono D.o.size)⟩,by simp[intOf];omega⟩
  ·obtain rfl:k=n:=by omega
   have D:=Hd A;clear A
   go_wp2
   go_ret;exact⟨rfl,D.o⟩
theorem nP(d:Nat)(G:∀(l:List ag)(u v:Value)(w:World),cu w (fun b=>b<w.heap.size) d l u→cu w (fun b=>b<w.heap.size) d l v→Calls Tryz.prog 133 #[u,v] w (ax w)):gj (ay d) 131:=by
 intro x vs H w q i;obtain⟨_,z,rfl,k⟩:=bZ.1 q;obtain⟨_,g,rfl,a⟩:=bZ.1 i;have A:Ft w ((w.alloc (.cells #[int .u8 x.kind,int .u8 x.val.kind,int i64 x.val.num,.string x.val.text,int i64 x.var,int .u8 x.op,z] 50)).alloc (.cells #[int .u8 x.kind,int .u8 x.val.kind,int i64 x.val.num,.string x.val.text,int i64 x.var,int .u8 x.op,g] 50)):=((EB _ w).alloc (EA _) _).alloc (by simp) _;have n:∀b,(b<w.heap.size)→b<((w.alloc (.cells #[int .u8 x.kind,int .u8 x.val.kind,int i64 x.val.num,.string x.val.text,int i64 x.var,int .u8 x.op,z] 50)).alloc (.cells #[int .u8 x.kind,int .u8 x.val.kind,int i64 x.val.num,.string x.val.text,int i64 x.var,int .u8 x.op,g] 50)).heap.size:=fun b h=>EF h A.size
 have p:∀b,b<w.heap.size→∀o,w.heap[b]?=some o→((w.alloc (.cells #[int .u8 x.kind,int .u8 x.val.kind,int i64 x.val.num,.string x.val.text,int i64 x.var,int .u8 x.op,z] 50)).alloc (.cells #[int .u8 x.kind,int .u8 x.val.kind,int i64 x.val.num,.string x.val.text,int i64 x.var,int .u8 x.op,g] 50)).heap[b]?=some o:=fun b h o I=>(A.block b h).trans I
 have E:=Hd (G x.kids z g _ (eh n (ea p k)) (eh n (ea p a)));have F:=Hd A;obtain⟨B,C,j⟩:=aI k;obtain⟨r,s,c⟩:=aI a;obtain⟨t,f⟩:=zzy (x.kids.length);rw[f]at j;subst j;rw[f]at c;subst c;clear A n p q i k a f
 show Calls Tryz.prog 131 #[.agg #[int .u8 x.kind,int .u8 x.val.kind,int i64 x.val.num,.string x.val.text,int i64 x.var,int .u8 x.op,.slice B t C],.agg #[int .u8 x.kind,int .u8 x.val.kind,int i64 x.val.num,.string x.val.text,int i64 x.var,int .u8 x.op,.slice r t s]] w (ax w)
 go_enter Tryz.func131,Tryz.ntmps131
 go_wp2_with fail
 refine E.o.mono ?_;rintro e W ⟨rfl,y⟩;have D:=Hd (F.o.trans (y.mono F.o.size));clear y E;go_wp2_with fail
 go_ret;exact⟨rfl,D.o⟩
theorem mS:∀(d:Nat) (l:List ag) (u v:Value) (w:World),cu w (fun b=>b<w.heap.size) d l u→cu w (fun b=>b<w.heap.size) d l v→Calls Tryz.prog 133 #[u,v] w (ax w)
 | 0,l,u,v,w,hu,a=>by
  obtain⟨rfl,p,c,rfl⟩:=hu;obtain⟨_,q,e,rfl⟩:=a;exact jG 0 [] (Or.inl rfl) _ _ w Rd.row_nil Rd.row_nil
 | d+1,l,u,v,w,hu,a=>jG d l (Or.inr (nP d (mS d))) u v w hu a
theorem fF(d:Nat):gj (ay d) 131:=nP d (mS d)
theorem sy(d:Nat)(l:List ag)(u v:Value)(w:World)(hu:(ay d).row w (fun b=>b<w.heap.size) l u)(a:(ay d).row w (fun b=>b<w.heap.size) l v):Calls Tryz.prog 133 #[u,v] w (ax w):=jG d l (Or.inr (fF d)) u v w hu a
theorem kT(d:Nat):gj (bp d) 93:=by
 intro x vs Y w K E;obtain⟨_,_,F,L,s1,rfl,I,J⟩:=dq.1 K;obtain⟨_,_,S,t,u,rfl,v,y⟩:=dq.1 E;have Q:Ft w ((w.alloc (.cells #[int .u8 x.kind,int i64 x.type,L,int .u8 x.test.kind,int .u8 x.test.val.kind,int i64 x.test.val.num,.string x.test.val.text,int i64 x.test.var,int .u8 x.test.op,s1] 52)).alloc (.cells #[int .u8 x.kind,int i64 x.type,t,int .u8 x.test.kind,int .u8 x.test.val.kind,int i64 x.test.val.num,.string x.test.val.text,int i64 x.test.var,int .u8 x.test.op,u] 52)):=((EB _ w).alloc (EA _) _).alloc (by simp) _;have s:∀b,(b<w.heap.size)→b<((w.alloc (.cells #[int .u8 x.kind,int i64 x.type,L,int .u8 x.test.kind,int .u8 x.test.val.kind,int i64 x.test.val.num,.string x.test.val.text,int i64 x.test.var,int .u8 x.test.op,s1] 52)).alloc (.cells #[int .u8 x.kind,int i64 x.type,t,int .u8 x.test.kind,int .u8 x.test.val.kind,int i64 x.test.val.num,.string x.test.val.text,int i64 x.test.var,int .u8 x.test.op,u] 52)).heap.size:=fun b h=>EF h Q.size
 have z:∀b,b<w.heap.size→∀o,w.heap[b]?=some o→((w.alloc (.cells #[int .u8 x.kind,int i64 x.type,L,int .u8 x.test.kind,int .u8 x.test.val.kind,int i64 x.test.val.num,.string x.test.val.text,int i64 x.test.var,int .u8 x.test.op,s1] 52)).alloc (.cells #[int .u8 x.kind,int i64 x.type,t,int .u8 x.test.kind,int .u8 x.test.val.kind,int i64 x.test.val.num,.string x.test.val.text,int i64 x.test.var,int .u8 x.test.op,u] 52)).heap[b]?=some o:=fun b h o M=>(Q.block b h).trans M
 have U:=Hd (tg x.args L t _ (Rd.row_sub s (Rd.row_keep z I)) (Rd.row_sub s (Rd.row_keep z v)));have N:=Hd (fun W (R:Below _ ((w.alloc (.cells #[int .u8 x.kind,int i64 x.type,L,int .u8 x.test.kind,int .u8 x.test.val.kind,int i64 x.test.val.num,.string x.test.val.text,int i64 x.test.var,int .u8 x.test.op,s1] 52)).alloc (.cells #[int .u8 x.kind,int i64 x.type,t,int .u8 x.test.kind,int .u8 x.test.val.kind,int i64 x.test.val.num,.string x.test.val.text,int i64 x.test.var,int .u8 x.test.op,u] 52)) W)=>fF d x.test _ _ W (bZ.2 ⟨F,s1,rfl,eh (fun b h=>EF (s b h) R.size) (ea (fun b h o M=>(R.block b (s b h)).trans (z b h o M)) J)⟩) (bZ.2 ⟨F,u,rfl,eh (fun b h=>EF (s b h) R.size) (ea (fun b h o M=>(R.block b (s b h)).trans (z b h o M)) y)⟩));have V:=Hd Q;obtain⟨l,n,G⟩:=Rd.row_shape I;obtain⟨f,g,A⟩:=Rd.row_shape v;obtain⟨a,B⟩:=zzy (x.args.length);rw[B]at G;subst G;rw[B]at A;subst A;obtain⟨q,r,H⟩:=aI J;obtain⟨i,j,C⟩:=aI y;obtain⟨c,D⟩:=zzy (x.test.kids.length);rw[D]at H;subst H;rw[D]at C;subst C;clear Q s z K E I v J y B D
 show Calls Tryz.prog 93 #[.agg #[int .u8 x.kind,int i64 x.type,.slice l a n,int .u8 x.test.kind,int .u8 x.test.val.kind,int i64 x.test.val.num,.string x.test.val.text,int i64 x.test.var,int .u8 x.test.op,.slice q c r],.agg #[int .u8 x.kind,int i64 x.type,.slice f a g,int .u8 x.test.kind,int .u8 x.test.val.kind,int i64 x.test.val.num,.string x.test.val.text,int i64 x.test.var,int .u8 x.test.op,.slice i c j]] w (ax w)
 go_enter Tryz.func93,Tryz.ntmps93
 go_wp2_with fail
 refine U.o.mono ?_;rintro e W ⟨rfl,k⟩;have O:=Hd (V.o.trans (k.mono V.o.size));have X:=Hd (N.o W k);have k0:W.cell? ⟨w.heap.size,0,none⟩=some (int .u8 x.kind):=(k.cell (p:=⟨w.heap.size,0,none⟩) (by simp<;>omega)).trans (Fq _ _ 0 _ _ _ (am w (.cells #[int .u8 x.kind,int i64 x.type,.slice l a n,int .u8 x.test.kind,int .u8 x.test.val.kind,int i64 x.test.val.num,.string x.test.val.text,int i64 x.test.var,int .u8 x.test.op,.slice q c r] 52) (.cells #[int .u8 x.kind,int i64 x.type,.slice f a g,int .u8 x.test.kind,int .u8 x.test.val.kind,int i64 x.test.val.num,.string x.test.val.text,int i64 x.test.var,int .u8 x.test.op,.slice i c j] 52)).1)
 have k1:W.cell? ⟨w.heap.size,1,none⟩=some (int i64 x.type):=(k.cell (p:=⟨w.heap.size,1,none⟩) (by simp<;>omega)).trans (Fq _ _ 1 _ _ _ (am w (.cells #[int .u8 x.kind,int i64 x.type,.slice l a n,int .u8 x.test.kind,int .u8 x.test.val.kind,int i64 x.test.val.num,.string x.test.val.text,int i64 x.test.var,int .u8 x.test.op,.slice q c r] 52) (.cells #[int .u8 x.kind,int i64 x.type,.slice f a g,int .u8 x.test.kind,int .u8 x.test.val.kind,int i64 x.test.val.num,.string x.test.val.text,int i64 x.test.var,int .u8 x.test.op,.slice i c j] 52)).1)
 have k2:W.cell? ⟨w.heap.size,2,none⟩=some (.slice l a n):=(k.cell (p:=⟨w.heap.size,2,none⟩) (by simp<;>omega)).trans (Fq _ _ 2 _ _ _ (am w (.cells #[int .u8 x.kind,int i64 x.type,.slice l a n,int .u8 x.test.kind,int .u8 x.test.val.kind,int i64 x.test.val.num,.string x.test.val.text,int i64 x.test.var,int .u8 x.test.op,.slice q c r] 52) (.cells #[int .u8 x.kind,int i64 x.type,.slice f a g,int .u8 x.test.kind,int .u8 x.test.val.kind,int i64 x.test.val.num,.string x.test.val.text,int i64 x.test.var,int .u8 x.test.op,.slice i c j] 52)).1)
 have k3:W.cell? ⟨w.heap.size,3,none⟩=some (int .u8 x.test.kind):=(k.cell (p:=⟨w.heap.size,3,none⟩) (by simp<;>omega)).trans (Fq _ _ 3 _ _ _ (am w (.cells #[int .u8 x.kind,int i64 x.type,.slice l a n,int .u8 x.test.kind,int .u8 x.test.val.kind,int i64 x.test.val.num,.string x.test.val.text,int i64 x.test.var,int .u8 x.test.op,.slice q c r] 52) (.cells #[int .u8 x.kind,int i64 x.type,.slice f a g,int .u8 x.test.kind,int .u8 x.test.val.kind,int i64 x.test.val.num,.string x.test.val.text,int i64 x.test.var,int .u8 x.test.op,.slice i c j] 52)).1)
 have k4:W.cell? ⟨w.heap.size,4,none⟩=some (int .u8 x.test.val.kind):=(k.cell (p:=⟨w.heap.size,4,none⟩) (by simp<;>omega)).trans (Fq _ _ 4 _ _ _ (am w (.cells #[int .u8 x.kind,int i64 x.type,.slice l a n,int .u8 x.test.kind,int .u8 x.test.val.kind,int i64 x.test.val.num,.string x.test.val.text,int i64 x.test.var,int .u8 x.test.op,.slice q c r] 52) (.cells #[int .u8 x.kind,int i64 x.type,.slice f a g,int .u8 x.test.kind,int .u8 x.test.val.kind,int i64 x.test.val.num,.string x.test.val.text,int i64 x.test.var,int .u8 x.test.op,.slice i c j] 52)).1)
 have k5:W.cell? ⟨w.heap.size,5,none⟩=some (int i64 x.test.val.num):=(k.cell (p:=⟨w.heap.size,5,none⟩) (by simp<;>omega)).trans (Fq _ _ 5 _ _ _ (am w (.cells #[int .u8 x.kind,int i64 x.type,.slice l a n,int .u8 x.test.kind,int .u8 x.test.val.kind,int i64 x.test.val.num,.string x.test.val.text,int i64 x.test.var,int .u8 x.test.op,.slice q c r] 52) (.cells #[int .u8 x.kind,int i64 x.type,.slice f a g,int .u8 x.test.kind,int .u8 x.test.val.kind,int i64 x.test.val.num,.string x.test.val.text,int i64 x.test.var,int .u8 x.test.op,.slice i c j] 52)).1)
 have k6:W.cell? ⟨w.heap.size,6,none⟩=some (.string x.test.val.text):=(k.cell (p:=⟨w.heap.size,6,none⟩) (by simp<;>omega)).trans (Fq _ _ 6 _ _ _ (am w (.cells #[int .u8 x.kind,int i64 x.type,.slice l a n,int .u8 x.test.kind,int .u8 x.test.val.kind,int i64 x.test.val.num,.string x.test.val.text,int i64 x.test.var,int .u8 x.test.op,.slice q c r] 52) (.cells #[int .u8 x.kind,int i64 x.type,.slice f a g,int .u8 x.test.kind,int .u8 x.test.val.kind,int i64 x.test.val.num,.string x.test.val.text,int i64 x.test.var,int .u8 x.test.op,.slice i c j] 52)).1)
 have k7:W.cell? ⟨w.heap.size,7,none⟩=some (int i64 x.test.var):=(k.cell (p:=⟨w.heap.size,7,none⟩) (by simp<;>omega)).trans (Fq _ _ 7 _ _ _ (am w (.cells #[int .u8 x.kind,int i64 x.type,.slice l a n,int .u8 x.test.kind,int .u8 x.test.val.kind,int i64 x.test.val.num,.string x.test.val.text,int i64 x.test.var,int .u8 x.test.op,.slice q c r] 52) (.cells #[int .u8 x.kind,int i64 x.type,.slice f a g,int .u8 x.test.kind,int .u8 x.test.val.kind,int i64 x.test.val.num,.string x.test.val.text,int i64 x.test.var,int .u8 x.test.op,.slice i c j] 52)).1)
 have k8:W.cell? ⟨w.heap.size,8,none⟩=some (int .u8 x.test.op):=(k.cell (p:=⟨w.heap.size,8,none⟩) (by simp<;>omega)).trans (Fq _ _ 8 _ _ _ (am w (.cells #[int .u8 x.kind,int i64 x.type,.slice l a n,int .u8 x.test.kind,int .u8 x.test.val.kind,int i64 x.test.val.num,.string x.test.val.text,int i64 x.test.var,int .u8 x.test.op,.slice q c r] 52) (.cells #[int .u8 x.kind,int i64 x.type,.slice f a g,int .u8 x.test.kind,int .u8 x.test.val.kind,int i64 x.test.val.num,.string x.test.val.text,int i64 x.test.var,int .u8 x.test.op,.slice i c j] 52)).1)
 have k9:W.cell? ⟨w.heap.size,9,none⟩=some (.slice q c r):=(k.cell (p:=⟨w.heap.size,9,none⟩) (by simp<;>omega)).trans (Fq _ _ 9 _ _ _ (am w (.cells #[int .u8 x.kind,int i64 x.type,.slice l a n,int .u8 x.test.kind,int .u8 x.test.val.kind,int i64 x.test.val.num,.string x.test.val.text,int i64 x.test.var,int .u8 x.test.op,.slice q c r] 52) (.cells #[int .u8 x.kind,int i64 x.type,.slice f a g,int .u8 x.test.kind,int .u8 x.test.val.kind,int i64 x.test.val.num,.string x.test.val.text,int i64 x.test.var,int .u8 x.test.op,.slice i c j] 52)).1)
 have Z:W.cell? ⟨w.heap.size+1,0,none⟩=some (int .u8 x.kind):=(k.cell (p:=⟨w.heap.size+1,0,none⟩) (by simp<;>omega)).trans (Fq _ _ 0 _ _ _ (am w (.cells #[int .u8 x.kind,int i64 x.type,.slice l a n,int .u8 x.test.kind,int .u8 x.test.val.kind,int i64 x.test.val.num,.string x.test.val.text,int i64 x.test.var,int .u8 x.test.op,.slice q c r] 52) (.cells #[int .u8 x.kind,int i64 x.type,.slice f a g,int .u8 x.test.kind,int .u8 x.test.val.kind,int i64 x.test.val.num,.string x.test.val.text,int i64 x.test.var,int .u8 x.test.op,.slice i c j] 52)).2.1)
 have ad:W.cell? ⟨w.heap.size+1,1,none⟩=some (int i64 x.type):=(k.cell (p:=⟨w.heap.size+1,1,none⟩) (by simp<;>omega)).trans (Fq _ _ 1 _ _ _ (am w (.cells #[int .u8 x.kind,int i64 x.type,.slice l a n,int .u8 x.test.kind,int .u8 x.test.val.kind,int i64 x.test.val.num,.string x.test.val.text,int i64 x.test.var,int .u8 x.test.op,.slice q c r] 52) (.cells #[int .u8 x.kind,int i64 x.type,.slice f a g,int .u8 x.test.kind,int .u8 x.test.val.kind,int i64 x.test.val.num,.string x.test.val.text,int i64 x.test.var,int .u8 x.test.op,.slice i c j] 52)).2.1)
 have af:W.cell? ⟨w.heap.size+1,2,none⟩=some (.slice f a g):=(k.cell (p:=⟨w.heap.size+1,2,none⟩) (by simp<;>omega)).trans (Fq _ _ 2 _ _ _ (am w (.cells #[int .u8 x.kind,int i64 x.type,.slice l a n,int .u8 x.test.kind,int .u8 x.test.val.kind,int i64 x.test.val.num,.string x.test.val.text,int i64 x.test.var,int .u8 x.test.op,.slice q c r] 52) (.cells #[int .u8 x.kind,int i64 x.type,.slice f a g,int .u8 x.test.kind,int .u8 x.test.val.kind,int i64 x.test.val.num,.string x.test.val.text,int i64 x.test.var,int .u8 x.test.op,.slice i c j] 52)).2.1)
 have ak:W.cell? ⟨w.heap.size+1,3,none⟩=some (int .u8 x.test.kind):=(k.cell (p:=⟨w.heap.size+1,3,none⟩) (by simp<;>omega)).trans (Fq _ _ 3 _ _ _ (am w (.cells #[int .u8 x.kind,int i64 x.type,.slice l a n,int .u8 x.test.kind,int .u8 x.test.val.kind,int i64 x.test.val.num,.string x.test.val.text,int i64 x.test.var,int .u8 x.test.op,.slice q c r] 52) (.cells #[int .u8 x.kind,int i64 x.type,.slice f a g,int .u8 x.test.kind,int .u8 x.test.val.kind,int i64 x.test.val.num,.string x.test.val.text,int i64 x.test.var,int .u8 x.test.op,.slice i c j] 52)).2.1)
 have an:W.cell? ⟨w.heap.size+1,4,none⟩=some (int .u8 x.test.val.kind):=(k.cell (p:=⟨w.heap.size+1,4,none⟩) (by simp<;>omega)).trans (Fq _ _ 4 _ _ _ (am w (.cells #[int .u8 x.kind,int i64 x.type,.slice l a n,int .u8 x.test.kind,int .u8 x.test.val.kind,int i64 x.test.val.num,.string x.test.val.text,int i64 x.test.var,int .u8 x.test.op,.slice q c r] 52) (.cells #[int .u8 x.kind,int i64 x.type,.slice f a g,int .u8 x.test.kind,int .u8 x.test.val.kind,int i64 x.test.val.num,.string x.test.val.text,int i64 x.test.var,int .u8 x.test.op,.slice i c j] 52)).2.1)
 have aq:W.cell? ⟨w.heap.size+1,5,none⟩=some (int i64 x.test.val.num):=(k.cell (p:=⟨w.heap.size+1,5,none⟩) (by simp<;>omega)).trans (Fq _ _ 5 _ _ _ (am w (.cells #[int .u8 x.kind,int i64 x.type,.slice l a n,int .u8 x.test.kind,int .u8 x.test.val.kind,int i64 x.test.val.num,.string x.test.val.text,int i64 x.test.var,int .u8 x.test.op,.slice q c r] 52) (.cells #[int .u8 x.kind,int i64 x.type,.slice f a g,int .u8 x.test.kind,int .u8 x.test.val.kind,int i64 x.test.val.num,.string x.test.val.text,int i64 x.test.var,int .u8 x.test.op,.slice i c j] 52)).2.1)
 have ar:W.cell? ⟨w.heap.size+1,6,none⟩=some (.string x.test.val.text):=(k.cell (p:=⟨w.heap.size+1,6,none⟩) (by simp<;>omega)).trans (Fq _ _ 6 _ _ _ (am w (.cells #[int .u8 x.kind,int i64 x.type,.slice l a n,int .u8 x.test.kind,int .u8 x.test.val.kind,int i64 x.test.val.num,.string x.test.val.text,int i64 x.test.var,int .u8 x.test.op,.slice q c r] 52) (.cells #[int .u8 x.kind,int i64 x.type,.slice f a g,int .u8 x.test.kind,int .u8 x.test.val.kind,int i64 x.test.val.num,.string x.test.val.text,int i64 x.test.var,int .u8 x.test.op,.slice i c j] 52)).2.1)
 have av:W.cell? ⟨w.heap.size+1,7,none⟩=some (int i64 x.test.var):=(k.cell (p:=⟨w.heap.size+1,7,none⟩) (by simp<;>omega)).trans (Fq _ _ 7 _ _ _ (am w (.cells #[int .u8 x.kind,int i64 x.type,.slice l a n,int .u8 x.test.kind,int .u8 x.test.val.kind,int i64 x.test.val.num,.string x.test.val.text,int i64 x.test.var,int .u8 x.test.op,.slice q c r] 52) (.cells #[int .u8 x.kind,int i64 x.type,.slice f a g,int .u8 x.test.kind,int .u8 x.test.val.kind,int i64 x.test.val.num,.string x.test.val.text,int i64 x.test.var,int .u8 x.test.op,.slice i c j] 52)).2.1)
 have a1:W.cell? ⟨w.heap.size+1,8,none⟩=some (int .u8 x.test.op):=(k.cell (p:=⟨w.heap.size+1,8,none⟩) (by simp<;>omega)).trans (Fq _ _ 8 _ _ _ (am w (.cells #[int .u8 x.kind,int i64 x.type,.slice l a n,int .u8 x.test.kind,int .u8 x.test.val.kind,int i64 x.test.val.num,.string x.test.val.text,int i64 x.test.var,int .u8 x.test.op,.slice q c r] 52) (.cells #[int .u8 x.kind,int i64 x.type,.slice f a g,int .u8 x.test.kind,int .u8 x.test.val.kind,int i64 x.test.val.num,.string x.test.val.text,int i64 x.test.var,int .u8 x.test.op,.slice i c j] 52)).2.1)
 have a6:W.cell? ⟨w.heap.size+1,9,none⟩=some (.slice i c j):=(k.cell (p:=⟨w.heap.size+1,9,none⟩) (by simp<;>omega)).trans (Fq _ _ 9 _ _ _ (am w (.cells #[int .u8 x.kind,int i64 x.type,.slice l a n,int .u8 x.test.kind,int .u8 x.test.val.kind,int i64 x.test.val.num,.string x.test.val.text,int i64 x.test.var,int .u8 x.test.op,.slice q c r] 52) (.cells #[int .u8 x.kind,int i64 x.type,.slice f a g,int .u8 x.test.kind,int .u8 x.test.val.kind,int i64 x.test.val.num,.string x.test.val.text,int i64 x.test.var,int .u8 x.test.op,.slice i c j] 52)).2.1)
 clear k U N;go_wp2_with fail
 refine X.o.mono ?_;rintro e W2 ⟨rfl,P⟩;have T:=Hd (O.o.trans (P.mono O.o.size));clear P X;go_wp2_with fail
 go_ret;exact⟨rfl,T.o⟩
theorem lH(d:Nat):gj (bS d) 95:=by
 intro x vs D w p i;obtain⟨_,_,_,u,rfl,k⟩:=eB.1 p;obtain⟨_,_,_,g,rfl,a⟩:=eB.1 i;have v:Ft w ((w.alloc (.cells #[int .u8 x.kind,int i64 x.type,int i64 x.which,u] 58)).alloc (.cells #[int .u8 x.kind,int i64 x.type,int i64 x.which,g] 58)):=((EB _ w).alloc (EA _) _).alloc (by simp) _;have l:∀b,(b<w.heap.size)→b<((w.alloc (.cells #[int .u8 x.kind,int i64 x.type,int i64 x.which,u] 58)).alloc (.cells #[int .u8 x.kind,int i64 x.type,int i64 x.which,g] 58)).heap.size:=fun b h=>EF h v.size
 have n:∀b,b<w.heap.size→∀o,w.heap[b]?=some o→((w.alloc (.cells #[int .u8 x.kind,int i64 x.type,int i64 x.which,u] 58)).alloc (.cells #[int .u8 x.kind,int i64 x.type,int i64 x.which,g] 58)).heap[b]?=some o:=fun b h o E=>(v.block b h).trans E
 have B:=Hd (sy d x.exprs u g _ (Rd.row_sub l (Rd.row_keep n k)) (Rd.row_sub l (Rd.row_keep n a)));have C:=Hd v;obtain⟨y,z,j⟩:=Rd.row_shape k;obtain⟨q,r,c⟩:=Rd.row_shape a;obtain⟨s,f⟩:=zzy (x.exprs.length);rw[f]at j;subst j;rw[f]at c;subst c;clear v l n p i k a f
 show Calls Tryz.prog 95 #[.agg #[int .u8 x.kind,int i64 x.type,int i64 x.which,.slice y s z],.agg #[int .u8 x.kind,int i64 x.type,int i64 x.which,.slice q s r]] w (ax w)
 go_enter Tryz.func95,Tryz.ntmps95
 go_wp2_with fail
 refine B.o.mono ?_;rintro e W ⟨rfl,t⟩;have A:=Hd (C.o.trans (t.mono C.o.size));clear t B;go_wp2_with fail
 go_ret;exact⟨rfl,A.o⟩
theorem sx(d:Nat)(l:List aC)(u v:Value)(w:World)(hu:(bp d).row w (fun b=>b<w.heap.size) l u)(hv:(bp d).row w (fun b=>b<w.heap.size) l v):Calls Tryz.prog 67 #[u,v] w (ax w):=by
 obtain⟨p,c,ar⟩:=Rd.row_shape hu;obtain⟨q,c',av⟩:=Rd.row_shape hv;have R:=Rd.row_len hu;subst ar;subst av;obtain⟨n,hn⟩:=zzy (l.length);have HU:=Hd (fun W (hW:Ft w W)=>Rd.row_below hu (fun _ h=>h) hW);have HV:=Hd (fun W (hW:Ft w W)=>Rd.row_below hv (fun _ h=>h) hW);have HF:=Hd (kT d);rw[hn]at HU HV R ⊢;have HN:=Hd hn;have bd:(n:Int)≤9223372036854775807:=by unfold maxLen at R;omega
 clear hu hv hn R
 go_enter Tryz.func67,Tryz.ntmps67
 go_wp2
 go_loopw [5] (ie w n) (fun i _=>n-(intOf i).toNat)
 case atStart=>exact⟨_,0,rfl,EM _,rfl,EB _ _⟩
 case round =>
  obtain⟨g,k,rfl,hk,rfl,C⟩:=hrel
  by_cases a1:k<n
  ·obtain⟨x,hx⟩:∃x,l[k]?=some x:=⟨_,EE (by rw[HN.o];exact a1)⟩;have X:=Rd.row_at (HU.o g C) hx;rw[HN.o]at X;obtain⟨b,off,cap,vs,a6,_,_,_,_,S,f⟩:=X;injection a6 with e1 _ e3
   subst e1;subst e3;have f:∀m z,vs[m]?=some z→g.cell? ⟨b,off+k*10+m,none⟩=some z:=by simpa only [dL]using f
   have H:=Rd.row_at (HV.o g C) hx;rw[HN.o]at H;obtain⟨b',j,bc,a7,Y,_,_,_,_,r,a⟩:=H;injection Y with a8 _ ba
   subst a8;subst ba;have a:∀m z,a7[m]?=some z→g.cell? ⟨b',j+k*10+m,none⟩=some z:=by simpa only [dL]using a
   have I:=S;have s:=r;obtain⟨_,_,_,s0,s1,rfl,Z,ad⟩:=dq.1 S;obtain⟨af,ak,J⟩:=Rd.row_shape Z;obtain⟨an,aq,K⟩:=aI ad;obtain⟨_,_,_,bk,bl,rfl,L,M⟩:=dq.1 r;obtain⟨N,O,t⟩:=Rd.row_shape L;obtain⟨P,Q,y⟩:=aI M;obtain⟨D,A⟩:=zzy (x.args.length);rw[A]at J;subst J;rw[A]at t;subst t;obtain⟨E,B⟩:=zzy (x.test.kids.length);rw[B]at K;subst K;rw[B]at y;subst y;have d0:g.cell? ⟨b,off+k*10,none⟩=some (int .u8 x.kind):=f 0 _ rfl;have d1:g.cell? ⟨b,off+k*10+1,none⟩=some (int i64 x.type):=f 1 _ rfl;have d2:g.cell? ⟨b,off+k*10+2,none⟩=some (.slice af D ak):=f 2 _ rfl;have d3:g.cell? ⟨b,off+k*10+3,none⟩=some (int .u8 x.test.kind):=f 3 _ rfl;have d4:g.cell? ⟨b,off+k*10+4,none⟩=some (int .u8 x.test.val.kind):=f 4 _ rfl;have d5:g.cell? ⟨b,off+k*10+5,none⟩=some (int i64 x.test.val.num):=f 5 _ rfl;have d6:g.cell? ⟨b,off+k*10+6,none⟩=some (.string x.test.val.text):=f 6 _ rfl;have d7:g.cell? ⟨b,off+k*10+7,none⟩=some (int i64 x.test.var):=f 7 _ rfl;have d8:g.cell? ⟨b,off+k*10+8,none⟩=some (int .u8 x.test.op):=f 8 _ rfl;have d9:g.cell? ⟨b,off+k*10+9,none⟩=some (.slice an E aq):=f 9 _ rfl;have e0:g.cell? ⟨b',j+k*10,none⟩=some (int .u8 x.kind):=a 0 _ rfl;have e1:g.cell? ⟨b',j+k*10+1,none⟩=some (int i64 x.type):=a 1 _ rfl;have e2:g.cell? ⟨b',j+k*10+2,none⟩=some (.slice N D O):=a 2 _ rfl;have e3:g.cell? ⟨b',j+k*10+3,none⟩=some (int .u8 x.test.kind):=a 3 _ rfl;have e4:g.cell? ⟨b',j+k*10+4,none⟩=some (int .u8 x.test.val.kind):=a 4 _ rfl;have e5:g.cell? ⟨b',j+k*10+5,none⟩=some (int i64 x.test.val.num):=a 5 _ rfl;have e6:g.cell? ⟨b',j+k*10+6,none⟩=some (.string x.test.val.text):=a 6 _ rfl;have e7:g.cell? ⟨b',j+k*10+7,none⟩=some (int i64 x.test.var):=a 7 _ rfl;have e8:g.cell? ⟨b',j+k*10+8,none⟩=some (int .u8 x.test.op):=a 8 _ rfl;have e9:g.cell? ⟨b',j+k*10+9,none⟩=some (.slice P E Q):=a 9 _ rfl;have F:Ft g g.drew:=(EB _ g).drew;have T:∀b,(b<w.heap.size)→b<g.drew.heap.size:=fun b h=>EF h (EG C.size F.size)
   have U:∀b,b<w.heap.size→∀o,g.heap[b]?=some o→g.drew.heap[b]?=some o:=fun b h o ho=>(F.block b (EF h C.size)).trans ho
   have V:Hid (Calls Tryz.prog 93 #[.agg #[int .u8 x.kind,int i64 x.type,.slice af D ak,int .u8 x.test.kind,int .u8 x.test.val.kind,int i64 x.test.val.num,.string x.test.val.text,int i64 x.test.var,int .u8 x.test.op,.slice an E aq],.agg #[int .u8 x.kind,int i64 x.type,.slice N D O,int .u8 x.test.kind,int .u8 x.test.val.kind,int i64 x.test.val.num,.string x.test.val.text,int i64 x.test.var,int .u8 x.test.op,.slice P E Q]] g.drew (ax g.drew)):=HF.o x _ _ g.drew ((bp d).sub T ((bp d).keep U I)) ((bp d).sub T ((bp d).keep U s));have G:=Hd (C.trans (F.mono C.size));have bn:(0:Int)≤k:=by omega
   have bq:(k:Int)<n:=by omega
   clear S r f a hx F C Z L ad M A B I s T U
   go_wp2
   go_still_tail 8,(by kernel_rfl)
   change wpList _ _ _ _ _ g.drew;generalize g.drew=W2 at *;clear d0 d1 d2 d3 d4 d5 d6 d7 d8 d9 e0 e1 e2 e3 e4 e5 e6 e7 e8 e9;go_wp2_with fail
   refine V.o.mono ?_;rintro e W3 ⟨rfl,bb⟩;go_wp2_with fail
   exact⟨⟨_,k+1,rfl,by omega,by go_num,G.o.trans (bb.mono G.o.size)⟩,by simp[intOf];omega⟩
  ·obtain rfl:k=n:=by omega
   have G:=Hd C;clear C
   go_wp2
   go_ret;exact⟨rfl,G.o⟩
theorem uo(d:Nat)(l:List aT)(u v:Value)(w:World)(hu:(bS d).row w (fun b=>b<w.heap.size) l u)(U:(bS d).row w (fun b=>b<w.heap.size) l v):Calls Tryz.prog 68 #[u,v] w (ax w):=by
 obtain⟨p,c,V⟩:=Rd.row_shape hu;obtain⟨q,c',X⟩:=Rd.row_shape U;have K:=Rd.row_len hu;subst V;subst X;obtain⟨n,Y⟩:=zzy (l.length);have HU:=Hd (fun W (Z:Ft w W)=>Rd.row_below hu (fun _ h=>h) Z);have HV:=Hd (fun W (Z:Ft w W)=>Rd.row_below U (fun _ h=>h) Z);have HF:=Hd (lH d);rw[Y]at HU HV K ⊢;have HN:=Hd Y;have a1:(n:Int)≤9223372036854775807:=by unfold maxLen at K;omega
 clear hu U Y K
 go_enter Tryz.func68,Tryz.ntmps68
 go_wp2
 go_loopw [5] (ie w n) (fun i _=>n-(intOf i).toNat)
 case atStart=>exact⟨_,0,rfl,EM _,rfl,EB _ _⟩
 case round =>
  obtain⟨g,k,rfl,hk,rfl,A⟩:=hrel
  by_cases ad:k<n
  ·obtain⟨x,hx⟩:∃x,l[k]?=some x:=⟨_,EE (by rw[HN.o];exact ad)⟩;have P:=Rd.row_at (HU.o g A) hx;rw[HN.o]at P;obtain⟨b,off,cap,vs,af,_,_,_,_,L,f⟩:=P;injection af with e1 _ e3
   subst e1;subst e3;have f:∀m z,vs[m]?=some z→g.cell? ⟨b,off+k*4+m,none⟩=some z:=f;have E:=Rd.row_at (HV.o g A) hx;rw[HN.o]at E;obtain⟨b',j,av,ak,Q,_,_,_,_,r,a⟩:=E;injection Q with an _ aq
   subst an;subst aq;have a:∀m z,ak[m]?=some z→g.cell? ⟨b',j+k*4+m,none⟩=some z:=a;have F:=L;have s:=r;obtain⟨_,_,_,s0,rfl,R⟩:=eB.1 L;obtain⟨S,T,G⟩:=Rd.row_shape R;obtain⟨_,_,_,a6,rfl,H⟩:=eB.1 r;obtain⟨I,J,t⟩:=Rd.row_shape H;obtain⟨B,y⟩:=zzy (x.exprs.length);rw[y]at G;subst G;rw[y]at t;subst t;have d0:g.cell? ⟨b,off+k*4,none⟩=some (int .u8 x.kind):=f 0 _ rfl;have d1:g.cell? ⟨b,off+k*4+1,none⟩=some (int i64 x.type):=f 1 _ rfl;have d2:g.cell? ⟨b,off+k*4+2,none⟩=some (int i64 x.which):=f 2 _ rfl;have d3:g.cell? ⟨b,off+k*4+3,none⟩=some (.slice S B T):=f 3 _ rfl;have e0:g.cell? ⟨b',j+k*4,none⟩=some (int .u8 x.kind):=a 0 _ rfl;have e1:g.cell? ⟨b',j+k*4+1,none⟩=some (int i64 x.type):=a 1 _ rfl;have e2:g.cell? ⟨b',j+k*4+2,none⟩=some (int i64 x.which):=a 2 _ rfl;have e3:g.cell? ⟨b',j+k*4+3,none⟩=some (.slice I B J):=a 3 _ rfl;have C:Ft g g.drew:=(EB _ g).drew;have M:∀b,(b<w.heap.size)→b<g.drew.heap.size:=fun b h=>EF h (EG A.size C.size)
   have N:∀b,b<w.heap.size→∀o,g.heap[b]?=some o→g.drew.heap[b]?=some o:=fun b h o ho=>(C.block b (EF h A.size)).trans ho
   have O:Hid (Calls Tryz.prog 95 #[.agg #[int .u8 x.kind,int i64 x.type,int i64 x.which,.slice S B T],.agg #[int .u8 x.kind,int i64 x.type,int i64 x.which,.slice I B J]] g.drew (ax g.drew)):=HF.o x _ _ g.drew ((bS d).sub M ((bS d).keep N F)) ((bS d).sub M ((bS d).keep N s));have D:=Hd (A.trans (C.mono A.size));have a7:(0:Int)≤k:=by omega
   have a8:(k:Int)<n:=by omega
   clear L r f a hx C A R H y F s M N
   go_wp2
   go_still_tail 8,(by kernel_rfl)
   change wpList _ _ _ _ _ g.drew;generalize g.drew=W2 at *;clear d0 d1 d2 d3 e0 e1 e2 e3;go_wp2_with fail
   refine O.o.mono ?_;rintro e W3 ⟨rfl,ar⟩;go_wp2_with fail
   exact⟨⟨_,k+1,rfl,by omega,by go_num,D.o.trans (ar.mono D.o.size)⟩,by simp[intOf];omega⟩
  ·obtain rfl:k=n:=by omega
   have D:=Hd A;clear A
   go_wp2
   go_ret;exact⟨rfl,D.o⟩
theorem kL(d:Nat):gj (bh d) 45:=by
 intro x vs V w J E;obtain⟨_,_,_,K,s1,rfl,H,I⟩:=dY.1 J;obtain⟨_,_,_,t,u,rfl,v,y⟩:=dY.1 E;have P:Ft w ((w.alloc (.cells #[.string x.name,int i64 x.sal,int i64 x.vars,K,s1] 38)).alloc (.cells #[.string x.name,int i64 x.sal,int i64 x.vars,t,u] 38)):=((EB _ w).alloc (EA _) _).alloc (by simp) _;have s:∀b,(b<w.heap.size)→b<((w.alloc (.cells #[.string x.name,int i64 x.sal,int i64 x.vars,K,s1] 38)).alloc (.cells #[.string x.name,int i64 x.sal,int i64 x.vars,t,u] 38)).heap.size:=fun b h=>EF h P.size
 have z:∀b,b<w.heap.size→∀o,w.heap[b]?=some o→((w.alloc (.cells #[.string x.name,int i64 x.sal,int i64 x.vars,K,s1] 38)).alloc (.cells #[.string x.name,int i64 x.sal,int i64 x.vars,t,u] 38)).heap[b]?=some o:=fun b h o L=>(P.block b h).trans L
 have S:=Hd (sx d x.conds K t _ (Rd.row_sub s (Rd.row_keep z H)) (Rd.row_sub s (Rd.row_keep z v)));have M:=Hd (fun W (Q:Below _ ((w.alloc (.cells #[.string x.name,int i64 x.sal,int i64 x.vars,K,s1] 38)).alloc (.cells #[.string x.name,int i64 x.sal,int i64 x.vars,t,u] 38)) W)=>uo d x.acts s1 u W (Rd.row_sub (fun b h=>EF (s b h) Q.size) (Rd.row_keep (fun b h o L=>(Q.block b (s b h)).trans (z b h o L)) I)) (Rd.row_sub (fun b h=>EF (s b h) Q.size) (Rd.row_keep (fun b h o L=>(Q.block b (s b h)).trans (z b h o L)) y)));have T:=Hd P;obtain⟨l,n,F⟩:=Rd.row_shape H;obtain⟨f,g,A⟩:=Rd.row_shape v;obtain⟨a,B⟩:=zzy (x.conds.length);rw[B]at F;subst F;rw[B]at A;subst A;obtain⟨q,r,G⟩:=Rd.row_shape I;obtain⟨i,j,C⟩:=Rd.row_shape y;obtain⟨c,D⟩:=zzy (x.acts.length);rw[D]at G;subst G;rw[D]at C;subst C;clear P s z J E H v I y B D
 show Calls Tryz.prog 45 #[.agg #[.string x.name,int i64 x.sal,int i64 x.vars,.slice l a n,.slice q c r],.agg #[.string x.name,int i64 x.sal,int i64 x.vars,.slice f a g,.slice i c j]] w (ax w)
 go_enter Tryz.func45,Tryz.ntmps45
 go_wp2_with fail
 refine S.o.mono ?_;rintro e W ⟨rfl,k⟩;have N:=Hd (T.o.trans (k.mono T.o.size));have U:=Hd (M.o W k);have k0:W.cell? ⟨w.heap.size,0,none⟩=some (.string x.name):=(k.cell (p:=⟨w.heap.size,0,none⟩) (by simp<;>omega)).trans (Fq _ _ 0 _ _ _ (am w (.cells #[.string x.name,int i64 x.sal,int i64 x.vars,.slice l a n,.slice q c r] 38) (.cells #[.string x.name,int i64 x.sal,int i64 x.vars,.slice f a g,.slice i c j] 38)).1)
 have k1:W.cell? ⟨w.heap.size,1,none⟩=some (int i64 x.sal):=(k.cell (p:=⟨w.heap.size,1,none⟩) (by simp<;>omega)).trans (Fq _ _ 1 _ _ _ (am w (.cells #[.string x.name,int i64 x.sal,int i64 x.vars,.slice l a n,.slice q c r] 38) (.cells #[.string x.name,int i64 x.sal,int i64 x.vars,.slice f a g,.slice i c j] 38)).1)
 have k2:W.cell? ⟨w.heap.size,2,none⟩=some (int i64 x.vars):=(k.cell (p:=⟨w.heap.size,2,none⟩) (by simp<;>omega)).trans (Fq _ _ 2 _ _ _ (am w (.cells #[.string x.name,int i64 x.sal,int i64 x.vars,.slice l a n,.slice q c r] 38) (.cells #[.string x.name,int i64 x.sal,int i64 x.vars,.slice f a g,.slice i c j] 38)).1)
 have k3:W.cell? ⟨w.heap.size,3,none⟩=some (.slice l a n):=(k.cell (p:=⟨w.heap.size,3,none⟩) (by simp<;>omega)).trans (Fq _ _ 3 _ _ _ (am w (.cells #[.string x.name,int i64 x.sal,int i64 x.vars,.slice l a n,.slice q c r] 38) (.cells #[.string x.name,int i64 x.sal,int i64 x.vars,.slice f a g,.slice i c j] 38)).1)
 have k4:W.cell? ⟨w.heap.size,4,none⟩=some (.slice q c r):=(k.cell (p:=⟨w.heap.size,4,none⟩) (by simp<;>omega)).trans (Fq _ _ 4 _ _ _ (am w (.cells #[.string x.name,int i64 x.sal,int i64 x.vars,.slice l a n,.slice q c r] 38) (.cells #[.string x.name,int i64 x.sal,int i64 x.vars,.slice f a g,.slice i c j] 38)).1)
 have X:W.cell? ⟨w.heap.size+1,0,none⟩=some (.string x.name):=(k.cell (p:=⟨w.heap.size+1,0,none⟩) (by simp<;>omega)).trans (Fq _ _ 0 _ _ _ (am w (.cells #[.string x.name,int i64 x.sal,int i64 x.vars,.slice l a n,.slice q c r] 38) (.cells #[.string x.name,int i64 x.sal,int i64 x.vars,.slice f a g,.slice i c j] 38)).2.1)
 have Y:W.cell? ⟨w.heap.size+1,1,none⟩=some (int i64 x.sal):=(k.cell (p:=⟨w.heap.size+1,1,none⟩) (by simp<;>omega)).trans (Fq _ _ 1 _ _ _ (am w (.cells #[.string x.name,int i64 x.sal,int i64 x.vars,.slice l a n,.slice q c r] 38) (.cells #[.string x.name,int i64 x.sal,int i64 x.vars,.slice f a g,.slice i c j] 38)).2.1)
 have Z:W.cell? ⟨w.heap.size+1,2,none⟩=some (int i64 x.vars):=(k.cell (p:=⟨w.heap.size+1,2,none⟩) (by simp<;>omega)).trans (Fq _ _ 2 _ _ _ (am w (.cells #[.string x.name,int i64 x.sal,int i64 x.vars,.slice l a n,.slice q c r] 38) (.cells #[.string x.name,int i64 x.sal,int i64 x.vars,.slice f a g,.slice i c j] 38)).2.1)
 have ad:W.cell? ⟨w.heap.size+1,3,none⟩=some (.slice f a g):=(k.cell (p:=⟨w.heap.size+1,3,none⟩) (by simp<;>omega)).trans (Fq _ _ 3 _ _ _ (am w (.cells #[.string x.name,int i64 x.sal,int i64 x.vars,.slice l a n,.slice q c r] 38) (.cells #[.string x.name,int i64 x.sal,int i64 x.vars,.slice f a g,.slice i c j] 38)).2.1)
 have af:W.cell? ⟨w.heap.size+1,4,none⟩=some (.slice i c j):=(k.cell (p:=⟨w.heap.size+1,4,none⟩) (by simp<;>omega)).trans (Fq _ _ 4 _ _ _ (am w (.cells #[.string x.name,int i64 x.sal,int i64 x.vars,.slice l a n,.slice q c r] 38) (.cells #[.string x.name,int i64 x.sal,int i64 x.vars,.slice f a g,.slice i c j] 38)).2.1)
 clear k S M;go_wp2_with fail
 refine U.o.mono ?_;rintro e W2 ⟨rfl,O⟩;have R:=Hd (N.o.trans (O.mono N.o.size));clear O U;go_wp2_with fail
 go_ret;exact⟨rfl,R.o⟩
theorem ql(d:Nat)(l:List aj)(u v:Value)(w:World)(hu:(bh d).row w (fun b=>b<w.heap.size) l u)(hv:(bh d).row w (fun b=>b<w.heap.size) l v):Calls Tryz.prog 43 #[u,v] w (ax w):=by
 obtain⟨p,c,ar⟩:=Rd.row_shape hu;obtain⟨q,c',av⟩:=Rd.row_shape hv;have R:=Rd.row_len hu;subst ar;subst av;obtain⟨n,hn⟩:=zzy (l.length);have HU:=Hd (fun W (hW:Ft w W)=>Rd.row_below hu (fun _ h=>h) hW);have HV:=Hd (fun W (hW:Ft w W)=>Rd.row_below hv (fun _ h=>h) hW);have HF:=Hd (kL d);rw[hn]at HU HV R ⊢;have HN:=Hd hn;have bd:(n:Int)≤9223372036854775807:=by unfold maxLen at R;omega
 clear hu hv hn R
 go_enter Tryz.func43,Tryz.ntmps43
 go_wp2
 go_loopw [5] (ie w n) (fun i _=>n-(intOf i).toNat)
 case atStart=>exact⟨_,0,rfl,EM _,rfl,EB _ _⟩
 case round =>
  obtain⟨g,k,rfl,hk,rfl,C⟩:=hrel
  by_cases a1:k<n
  ·obtain⟨x,hx⟩:∃x,l[k]?=some x:=⟨_,EE (by rw[HN.o];exact a1)⟩;have X:=Rd.row_at (HU.o g C) hx;rw[HN.o]at X;obtain⟨b,off,cap,vs,a6,_,_,_,_,S,f⟩:=X;injection a6 with e1 _ e3
   subst e1;subst e3;have f:∀m z,vs[m]?=some z→g.cell? ⟨b,off+k*5+m,none⟩=some z:=f;have H:=Rd.row_at (HV.o g C) hx;rw[HN.o]at H;obtain⟨b',j,bc,a7,Y,_,_,_,_,r,a⟩:=H;injection Y with a8 _ ba
   subst a8;subst ba;have a:∀m z,a7[m]?=some z→g.cell? ⟨b',j+k*5+m,none⟩=some z:=a;have I:=S;have s:=r;obtain⟨_,_,_,s0,s1,rfl,Z,ad⟩:=dY.1 S;obtain⟨af,ak,J⟩:=Rd.row_shape Z;obtain⟨an,aq,K⟩:=Rd.row_shape ad;obtain⟨_,_,_,bk,bl,rfl,L,M⟩:=dY.1 r;obtain⟨N,O,t⟩:=Rd.row_shape L;obtain⟨P,Q,y⟩:=Rd.row_shape M;obtain⟨D,A⟩:=zzy (x.conds.length);rw[A]at J;subst J;rw[A]at t;subst t;obtain⟨E,B⟩:=zzy (x.acts.length);rw[B]at K;subst K;rw[B]at y;subst y;have d0:g.cell? ⟨b,off+k*5,none⟩=some (.string x.name):=f 0 _ rfl;have d1:g.cell? ⟨b,off+k*5+1,none⟩=some (int i64 x.sal):=f 1 _ rfl;have d2:g.cell? ⟨b,off+k*5+2,none⟩=some (int i64 x.vars):=f 2 _ rfl;have d3:g.cell? ⟨b,off+k*5+3,none⟩=some (.slice af D ak):=f 3 _ rfl;have d4:g.cell? ⟨b,off+k*5+4,none⟩=some (.slice an E aq):=f 4 _ rfl;have e0:g.cell? ⟨b',j+k*5,none⟩=some (.string x.name):=a 0 _ rfl;have e1:g.cell? ⟨b',j+k*5+1,none⟩=some (int i64 x.sal):=a 1 _ rfl;have e2:g.cell? ⟨b',j+k*5+2,none⟩=some (int i64 x.vars):=a 2 _ rfl;have e3:g.cell? ⟨b',j+k*5+3,none⟩=some (.slice N D O):=a 3 _ rfl;have e4:g.cell? ⟨b',j+k*5+4,none⟩=some (.slice P E Q):=a 4 _ rfl;have F:Ft g g.drew:=(EB _ g).drew;have T:∀b,(b<w.heap.size)→b<g.drew.heap.size:=fun b h=>EF h (EG C.size F.size)
   have U:∀b,b<w.heap.size→∀o,g.heap[b]?=some o→g.drew.heap[b]?=some o:=fun b h o ho=>(F.block b (EF h C.size)).trans ho
   have V:Hid (Calls Tryz.prog 45 #[.agg #[.string x.name,int i64 x.sal,int i64 x.vars,.slice af D ak,.slice an E aq],.agg #[.string x.name,int i64 x.sal,int i64 x.vars,.slice N D O,.slice P E Q]] g.drew (ax g.drew)):=HF.o x _ _ g.drew ((bh d).sub T ((bh d).keep U I)) ((bh d).sub T ((bh d).keep U s));have G:=Hd (C.trans (F.mono C.size));have bn:(0:Int)≤k:=by omega
   have bq:(k:Int)<n:=by omega
   clear S r f a hx F C Z L ad M A B I s T U
   go_wp2
   go_still_tail 8,(by kernel_rfl)
   change wpList _ _ _ _ _ g.drew;generalize g.drew=W2 at *;clear d0 d1 d2 d3 d4 e0 e1 e2 e3 e4;go_wp2_with fail
   refine V.o.mono ?_;rintro e W3 ⟨rfl,bb⟩;go_wp2_with fail
   exact⟨⟨_,k+1,rfl,by omega,by go_num,G.o.trans (bb.mono G.o.size)⟩,by simp[intOf];omega⟩
  ·obtain rfl:k=n:=by omega
   have G:=Hd C;clear C
   go_wp2
   go_ret;exact⟨rfl,G.o⟩
theorem ue(d:Nat):gj (iW d) 20:=by
 intro x vs V w J E;obtain⟨K,s1,rfl,H,I⟩:=jb.1 J;obtain⟨t,u,rfl,v,y⟩:=jb.1 E;have P:Ft w ((w.alloc (.cells #[K,s1] 25)).alloc (.cells #[t,u] 25)):=((EB _ w).alloc (EA _) _).alloc (by simp) _;have k:∀b,(b<w.heap.size)→b<((w.alloc (.cells #[K,s1] 25)).alloc (.cells #[t,u] 25)).heap.size:=fun b h=>EF h P.size
 have z:∀b,b<w.heap.size→∀o,w.heap[b]?=some o→((w.alloc (.cells #[K,s1] 25)).alloc (.cells #[t,u] 25)).heap[b]?=some o:=fun b h o L=>(P.block b h).trans L
 have S:=Hd (su x.types K t _ (Rd.row_sub k (Rd.row_keep z H)) (Rd.row_sub k (Rd.row_keep z v)));have M:=Hd (fun W (Q:Below _ ((w.alloc (.cells #[K,s1] 25)).alloc (.cells #[t,u] 25)) W)=>ql d x.rules s1 u W (Rd.row_sub (fun b h=>EF (k b h) Q.size) (Rd.row_keep (fun b h o L=>(Q.block b (k b h)).trans (z b h o L)) I)) (Rd.row_sub (fun b h=>EF (k b h) Q.size) (Rd.row_keep (fun b h o L=>(Q.block b (k b h)).trans (z b h o L)) y)));have T:=Hd P;obtain⟨n,q,F⟩:=Rd.row_shape H;obtain⟨f,g,A⟩:=Rd.row_shape v;obtain⟨a,B⟩:=zzy (x.types.length);rw[B]at F;subst F;rw[B]at A;subst A;obtain⟨r,s,G⟩:=Rd.row_shape I;obtain⟨i,j,C⟩:=Rd.row_shape y;obtain⟨c,D⟩:=zzy (x.rules.length);rw[D]at G;subst G;rw[D]at C;subst C;clear P k z J E H v I y B D
 show Calls Tryz.prog 20 #[.agg #[.slice n a q,.slice r c s],.agg #[.slice f a g,.slice i c j]] w (ax w)
 go_enter Tryz.func20,Tryz.ntmps20
 go_wp2_with fail
 refine S.o.mono ?_;rintro e W ⟨rfl,l⟩;have N:=Hd (T.o.trans (l.mono T.o.size));have U:=Hd (M.o W l);have Z:W.cell? ⟨w.heap.size,0,none⟩=some (.slice n a q):=(l.cell (p:=⟨w.heap.size,0,none⟩) (by simp<;>omega)).trans (Fq _ _ 0 _ _ _ (am w (.cells #[.slice n a q,.slice r c s] 25) (.cells #[.slice f a g,.slice i c j] 25)).1)
 have k1:W.cell? ⟨w.heap.size,1,none⟩=some (.slice r c s):=(l.cell (p:=⟨w.heap.size,1,none⟩) (by simp<;>omega)).trans (Fq _ _ 1 _ _ _ (am w (.cells #[.slice n a q,.slice r c s] 25) (.cells #[.slice f a g,.slice i c j] 25)).1)
 have X:W.cell? ⟨w.heap.size+1,0,none⟩=some (.slice f a g):=(l.cell (p:=⟨w.heap.size+1,0,none⟩) (by simp<;>omega)).trans (Fq _ _ 0 _ _ _ (am w (.cells #[.slice n a q,.slice r c s] 25) (.cells #[.slice f a g,.slice i c j] 25)).2.1)
 have Y:W.cell? ⟨w.heap.size+1,1,none⟩=some (.slice i c j):=(l.cell (p:=⟨w.heap.size+1,1,none⟩) (by simp<;>omega)).trans (Fq _ _ 1 _ _ _ (am w (.cells #[.slice n a q,.slice r c s] 25) (.cells #[.slice f a g,.slice i c j] 25)).2.1)
 clear l S M;go_wp2_with fail
 refine U.o.mono ?_;rintro e W2 ⟨rfl,O⟩;have R:=Hd (N.o.trans (O.mono N.o.size));clear O U;go_wp2_with fail
 go_ret;exact⟨rfl,R.o⟩
