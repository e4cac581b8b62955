/- Parts of one proof, joined; conditions stand in each theorem. -/
import Derived.Test.YtkhfjgjjhlnnnaaGreatDoorYOB
import Derived.Deep.Upon
import Derived.Test.YtkhfjgjjhlnnnaaGreatDoorYNJ
import Derived.Deep.CutBlock
open Option renaming some→Y,none→U
open Except renaming ok→AF,error→BT
open Go renaming Value→wF,World→wD,undef→At,wpQuiet_nil→Bk
open Go.Value renaming slice→A,string→J,int→I,agg→xS
open Go.Proofs.Tryz renaming prog→xD
open Or renaming inl→z6,inr→z7
open Go.Obj renaming cells→wq
open Go.IntKind renaming i64→Z,u8→O
namespace Go.Proofs.YtkhfjgjjhlnnnaaGreatDoor
set_option maxHeartbeats 4000000
set_option maxRecDepth 100000
open Go.RowKit
theorem iy{σ α:Type}{fl a d:Flt}{f:σ→α→Except Flt σ}(i:∀s x,ib (f s x)){l:List α}{k:Nat}{x:α}{s s1 s2:σ}(o:l[k]?=Y x)
  (b:Goes fl (aG f s (l.take k)) a (fun r=>s1=r)) (c:Goes a (f s1 x) d (fun r=>s2=r)):Goes fl (aG f s (l.take (k+1))) d (fun r=>s2=r):=by
 refine⟨fun h=>?_,fun h=>?_⟩
 ·have j:=b.1 h;rw[j]at c;exact c.1 h
 ·have b:=b.2 h
  cases g:aG f s (l.take k) with
  | error e =>
   rw[g]at b;have b:a=e:=b;subst b;have m:=fS i _ _ a g;rw[c.1 m];have:=gB (f:=f) (l:=l.take (k+1)) (k:=k) (s:=s) (e:=a) (by rw[List.take_take,Nat.min_eq_left (by omega)];exact g);rw[this]
  | ok ys =>
   rw[g]at b;obtain⟨j,p⟩:=b;subst j;subst p;have c:=c.2 h;rw[gA o g]
   cases n:f s1 x with
   | error e=>rw[n]at c;exact c
   | ok y =>
    rw[n]at c;exact c
theorem iY{σ α:Type}{fl b:Flt}{f:σ→α→Except Flt σ}{l:List α}{k:Nat}{s s1:σ}(a:Goes fl (aG f s (l.take k)) b (fun r=>s1=r))(h:b.1≠0∨l.length≤k):Goes fl (aG f s l) b (fun r=>s1=r):=by
 rcases h with h|h
 ·refine⟨a.1,fun d=>?_⟩;have a:=a.2 d
  cases c:aG f s (l.take k) with
  | error e =>
   rw[c]at a;rw[gB c];exact a
  | ok ys =>
   rw[c]at a;obtain⟨g,_⟩:=a;rw[g]at h;exact absurd d h
 ·rw[Fg h]at a;exact a
theorem j7{σ:Type}{fl:Flt}{r:Except Flt σ}{x:σ}(h:r=AF x):Goes fl r fl (fun y=>x=y):=fO h V
theorem CX{binds:Bool}{a b:List ByteArray}{args:List dw}{f:dw}{K:ab}{c d:Flt}(h:Goes c (bD binds a K) d (fun r=>(b,f)=r)):Goes c (bU binds (a,args) K) d (fun r=>(b,args++[f])=r):=by
 rw[pq];refine⟨h.1,fun i=>?_⟩;have h:=h.2 i;dsimp only
 cases g:bD binds a K with
 | error e=>rw[g]at h;exact h
 | ok y =>
  rw[g]at h;obtain⟨j,l⟩:=h;subst l;exact⟨j,V⟩
theorem BD{binds:Bool}{a:List ByteArray}{K:ab}{b:Flt}(e:K.b=13)(f:idxOf K.f a=U):Goes b (bD binds a K) (az (az b (!binds) 213 K.y) (decide (16≤a.length)) 204 K.y) (fun r=>(a++[K.f],(⟨2,a.length,.zero⟩:dw))=r):=by
 obtain⟨d,i⟩:=b;have g:bD binds a K=if !binds then BT (213,K.y) else if 16≤a.length then BT (204,K.y) else AF (a++[K.f],⟨2,a.length,.zero⟩):=by unfold bD;rw[e,f];rfl
 rw[g];unfold Goes az;refine⟨fun h=>?_,fun h=>?_⟩
 ·have h:¬d=0:=h;simp[h]
 ·have h:d=0:=h;subst h
  cases binds with
  | false=>simp
  | true =>
   by_cases c:16≤a.length
   ·simp[c]
   ·simp[c]
theorem Cd{binds:Bool}{n:Nat}{c p:Int}{fl:Flt}(h:(az (az fl binds c p) (decide (16≤n)) 204 p).1=0)(a:fl.1=0):n+1≤16:=by
 by_cases b:16≤n
 ·exfalso
  obtain⟨e,f⟩:=fl;have a:e=0:=a;subst a;rw[decide_eq_true b]at h;unfold az at h
  cases binds with
  | false=>simp at h
  | true =>
   by_cases d:c=0
   ·subst d;simp at h
   ·simp[d]at h
 ·omega
theorem xw{binds:Bool}{vars:List ByteArray}{K:ab}(a:K.b=12):bD binds vars K=AF (vars,⟨1,0,.zero⟩):=by unfold bD;rw[a];rfl
theorem xy{binds:Bool}{vars:List ByteArray}{K:ab}{k:Nat}(a:K.b=13)(b:idxOf K.f vars=Y k):bD binds vars K=AF (vars,⟨3,k,.zero⟩):=by unfold bD;rw[a,b];rfl
theorem uv{binds:Bool}{vars:List ByteArray}{K:ab}(a:K.b=14∨K.b=15):bD binds vars K=AF (vars,⟨4,0,aF K⟩):=by
 unfold bD;rcases a with h|h<;>rw[h]<;>rfl
theorem Ao:kN ⟨1,0,.zero⟩:=⟨⟨by decide,by decide⟩,⟨by decide,by decide⟩,jk⟩
theorem sX{c:Int}(a:U8 c){k:Nat}(b:k≤1000000):kN ⟨c,k,.zero⟩:=⟨a,⟨by show (-9223372036854775808:Int)≤(k:Int);omega,by show (k:Int)<9223372036854775808;omega⟩,jk⟩
theorem Aa{K:ab}(a:K.f.size≤72007):kN ⟨4,0,aF K⟩:=⟨⟨by show (0:Int)≤4;decide,by show (4:Int)<256;decide⟩,⟨by show (-9223372036854775808:Int)≤0;decide,by show (0:Int)<9223372036854775808;decide⟩,kE K a⟩
theorem CH{L n g:Nat}{us:List wF}{nm:wF}{W W':wD}(h:rN L n us nm W W')(k:W.ownsRow L 9 1 (A (Y ⟨g,0,U⟩) 0 0) 0 []):W'.ownsRow L 9 1 (A (Y ⟨g,0,U⟩) 0 0) 0 []:=by
 rcases h with h|⟨g2,c,f,i,j⟩
 ·exact cY k h
 ·refine dC k fun l b=>?_
  injection b with b
  have b:g=l:=b;subst b;obtain⟨_,_,_,_,cur,a1,a2,_⟩:=cw k;refine j.block g (EN.1 a1).1 (fun e=>?_);injection e with e
  subst e;obtain⟨_,_,_,_,d,a,m,_⟩:=cw f;obtain⟨_,_,o,_⟩:=cw i;rw[a1]at a;injection a with a
  injection a with a
  subst a;omega
theorem tO{o:Oper}{a:Act}{W:wD}{G:wF→wD→Prop}{n c:Nat}{p q:Option Addr}{cq:Nat}(s y:Operand)(d:o.op=.call { callee:=.builtin .append,args:=#[s,y],argTypes:=#[77,77] })
  (f:a.eval s=A p n c) (g:a.eval y=A q 0 cq) (h:n≤c) (i:G (A p n c) W):RE.Upon xD o a W G:=by
 obtain⟨i0,z,e,j,l,m,t⟩:=iz.info;have w:(Builtin.append_ #[77,77] o.type #[A p n c,A q 0 cq]).run xD W=.ok (A p n c) W:=by
  have x:Src xD i0.size 77 (A q 0 cq) 0 [] W:=by
   refine⟨z6 ⟨_,iz.und⟩,fun w'=>?_,?_,?_,by simp,fun u hu=>(by cases hu)⟩
   ·simp[Builtin.lenOf,Sem.run_pure]
   ·cases q<;>simp[Builtin.firstCells,loadCells,loadCellsFrom,Sem.run_pure]
   ·cases q<;>simp[Builtin.firstCells,loadCells,loadCellsFrom,Sem.run_pure]
  exact run_append_nothing W _ _ o.type 9 i0 iz.und e p n c h _ x
 have b:(execOp a.eval o).run xD W=.ok (.value (A p n c)) W:=by simp[execOp,d,resolve,invoke,builtin,f,g,w,Result.andThen]
 exact RE.upon_run b i
theorem zo{W:wD}{L a n g cap:Nat}{us:List wF}(h:W.ownsRow L 9 1 (A (Y ⟨g,0,U⟩) n cap) n us)(j:a≤L):W.ownsRow a 9 1 (A (Y ⟨g,0,U⟩) n cap) n us:=by
 obtain⟨b,l,c,d,cur,e,f,i⟩:=cw h;exact rr b (by omega) c d e f i
def phK(L n:Nat) (us:List wF) (nm:wF) (i:Nat) (W:wD) (ys:List wF):Prop:=
 if i=1 then (∃g,ys.getD 0 At=A (Y ⟨g,0,U⟩) 0 0∧W.ownsRow L 9 1 (A (Y ⟨g,0,U⟩) 0 0) 0 [])
 else if i=6 then (∃g cap,ys.getD 0 At=A (Y ⟨g,0,U⟩) n cap∧W.ownsRow L 9 1 (A (Y ⟨g,0,U⟩) n cap) n us)
 else if i=9 then (∃g,ys.getD 0 At=A (Y ⟨g,0,U⟩) 1 1∧W.heap[g]?=Y (wq #[nm] 9 (0,0)))
 else if i=10 then (∃g cap,ys.getD 0 At=A (Y ⟨g,0,U⟩) (n+1) cap∧W.ownsRow L 9 1 (A (Y ⟨g,0,U⟩) (n+1) cap) (n+1) (us++[nm])) else True
theorem phK.C{L n:Nat}{us:List wF}{nm:wF}{i:Nat}{W W':wD}{ys:List wF}(h:phK L n us nm i W ys)(c:rN L n us nm W W'):phK L n us nm i W' ys:=by
 unfold phK at *
 split
 ·rename_i e;rw[rv e]at h;obtain⟨g,a,b⟩:=h;exact⟨g,a,CH c b⟩
 ·rename_i e;rw[qv e]at h
  split
  ·rename_i e;rw[rv e]at h;obtain⟨g,cap,a,b⟩:=h;exact⟨g,cap,a,CN c b⟩
  ·rename_i e;rw[qv e]at h
   split
   ·rename_i e;rw[rv e]at h;obtain⟨g,a,b⟩:=h;exact⟨g,a,Av c b⟩
   ·rename_i e;rw[qv e]at h
    split
    ·rename_i e;rw[rv e]at h;obtain⟨g,cap,a,b⟩:=h;exact⟨g,cap,a,Ch c b⟩
    ·trivial
theorem t8{d W W':wD}{g:Nat}(a:FK d W)(h:W.grownBy W' (Y g))(f:d.heap.size≤g):FK d W':=
 ⟨h.os.trans a.os,h.tape.trans a.tape,h.output.trans a.output,EU a.size h.size,fun b c=>(h.block b (ET c a.size) (fun e=>by injection e with e;omega)).trans (a.block b c)⟩
theorem Ac{w:wD}{F:Nat→Prop}{xs:List ByteArray}(h:∀x∈xs,x.size≤maxLen):Rd.str.u w F xs (xs.map J):=by
 refine⟨by rw[List.length_map];exact (Nat.mul_one _).symm,fun i x a=>⟨[J x],⟨V,h x (Fj a)⟩,fun m u hu=>?_⟩⟩
 cases m with
 | zero =>
  simp only[List.getElem?_cons_zero,ss]at hu;subst hu
  show (xs.map J)[i*1+0]?=_
  rw[Nat.mul_one,Nat.add_zero,List.getElem?_map,a];rfl
 | succ m=>simp at hu
theorem Ay{w:wD}{F:Nat→Prop}{xs:List ByteArray}{v:wF}(h:Rd.str.K w F xs v):∀x∈xs,x.size≤maxLen:=fun x b=>by
 obtain⟨i,c⟩:=List.getElem?_of_mem b;obtain⟨_,_,_,_,_,_,_,_,_,a,_⟩:=Rd.tS h c;exact a.2
theorem s8{w:wD}{F:Nat→Prop}{xs:List ByteArray}{p:Option Addr}{n c:Nat}(h:Rd.str.K w F xs (A p n c))(f:xs.length=n)(q:0<n):∃b off,p=Y ⟨b,off,U⟩∧F b∧b<w.heap.size∧∀j u,(xs.map J)[j]?=Y u→w.cell? ⟨b,off+j,U⟩=Y u:=by
 rcases h with ⟨rfl,_⟩|⟨b,off,cap,s,g,d,t,y,i,l⟩
 ·simp at f;omega
 ·injection i with m z B
  refine⟨b,off,m,g,d,fun j u a=>?_⟩;rw[List.getElem?_map]at a
  cases e:xs[j]? with
  | none=>rw[e]at a;cases a
  | some x =>
   rw[e]at a;injection a with a
   subst a;obtain⟨vs,⟨rfl,_⟩,o⟩:=l j x e;have:=o 0 _ V
   simpa [Rd.str]using this
def mH(M:Nat) (ts:List ae) (k:Int) (vT vR:wF) (G:Nat→Prop) (n:Nat) (fl:Flt) (r:Except Flt (List ByteArray×List dw)) (w:wD) (e:Ending) (w':wD):Prop:=
 ∃fl' vars' vV' args v,e=Ending.returned v∧aD M ts vars' k vT vR vV' w fl' w'∧args.length≤n∧aH w' (fun b=>ai w w' b∧v.ownBlock≠Y b) 67 gn args v∧(∀g,v.ownBlock=Y g→w.heap.size≤g)∧Goes fl r fl' (fun r=>(vars',args)=r)∧vars'.length≤17∧(fl'.1=0→vars'.length≤16)∧Rd.str.K w' (fun b=>G b∨ai w w' b) vars' vV'
def pM(M:Nat) (ts:List ae) (e:Int) (vT vR:wF) (G:Nat→Prop) (n:Nat) (fl:Flt) (binds:Bool) (vars:List ByteArray) (Ts:List ab) (f:Array wF) (w:wD) (v i:wF) (W:wD):Prop:=
 ∃k c a d args,k≤n∧i=I Z (k:Int)∧args.length=k∧aD M ts a e vT vR d w c W∧W.heap[w.heap.size]?=Y (wq f 25 (0,0))∧aH W (fun b=>ai w W b∧v.ownBlock≠Y b) 67 gn args v∧(∀g,v.ownBlock=Y g→w.heap.size+1≤g)∧Goes fl (aG (bU binds) (vars,[]) (Ts.take k)) c (fun r=>(a,args)=r)∧a.length≤17∧(c.1=0→a.length≤16)∧Rd.str.K W (fun b=>(G b∨ai w W b)∧v.ownBlock≠Y b) a d
def nX(M:Nat) (ts:List ae) (i:Int) (vT vR:wF) (G:Nat→Prop) (w:wD) (v:wF) (binds:Bool) (c:List ByteArray) (K:ab) (h:Flt) (wr:wD) (g:Nat) (W:wD):Prop:=
 ∃d a f e,aD M ts a i vT vR f wr d W∧W.heap[g]?=Y (wq #[I O e.b,I Z e.h,I O e.f.b,I Z e.f.h,J e.f.f] 67 (0,0))∧kN e∧Goes h (bD binds c K) d (fun r=>(a,e)=r)∧a.length≤17∧(d.1=0→a.length≤16)∧Rd.str.K W (fun b=>(G b∨ai w W b)∧v.ownBlock≠Y b) a f
theorem fK{F:Nat→Prop}(W:wD)(g:Nat)(f:F g)(a b c d e:wF):Chg F W (st5 W g a b c d e):=by
 unfold st5;exact Chg.y (p:=⟨g,4,U⟩) (Chg.y (p:=⟨g,3,U⟩) (Chg.y (p:=⟨g,2,U⟩) (Chg.y (p:=⟨g,1,U⟩) (Chg.y (p:=⟨g,0,U⟩) (Chg.refl _ _) (z6 f) a) (z6 f) b) (z6 f) c) (z6 f) d) (z6 f) e
theorem qN(G:Nat→Prop)(d M B:Nat)(ts:List ae)(vars:List ByteArray)(kf:Int)(vT vR vV:wF)(fl:Flt)(binds:Bool)(T:ab)(sl:wF)(w:wD)(hw:RmW M ts vars kf fl vT vR vV w)(hr:Rd.str.K w G vars vV)(hG:∀b,G b→b<w.heap.size∧b≠M)(k7:B≤M)(bd:ao w B (d+1) T.u sl)(hs:T.u.length≤20000)(e6:vars.length≤17∧(fl.1=0→vars.length≤16))
  (bk:∀K∈T.u,(K.b=12∨K.b=13∨K.b=14∨K.b=15)∧K.f.size≤72007∧aI K=true) :
  Calls xD 81 #[Value.pointer (Y ⟨M,0,U⟩),xS #[I O T.b,J T.f,I Z T.h,I Z T.y,sl],Value.bool binds] w (mH M ts kf vT vR G T.u.length fl (aG (bU binds) (vars,[]) T.u) w):=by
 obtain⟨Ts,ht⟩:=zzy (T.u);rw[ht]at bd hs bk ⊢;obtain⟨n,hn⟩:=zzy (Ts.length);obtain⟨p,c,k8⟩:∃p c,sl=A p n c:=by
  rcases bd with ⟨rfl,sp,cap,rfl⟩|⟨b,off,cap,h1,h2,h3,h4,rfl,h6⟩
  ·exact⟨sp,cap,by rw[←hn];rfl⟩
  ·exact⟨_,_,by rw[hn]⟩
 subst k8;have hv:=hw.lt;obtain⟨HK,HW,k9⟩:=zz3 bd hw bk;rw[hn]at hs ⊢;have HN:=Hd hn;obtain⟨w1,cl⟩:=zzx (w.alloc (wq #[I O T.b,J T.f,I Z T.h,I Z T.y,A p n c] 25));have cr:FK w w1:=by rw[cl];exact (EP _ w).alloc (EO _) _
 have ct:=p9 w (wq #[I O T.b,J T.f,I Z T.h,I Z T.y,A p n c] 25);rw[←cl]at ct;obtain⟨nA,nC⟩:=zz2 cr ct;have hx:Hid (pM M ts kf vT vR G n fl binds vars Ts #[I O T.b,J T.f,I Z T.h,I Z T.y,A p n c] w (A U 0 0) (I Z 0) w1):=
  ⟨0,fl,vars,vV,[],Fa _,V,V,aD.f hw cr,ct,aH.nil,(fun g h=>by cases h),fO V V,e6.1,e6.2,Rd.y (fun b f=>⟨z6 f,fun e=>by cases e⟩) (Rd.X hr (fun b f=>(hG b f).1) cr)⟩
 obtain⟨hz,ak⟩:=zz2 cl hG;clear bd hw bk hn cl cr ct ht e6 hr hG
 go_enter Tryz.func81,Tryz.ntmps81
 go_upto_region 1 with fail
 change Code.wp _ _ _ _ (w.alloc (wq #[I O T.b,J T.f,I Z T.h,I Z T.y,A p n c] 25));rw[←hz.o];clear hz;go_wp2_with fail
 go_loopw [7,8] (pM M ts kf vT vR G n fl binds vars Ts #[I O T.b,J T.f,I Z T.h,I Z T.y,A p n c] w) (fun _ i _=>n-(intOf i).toNat)
 case atStart=>exact hx.o
 case round =>
  obtain⟨k,la,a,lb,args,hk,rfl,e7,e8,al,br,hA,hD,c9,da,bt⟩:=hrel;obtain⟨p5,c5,hI⟩:=br.b;rw[e7]at hI;subst hI;have nR:(0:Int)≤k:=by omega
  obtain⟨fe,fp⟩:=la;have hM:=e8.2.m;dsimp only at hM;obtain⟨m0,m1,m2,m3,m4,m5⟩:=cQ hM;obtain⟨b0,b1,b2,b3,b4⟩:=cells5 al;obtain⟨C,hJ,HE,HG,HR,e9,HV⟩:=zz7 e8 hD e7 hA br al c9;obtain⟨fm,hL⟩:=zz2 da bt;clear bt e8 hD e7 hA br hM al c9 da;have hend:(fe≠0∨n≤k)→Hid (mH M ts kf vT vR G n fl (aG (bU binds) (vars,[]) Ts) w (Ending.returned (A p5 k c5)) wr):=fun h =>⟨(fe,fp),a,lb,args,_,V,C.o,by rw[HE.o];exact hk,HR.o,fun g hg=>by have:=HG.o g hg;omega,iY hJ.o (by rw[HN.o];exact h),HV.o,fm.o,Rd.y (fun b f=>f.1) hL.o⟩
  have dc:=Hd hend;clear hend
  by_cases bB:k<n
  ·have ld:(k:Int)<n:=by omega
   by_cases hN:fe=0
   ·subst hN;obtain⟨K,hT⟩:∃K,Ts[k]?=Y K:=⟨_,ES (by rw[HN.o];exact bB)⟩;have bd:=HK.o.z (eI C.o.1 k7 hv);rcases bd with ⟨rfl,_⟩|⟨b,off,cap,h1,h2,h3,h4,he,h6⟩
    ·simp at hT
    rw[HN.o]at he;injection he with N _ e3
    subst N;subst e3;obtain⟨av,s,c0,c1,c2,c3,c4,bk⟩:=h6 k K hT;obtain⟨ps,cs,rfl⟩:=bk.f;obtain⟨lf,hO,hP⟩:=k9.o K (Fj hT);obtain⟨kd,bR⟩:∃kd:Int,(K.b:Int)=kd:=⟨_,rfl⟩;have hQ:kd=12∨kd=13∨kd=14∨kd=15:=by omega
    rw[bR]at c0;obtain⟨cu,lg,lo,fv⟩:=zz4 bR hT hP hO;obtain⟨pV,cV,hV⟩:=Rd.b C.o.2.v;obtain⟨nv,fI⟩:=zzy (a.length);rw[fI]at hV;subst hV;have ad:=Hd fI;have l0:nv≤16:=by have:=fm.o V;omega
    have fT:Hid (a.length≤16):=fm.o V;obtain⟨W5,cv⟩:=zzx ((wr.alloc (wq #[I O kd,J K.f,I Z K.h,I Z K.y,A ps K.u.length cs] 25)).alloc (wq #[I O 1,I Z 0,I O 0,I Z 0,J ⟨#[]⟩] 67));obtain⟨gf,gg,_⟩:=ap wr (wq #[I O kd,J K.f,I Z K.h,I Z K.y,A ps K.u.length cs] 25) (wq #[I O 1,I Z 0,I O 0,I Z 0,J ⟨#[]⟩] 67);have gD:FK wr W5:=by rw[cv];exact ((EP _ wr).alloc (EO _) _).alloc (by simp) _
    rw[←cv]at gf gg;obtain⟨gE,b5,nT,hW,R⟩:=zz5 gf gg gD cv (aD.f C.o.2 gD);have dd:M<wr.heap.size:=C.o.2.lt;have af:=Hd dd;have gF:Hid (∀W,Chg (fun b=>b=M) wr W→Rd.str.K W (fun b=>(G b∨ai w W b)∧(A p5 k c5).ownBlock≠Y b) a (A pV nv cV)):=fun W hc =>
     Rd.y (fun b f=>⟨f.1.imp id (fun h=>⟨h.1,ET h.2 hc.h⟩),f.2⟩) (Rd.f (fun b f o ho=>(hc.u b (by
      rcases f.1 with h|h
      ·exact ET (ak.o b h).1 C.o.1.h
      ·exact h.2) (by
      rcases f.1 with h|h
      ·exact (ak.o b h).2
      ·intro e;have:=h.1;omega)).trans ho) hL.o)
    clear av bk h6 h1 h2 h3 h4 hT hP hO gD gf gg cv lf bR fI dd;go_upto_region 7 with fail
    change Code.wp _ _ _ _ ((wr.alloc (wq #[I O kd,J K.f,I Z K.h,I Z K.y,A ps K.u.length cs] 25)).alloc (wq #[I O 1,I Z 0,I O 0,I Z 0,J ⟨#[]⟩] 67));rw[←hW.o];clear hW b0 b1 b2 b3 b4 m0 m1 m2 m3 m4 m5 c0 c1 c2 c3 c4;obtain⟨b0,b1,b2,b3,b4⟩:=cells5 gE.o
    go_upto_block 2 with fail
    go_cut [] from 11 to 82 (fun W=>nX M ts kf vT vR G w (A p5 k c5) binds a K (0,fp) wr (wr.heap.size+1) W)
    case first =>
     rcases hQ with rfl|rfl|rfl|rfl
     ·have hK:K.b=12:=by have:=cu.o;omega
      have HP:Hid (nX M ts kf vT vR G w (A p5 k c5) binds a K (0,fp) wr (wr.heap.size+1) W5):=⟨(0,fp),a,_,⟨1,0,.zero⟩,R.o,b5.o,Ao,j7 (xw hK),HV.o,fun _=>fT.o,gF.o _ R.o.1⟩;clear hK;go_wp2_with fail
      go_meet
      case rel=>exact HP.o
     ·have hK:K.b=13:=by have:=cu.o;omega
      obtain⟨dg,gH⟩:=zz2 hK (pn R.o.2 K.f);clear hK;obtain⟨q,hq⟩:=zzy (bP (idxOf K.f a));have HQ:=Hd hq;rw[hq]at gH;clear hq;go_wp2_with fail
      refine gH.o.mono ?_;rintro e W6 ⟨rfl,S⟩;have X:=aa S b5.o (EN.1 b5.o).1;have hX:=aa S gE.o (EN.1 gE.o).1;obtain⟨W7,cx⟩:=zzx (st5 W6 (wr.heap.size+1) (I O 3) (I Z q) (I O 0) (I Z 0) (J ⟨#[]⟩));have gL:=fX X (I O 3) (I Z q) (I O 0) (I Z 0) (J ⟨#[]⟩);have gM:=(eh (W:=W6) (g:=wr.heap.size+1) (I O 3) (I Z q) (I O 0) (I Z 0) (J ⟨#[]⟩) wr.heap.size (by omega)).trans hX;have hY:Chg (fun b=>b=wr.heap.size+1) W6 W7:=by rw[cx];exact fK (F:=fun b=>b=wr.heap.size+1) _ _ V _ _ _ _ _
      have h5:=R.o.b (aD.f R.o.2 S);have cA:=Hd (aD.own C.o.2 h5 hY (fun b f=>by omega));rw[←cx]at gL gM;obtain⟨gN,gO,h7⟩:=zz3 gL gM cx;obtain⟨e0,N,e2,e3,e4⟩:=cells5 X;have fz:=ac X;clear b0 b1 b2 b3 b4 X hX gL gM hY h5 cx S gH;go_upto_region 13 with fail
      change Code.wp _ _ _ _ (st5 W6 (wr.heap.size+1) (I O 3) (I Z q) (I O 0) (I Z 0) (J ⟨#[]⟩));rw[←h7.o];clear h7 e0 N e2 e3 e4 fz
      cases aq:idxOf K.f a with
      | some j =>
       have hj:=og _ _ _ aq;have hq:q=(j:Int):=by have:=HQ.o;rw[aq]at this;exact this.symm
       subst hq;have n0:(0:Int)≤j:=by omega
       have HP:Hid (nX M ts kf vT vR G w (A p5 k c5) binds a K (0,fp) wr (wr.heap.size+1) W7):=⟨(0,fp),a,_,⟨3,j,.zero⟩,cA.o,gN.o,sX ⟨by decide,by decide⟩ (by have:=HV.o;omega),j7 (xy dg.o aq),HV.o,fun _=>fT.o,gF.o _ cA.o.1⟩;clear aq hj;go_wp2_with fail
       go_meet
       case rel=>exact HP.o
      | none =>
       have hq:q=-1:=by have:=HQ.o;rw[aq]at this;exact this.symm
       subst hq;obtain⟨l1,HF⟩:=zz2 aq (dI cA.o.2 (!binds) 213 13 K.f K.h K.y ps K.u.length cs);obtain⟨b0,b1,b2,b3,b4⟩:=cells5 gO.o;clear aq;go_wp2_with fail
       refine HF.o.mono ?_;rintro e W8 ⟨rfl,cC⟩;obtain⟨gS,h8,gT⟩:=zz3 (cA.o.b cC) (bu cC.1 gN.o (EN.1 gN.o).1 (fun e=>by have:=af.o;omega)) (bu cC.1 gO.o (EN.1 gO.o).1 (fun e=>by have:=af.o;omega));clear b0 b1 b2 b3 b4 cC HF;obtain⟨b0,b1,b2,b3,b4⟩:=cells5 gT.o;obtain⟨m0,m1,m2,m3,m4,m5⟩:=cQ gS.o.2.m
       go_wp2
       go_still_tail 8,(by kernel_rfl)
       change wpList _ _ _ _ _ W8.drew;obtain⟨W9,ha⟩:=zzx (W8.drew);have bl:FK W8 W9:=by rw[ha];exact (EP _ W8).drew
       rw[←ha];obtain⟨h9,ih,iv⟩:=zz3 (gS.o.b (aD.f gS.o.2 bl)) (aa bl h8.o (EN.1 h8.o).1) (aa bl gT.o (EN.1 gT.o).1);have ix:=Hd (fun l2=>dI h9.o.2 l2 204 13 K.f K.h K.y ps K.u.length cs);clear ha bl b0 b1 b2 b3 b4 m0 m1 m2 m3 m4 m5;go_wp2_with fail
       refine (ix.o _).mono ?_;rintro e cR ⟨rfl,a1⟩;obtain⟨dp,b6,iA⟩:=zz3 (h9.o.b a1) (bu a1.1 ih.o (EN.1 ih.o).1 (fun e=>by have:=af.o;omega)) (bu a1.1 iv.o (EN.1 iv.o).1 (fun e=>by have:=af.o;omega));clear a1 ix;obtain⟨l,a6⟩:=zzx (st5 cR (wr.heap.size+1) (I O 2) (I Z (nv:Int)) (I O 0) (I Z 0) (J ⟨#[]⟩));have b7:=fX b6.o (I O 2) (I Z (nv:Int)) (I O 0) (I Z 0) (J ⟨#[]⟩);have b8:=(eh (W:=cR) (g:=wr.heap.size+1) (I O 2) (I Z (nv:Int)) (I O 0) (I Z 0) (J ⟨#[]⟩) wr.heap.size (by omega)).trans iA.o;have ds:Chg (fun b=>b=wr.heap.size+1) cR l:=by rw[a6];exact fK (F:=fun b=>b=wr.heap.size+1) _ _ V _ _ _ _ _
       have Q:=Hd (aD.own C.o.2 dp.o ds (fun b f=>by omega));rw[←a6]at b7 b8;obtain⟨dv,iB,ea⟩:=zz3 b7 b8 a6;obtain⟨e0,N,e2,e3,e4⟩:=cells5 b6.o;have fz:=ac b6.o;obtain⟨m0,m1,m2,m3,m4,m5⟩:=cQ dp.o.2.m;clear b7 b8 ds a6;go_upto_region 17 with fail
       change Code.wp _ _ _ _ (st5 cR (wr.heap.size+1) (I O 2) (I Z (nv:Int)) (I O 0) (I Z 0) (J ⟨#[]⟩));rw[←ea.o];clear ea e0 N e2 e3 e4 fz m0 m1 m2 m3 m4 m5;obtain⟨e0,N,e2,e3,e4⟩:=cells5 iB.o;obtain⟨m0,m1,m2,m3,m4,m5⟩:=cQ Q.o.2.m;have E1:=fun x:Wb l=>x.b N
       have M2:=fun x:Wb l=>x.b m2
       have ba:=Q.o.2.v;obtain⟨us,cT⟩:∃us:List wF,us=a.map Value.string:=⟨_,rfl⟩;have iX:us.length=nv:=by rw[cT,List.length_map];exact ad.o
       have i1:∀u∈us,u.oneCell'=true:=fun u hu=>by
        rw[cT]at hu;obtain⟨x,_,rfl⟩:=List.mem_map.1 hu;rfl
       obtain⟨eb,jj,jo,l3⟩:=zz4 ba cT iX i1;clear e0 N e2 e3 e4 m0 m1 m2 m3 m4 m5 ba cT iX i1;refine RE.u (by kernel_rfl) 13 [1,6,9,10] [10] (fun _ W=>∃x:Wb l,W=x.1) (rN l.heap.size nv us (J K.f)) (fun _ ys=>ys.getD 0 At) (phK l.heap.size nv us (J K.f)) (by kernel_rfl) (fun _ _ _ _ _ _ h f=>bC h f) (fun _ _ _ _ h _ hR=>h.C hR) ⟨⟨l.drew,(EP _ _).drew⟩,V⟩ ?_;simp only[EY,Fi,EZ,Fh]
       repeat (refine RE.b (fun W=>∃x:Wb l,W=x.1) (fun _ _ _ h=>h) V V V ⟨⟨l.drew,(EP _ _).drew⟩,V⟩ ?_;go_big_quiet_step (fail);refine Bk ?_)
       refine RE.f V V ?_ (fun jv=>?_)
       ·intro W P hS hE;obtain⟨s9,_,x,rfl⟩:=P;exact yn V (fun W' f ho=>⟨[A (Y ⟨x.1.heap.size,0,U⟩) 0 0],V,f,z6 f,⟨_,V,zo ho x.2.size⟩⟩)
       simp only[Act.put,EQ,EW,EV]
       repeat (refine RE.b (fun W=>∃x:Wb l,W=x.1) (fun _ _ _ h=>h) V V V ⟨⟨l.drew,(EP _ _).drew⟩,V⟩ ?_;go_big_quiet_step (fail);refine Bk ?_)
       refine RE.f V V ?_ (fun j2=>?_)
       ·intro W P hS hE;obtain⟨s9,_,x,rfl⟩:=P;obtain⟨g1,kc,kk⟩:∃g,jv.getD 0 At=A (Y ⟨g,0,U⟩) 0 0∧x.1.ownsRow l.heap.size 9 1 (A (Y ⟨g,0,U⟩) 0 0) 0 []:=hE 1 jv (by kernel_rfl) V
        by_cases h0:nv=0
        ·have l4:us=[]:=Fp (by rw[jo.o];exact h0);refine tO (q:=pV) (cq:=cV) _ _ V kc ((show _=A pV nv cV from rfl).trans (by rw[h0])) (EO _) ⟨[A (Y ⟨g1,0,U⟩) 0 0],V,EP _ _,z6 (EP _ _),?_⟩;exact⟨g1,0,by rw[h0];rfl,by rw[h0,l4];exact kk⟩
        ·obtain⟨bq,off,ma,hF,nt,cW⟩:=s8 eb.o ad.o (by omega);refine sM (p:=Y ⟨g1,0,U⟩) (n:=0) (c:=0) (m:=nv) (zs:=us) (b:=bq) (off:=off) (cap:=cV) _ _ V kc kk ((show _=A pV nv cV from rfl).trans (by rw[ma])) (fun j u hj=>(x.b (cW j u (by rw[←jj.o];exact hj)))) jo.o l3.o (by omega) (by omega) x.2.size (fun v' W' ho hc=>?_);rw[List.nil_append,Nat.zero_add]at ho;rcases hc with ⟨g,cap,N,e2,e3⟩|⟨cap,N,e2⟩
         ·exfalso
          injection N with f1 _ f3
          rw[e2,Nat.zero_add]at ho;obtain⟨_,_,q3,_⟩:=cw ho;omega
         ·rw[Nat.zero_add]at N;subst N;exact⟨[_],V,e2,z6 e2,⟨_,cap,V,ho⟩⟩
       simp only[Act.put,EQ,EW,EV]
       repeat (refine RE.b (fun W=>∃x:Wb l,W=x.1) (fun _ _ _ h=>h) V V V ⟨⟨l.drew,(EP _ _).drew⟩,V⟩ ?_;go_big_quiet_step (fail);refine Bk ?_)
       refine RE.f V V ?_ (fun kn=>?_)
       ·intro W P hS hE;obtain⟨s9,_,x,rfl⟩:=P
        exact cB iz (vs:=[J K.f]) _ V V V x.2.size (fun v W' f ho=>⟨[v],V,f,z6 f,by
         obtain⟨g,N,e2,e3⟩:=ho
         exact⟨g,N,e3⟩⟩)
       simp only[Act.put,EQ,EW,EV];refine RE.f V V ?_ (fun ec=>?_)
       ·intro W P hS hE;obtain⟨s9,_,x,rfl⟩:=P;obtain⟨g6,ek,mc,hd⟩:∃g cap,j2.getD 0 At=A (Y ⟨g,0,U⟩) nv cap∧x.1.ownsRow l.heap.size 9 1 (A (Y ⟨g,0,U⟩) nv cap) nv us:=hE 6 j2 (by kernel_rfl) V;obtain⟨g9,mn,bl⟩:∃g,kn.getD 0 At=A (Y ⟨g,0,U⟩) 1 1∧x.1.heap[g]?=Y (wq #[J K.f] 9 (0,0)):=hE 9 kn (by kernel_rfl) V
        refine sM (p:=Y ⟨g6,0,U⟩) (n:=nv) (c:=ek) (m:=1) (zs:=[J K.f]) (b:=g9) (off:=0) (cap:=1) _ _ V mc hd mn (fun j u hj=>by
         cases j with
         | zero =>
          simp only[List.getElem?_cons_zero,ss]at hj;subst hj;rw[FI _ _ _ _ _ _ bl];rfl
         | succ j=>simp at hj) V (by simp[Value.oneCell']) (by omega) (by omega) x.2.size (fun v' W' ho hc=>?_)
        rcases hc with ⟨g,cap,N,e2,e3⟩|⟨cap,N,e2⟩
        ·subst e2;injection N with f1 _ f3
         injection f1 with f1
         injection f1 with f1
         subst f1;subst f3;obtain⟨_,q2,_⟩:=cw hd;exact⟨[_],V,⟨⟨W',t8 x.2 e3 q2⟩,V⟩,z7 ⟨g6,ek,hd,ho,e3⟩,⟨_,_,V,ho⟩⟩
        ·subst N;exact⟨[_],V,⟨⟨W',x.2.trans (e2.mono x.2.size)⟩,V⟩,z6 e2,⟨_,_,V,ho⟩⟩
       simp only[Act.put,EQ,EW,EV]
       repeat (refine RE.b (fun W=>∃x:Wb l,W=x.1) (fun _ _ _ h=>h) V V V ⟨⟨l.drew,(EP _ _).drew⟩,V⟩ ?_;go_big_quiet_step (fail);refine Bk ?_)
       refine RE.h ?_;intro W hS hE;obtain⟨x,rfl⟩:=hS;obtain⟨g',cap,eg,H⟩:∃g cap,ec.getD 0 At=A (Y ⟨g,0,U⟩) (nv+1) cap∧x.1.ownsRow l.heap.size 9 1 (A (Y ⟨g,0,U⟩) (nv+1) cap) (nv+1) (us++[J K.f]):=hE 10 ec V;rw[eg];obtain⟨_,mu,_,_,_,hf,_⟩:=cw H;have hh:=Q.o.2.z x.2;have c6:=hh.m;have HP:Hid (nX M ts kf vT vR G w (A p5 k c5) binds a K (0,fp) wr (wr.heap.size+1) (x.1.setCell ⟨M,2,U⟩ (A (Y ⟨g',0,U⟩) (nv+1) cap))):=by
        have nu:M<l.heap.size:=Q.o.2.lt;have P:Chg (fun b=>b=M) x.1 (x.1.setCell ⟨M,2,U⟩ (A (Y ⟨g',0,U⟩) (nv+1) cap)):=Chg.y (F:=fun b=>b=M) (p:=⟨M,2,U⟩) (Chg.refl _ _) (z6 V) _;have kp:Chg (fun b=>b=M) wr (x.1.setCell ⟨M,2,U⟩ (A (Y ⟨g',0,U⟩) (nv+1) cap)):=(Q.o.1.b (Chg.f x.2)).b P;have ks:Rd.str.K (x.1.setCell ⟨M,2,U⟩ (A (Y ⟨g',0,U⟩) (nv+1) cap)) (fun b=>(G b∨ai w (x.1.setCell ⟨M,2,U⟩ (A (Y ⟨g',0,U⟩) (nv+1) cap)) b)∧(A p5 k c5).ownBlock≠Y b) (a++[K.f]) (A (Y ⟨g',0,U⟩) (nv+1) cap):=by
         have hi:=dC H (fun b f=>by
          injection f with f
          have f:g'=b:=f;subst f
          exact P.u g' (EN.1 hf).1 (fun e=>by omega))
         have cW:=Ac (w:=x.1.setCell ⟨M,2,U⟩ (A (Y ⟨g',0,U⟩) (nv+1) cap)) (F:=fun b=>(G b∨ai w (x.1.setCell ⟨M,2,U⟩ (A (Y ⟨g',0,U⟩) (nv+1) cap)) b)∧(A p5 k c5).ownBlock≠Y b) (xs:=a++[K.f]) (fun y hy=>by
          rcases List.mem_append.1 hy with h|h
          ·exact Ay eb.o y h
          ·obtain rfl:=List.mem_singleton.1 h
           have:=fv.o;unfold maxLen;omega)
         rw[List.map_append,←jj.o]at cW;have n1:=C.o.1.h;have nx:=Q.o.1.h;refine Rd.row_own (base:=l.heap.size) (e:=9) (us:=us++[J K.f]) ?_ cW (fun b f=>?_)
         ·have:(a++[K.f]).length=nv+1:=by rw[Fc,ad.o];rfl
          rw[this];exact hi
         ·injection f with f
          have f:g'=b:=f;subst f;refine⟨z7 ⟨by omega,ET (EN.1 hf).1 P.h⟩,fun e=>?_⟩;have:=HR.o.lt e;omega
        have kv:decide ((16:Int)≤(nv:Int))=decide (16≤a.length):=by rw[ad.o];exact tf.2 (by omega)
        refine⟨_,a++[K.f],A (Y ⟨g',0,U⟩) (nv+1) cap,⟨2,a.length,.zero⟩,⟨kp,heap_set c6 2 _,mB hh.t P,Rd.y (fun b f=>?_) ks⟩,?_,sX ⟨by decide,by decide⟩ (by have:=HV.o;omega),by rw[kv];exact BD dg.o l1.o,?_,fun h=>?_,ks⟩
        ·rcases f.1 with h|h
         ·have:=(ak.o b h).1;have:=C.o.1.h;have:=kp.h;exact⟨by omega,(ak.o b h).2⟩
         ·exact⟨h.2,fun e=>by have:=h.1;omega⟩
        ·have kI:=aa x.2 dv.o (EN.1 dv.o).1;rw[ad.o];exact (P.u _ (EN.1 kI).1 (fun e=>by have:=af.o;omega)).trans kI
        ·rw[Fc,ad.o]
         show nv+1≤17
         omega
        ·rw[Fc,ad.o];rw[kv]at h;have:=Cd h V;rw[ad.o]at this;exact this
       obtain⟨m0,m1,m2,m3,m4,m5⟩:=cQ c6;have fM:=aE c6;clear hE eg H mu hf hh c6 E1 M2;go_wp2_with fail
       go_meet
       case rel=>exact HP.o
     all_goals
      have hK:K.b=14∨K.b=15:=by have:=cu.o;omega
      have hl:=oV K (A ps K.u.length cs) W5 hK fv.o lo.o;rw[cu.o]at hl;have HC:Hid (Calls xD 151 #[xS #[I O _,J K.f,I Z K.h,I Z K.y,A ps K.u.length cs]] W5 fun e w'=>e=Ending.returned (xS #[I O (aF K).b,I Z (aF K).h,J (aF K).f])∧FK W5 w'):=hl;have HA:=Hd (uv (binds:=binds) (vars:=a) hK);clear hK hl;go_wp2_with fail
      refine HC.o.mono ?_;rintro e W6 ⟨rfl,S⟩;have X:=aa S b5.o (EN.1 b5.o).1;have mv:=Hd (fX X (I O 4) (I Z 0) (I O (aF K).b) (I Z (aF K).h) (J (aF K).f));have HP:Hid (nX M ts kf vT vR G w (A p5 k c5) binds a K (0,fp) wr (wr.heap.size+1) (st5 W6 (wr.heap.size+1) (I O 4) (I Z 0) (I O (aF K).b) (I Z (aF K).h) (J (aF K).f))):=
       ⟨(0,fp),a,_,⟨4,0,aF K⟩,aD.own C.o.2 (R.o.b (aD.f R.o.2 S)) (fK (F:=fun b=>b=wr.heap.size+1) _ _ V _ _ _ _ _) (fun b f=>by omega),mv.o,Aa fv.o,j7 HA.o,HV.o,fun _=>fT.o,gF.o _ (aD.own C.o.2 (R.o.b (aD.f R.o.2 S)) (fK (F:=fun b=>b=wr.heap.size+1) _ _ V _ _ _ _ _) (fun b f=>by omega)).1⟩
      obtain⟨e0,N,e2,e3,e4⟩:=cells5 X;have fz:=ac X;clear X S b0 b1 b2 b3 b4;go_wp2_with fail
      go_meet
      case rel=>exact HP.o
    case rest =>
     obtain⟨c7,ar,c8,bn,b9,ca,av,el,k0,k1,en⟩:=hcut;obtain⟨na,eo,ep,n3,k2,nb,nc⟩:=zz7 (iy (nN binds) lg.o hJ.o (CX (args:=args) el)) (C.o.b b9) b9.1 ca av k0 k1;have k3:=Hd en;obtain⟨us,H,bb⟩:=HR.o;rw[HE.o]at H;have nd:=Hd bb;have cb:FK wc (wc.alloc (wq #[I O bn.b,I Z bn.h,I O bn.f.b,I Z bn.f.h,J bn.f.f] 67)):=(EP _ wc).alloc (EO _) _;have bc:=Hd cb;have cc:=ep.o.b (Chg.f cb);have er:=Hd cc;have k4:∀g,(A p5 k c5).ownBlock=Y g→g≠M:=fun g hg=>by have:=HG.o g hg;omega
     have ng:=Hd (dC H (fun g hg=>cc.u g (eM H g hg).2 (k4 g hg)));obtain⟨e0,N,e2,e3,e4⟩:=cells5 ca;clear en b9 ca av el k0 k1 bb cb cc k4 H;go_wp2_with (at_builtin;go_must (refine dU rk V (.tmp 83) (.tmp 85) V (p:=p5) (n:=k) (c:=c5) (z:=[I O bn.b,I Z bn.h,I O bn.f.b,I Z bn.f.h,J bn.f.f]) V V ng.o (p9 wc _) V (by simp[Value.oneCell']) (by omega) ?_);intro g et W4 hg P ch)
     have n5:=ep.o.h;have n7:=bc.o.size;have nk:=C.o.1.h;obtain⟨k5,nn⟩:=sJ (r:=gn) (x:=bn) HE.o hv nk er.o nd.o (fun g hg=>by have:=HG.o g hg;omega) (kl.2 ⟨V,k2.o⟩) hg P ch;have hp:Chg (fun b=>b=M) w W4:=cj (eo.o.1.b (Chg.f bc.o)) P (fun b f=>z7 (by have:=HG.o b f;omega));have ev:Rd.str.K W4 (fun b=>(G b∨ai w W4 b)∧(A (Y ⟨g,0,U⟩) (k+1) et).ownBlock≠Y b) ar c8:=by
      have bB:∀b,((G b∨ai w wc b)∧(A p5 k c5).ownBlock≠Y b)→b<wc.heap.size:=fun b f=>by
       rcases f.1 with h|h
       ·have:=(ak.o b h).1;omega
       ·exact h.2
      refine Rd.y (fun b f=>⟨f.1.1.imp id (fun h=>⟨h.1,by have:=P.h;have:=h.2;omega⟩),fun e=>?_⟩) (Rd.f (F:=fun b=>((G b∨ai w wc b)∧(A p5 k c5).ownBlock≠Y b)∧b<wc.heap.size) (fun b f o ho=>(P.u b (by have:=f.2;omega) f.1.2).trans ((bc.o.block b f.2).trans ho)) (Rd.y (fun b f=>⟨f,bB b f⟩) k3.o));injection e with e
      have e:g=b:=e;subst e;rcases hg with h|h
      ·exact f.1.2 h
      ·have:=f.2;omega
     have nr:W4.heap[M]?=Y (wq #[vT,vR,c8,I Z kf,I Z c7.1,I Z c7.2] 83 (0,0)):=(P.u M (by omega) (fun e=>by have:=HG.o _ e;omega)).trans ((bc.o.block M (by omega)).trans eo.o.2.m)
     have k6:Hid (aD M ts ar kf vT vR c8 w c7 W4):=⟨hp,nr,mB HW.o.t hp,Rd.y (fun b f=>by
      rcases f.1 with h|h
      ·have:=(ak.o b h).1;have:=hp.h;exact⟨by omega,(ak.o b h).2⟩
      ·exact⟨h.2,fun e=>by have:=h.1;omega⟩) ev⟩
     have ck:=bu er.o e9.o (EN.1 e9.o).1 (fun e=>by omega);have e5:=(P.u _ (EN.1 ck).1 (fun f=>by have:=HG.o _ f;omega)).trans ck;have HP:Hid (pM M ts kf vT vR G n fl binds vars Ts #[I O T.b,J T.f,I Z T.h,I Z T.y,A _ n _] w (A (Y ⟨g,0,U⟩) (k+1) et) (I Z ((k+1:Nat):Int)) W4):=
      ⟨k+1,c7,ar,c8,args++[bn],by omega,V,by rw[Fc,HE.o];rfl,k6.o,e5,k5,fun b f=>by
       injection f with f
       have f:g=b:=f;subst f;rcases hg with h|h
       ·exact HG.o g h
       ·have:=(EN.1 e9.o).1
        omega,na.o,nb.o,nc.o,ev⟩
     clear hg P ch k5 nn ck e5 e0 N e2 e3 e4;go_wp2_with fail
     refine⟨HP.o,?_⟩;simp[intOf];omega
   ·have HX:=Hd (dc.o (z6 hN)).o;go_wp2_with fail
    go_ret;exact HX.o
  ·have HX:=Hd (dc.o (z7 (by omega))).o;have ld:¬(k:Int)<n:=by omega
   go_wp2_with fail
   go_ret;exact HX.o
structure St2 {α β:Type} (E E2:TypeId) (r:Rd α) (r2:Rd β) (M L:Nat) (DT:Nat→Prop) (ts:List ae) (vars:List ByteArray) (k:Int) (fl:Flt) (vT vR vV:wF) (xs:List α) (v:wF) (ys:List β) (v2:wF) (D:Nat→Prop) (W:wD):Prop where
 m:W.heap[M]?=Y (wq #[vT,vR,vV,I Z k,I Z fl.1,I Z fl.2] 83 (0,0))
 t:bV.K W DT ts vT
 dt:∀b,DT b→b<L∧b≠M
 vv:Rd.str.K W D vars vV
 x:aH W D E r xs v
 y:aH W D E2 r2 ys v2
 d:∀b,D b→L≤b∧b<W.heap.size∧v.ownBlock≠Y b∧v2.ownBlock≠Y b
 xl:∀g,v.ownBlock=Y g→L≤g
 yl:∀g,v2.ownBlock=Y g→L≤g
 lt:M<L
 le:L≤W.heap.size
section
variable {α β:Type} {E E2:TypeId} {r:Rd α} {r2:Rd β} {M L:Nat} {DT:Nat→Prop} {ts:List ae} {vars vars':List ByteArray} {k k':Int} {fl fl':Flt} {vT vR vV vV':wF} {xs:List α} {v:wF} {ys:List β} {v2:wF} {D D':Nat→Prop} {W W':wD}
theorem St2.rm(h:St2 E E2 r r2 M L DT ts vars k fl vT vR vV xs v ys v2 D W):RmW M ts vars k fl vT vR vV W:=
 ⟨h.m,Rd.y (fun b a=>⟨ET (h.dt b a).1 h.le,(h.dt b a).2⟩) h.t,Rd.y (fun b a=>⟨(h.d b a).2.1,fun e=>by have:=(h.d b a).1;have:=h.lt;omega⟩) h.vv⟩
theorem St2.swap(h:St2 E E2 r r2 M L DT ts vars k fl vT vR vV xs v ys v2 D W):St2 E2 E r2 r M L DT ts vars k fl vT vR vV ys v2 xs v D W:=
 ⟨h.m,h.t,h.dt,h.vv,h.y,h.x,fun b a=>⟨(h.d b a).1,(h.d b a).2.1,(h.d b a).2.2.2,(h.d b a).2.2.1⟩,h.yl,h.xl,h.lt,h.le⟩
theorem St2.C(h:St2 E E2 r r2 M L DT ts vars k fl vT vR vV xs v ys v2 D W)(K:Nat→Prop)(p:W.heap.size≤W'.heap.size)(c:∀b,b<W.heap.size→¬K b→W'.heap[b]?=W.heap[b]?)
  (f:∀b,K b→L≤b∧¬D b∧v.ownBlock≠Y b∧v2.ownBlock≠Y b):St2 E E2 r r2 M L DT ts vars k fl vT vR vV xs v ys v2 D W':=by
 have hle:=h.le;have q:=h.lt;have j:∀b,D b→∀o,W.heap[b]?=Y o→W'.heap[b]?=Y o:=fun b n o l=>(c b (h.d b n).2.1 (fun e=>(f b e).2.1 n)).trans l
 refine⟨(c M (by omega) (fun e=>by have:=(f M e).1;omega)).trans h.m,Rd.f (fun b a o l=>(c b (by have:=(h.dt b a).1;omega) (fun e=>by have:=(f b e).1;have:=(h.dt b a).1;omega)).trans l) h.t,h.dt,Rd.f j h.vv,
  h.x.C (fun g i=>c g (h.x.lt i) (fun e=>(f g e).2.2.1 i)) j (fun _ h=>h),h.y.C (fun g i=>c g (h.y.lt i) (fun e=>(f g e).2.2.2 i)) j (fun _ h=>h),fun b a=>⟨(h.d b a).1,ET (h.d b a).2.1 p,(h.d b a).2.2⟩,h.xl,h.yl,h.lt,by omega⟩
theorem St2.z(h:St2 E E2 r r2 M L DT ts vars k fl vT vR vV xs v ys v2 D W)(c:FK W W'):St2 E E2 r r2 M L DT ts vars k fl vT vR vV xs v ys v2 D W':=
 h.C (fun _=>False) c.size (fun b a _=>c.block b a) (fun _ h=>h.elim)
theorem St2.set(h:St2 E E2 r r2 M L DT ts vars k fl vT vR vV xs v ys v2 D W)(g i:Nat)(u:wF)(d:L≤g)(f:¬D g)(j:v.ownBlock≠Y g)(a:v2.ownBlock≠Y g):St2 E E2 r r2 M L DT ts vars k fl vT vR vV xs v ys v2 D (W.setCell ⟨g,i,U⟩ u):=
 h.C (fun b=>b=g) (by simp[World.setCell]) (fun b _ c=>ER W ⟨g,i,U⟩ u b c) (fun b e=>by subst e;exact⟨d,f,j,a⟩)
theorem St2.chgM(h:St2 E E2 r r2 M L DT ts vars k fl vT vR vV xs v ys v2 D W)(c:Chg (fun b=>b=M) W W')(hm:W'.heap[M]?=Y (wq #[vT,vR,vV,I Z k',I Z fl'.1,I Z fl'.2] 83 (0,0))):St2 E E2 r r2 M L DT ts vars k' fl' vT vR vV xs v ys v2 D W':=by
 have hle:=h.le;have m:=h.lt;have n:=c.h;have i:∀b,D b→∀o,W.heap[b]?=Y o→W'.heap[b]?=Y o:=fun b l o j=>(c.u b (h.d b l).2.1 (fun e=>by have:=(h.d b l).1;omega)).trans j
 refine⟨hm,Rd.f (fun b a o j=>(c.u b (by have:=(h.dt b a).1;omega) (h.dt b a).2).trans j) h.t,h.dt,Rd.f i h.vv,
  h.x.C (fun g f=>c.u g (h.x.lt f) (fun e=>by have:=h.xl g f;omega)) i (fun _ h=>h),h.y.C (fun g f=>c.u g (h.y.lt f) (fun e=>by have:=h.yl g f;omega)) i (fun _ h=>h),fun b a=>⟨(h.d b a).1,ET (h.d b a).2.1 n,(h.d b a).2.2⟩,h.xl,h.yl,h.lt,by omega⟩
theorem St2.call(h:St2 E E2 r r2 M L DT ts vars k fl vT vR vV xs v ys v2 D W)(o:aD M ts vars k' vT vR vV W fl' W'):St2 E E2 r r2 M L DT ts vars k' fl' vT vR vV xs v ys v2 D W':=h.chgM o.1 o.2.m
theorem St2.wide(h:St2 E E2 r r2 M L DT ts vars k fl vT vR vV xs v ys v2 D W)(a:∀b,D b→D' b)(d:∀b,D' b→L≤b∧b<W.heap.size∧v.ownBlock≠Y b∧v2.ownBlock≠Y b):St2 E E2 r r2 M L DT ts vars k fl vT vR vV xs v ys v2 D' W:=
 ⟨h.m,h.t,h.dt,Rd.y a h.vv,h.x.C (fun _ _=>rfl) (fun _ _ _ c=>c) a,h.y.C (fun _ _=>rfl) (fun _ _ _ c=>c) a,d,h.xl,h.yl,h.lt,h.le⟩
theorem St2.low(h:St2 E E2 r r2 M L DT ts vars k fl vT vR vV xs v ys v2 D W)(g:Nat)(w:g<L)(n:g≠M)(p:¬DT g)(s:W.heap.size≤W'.heap.size)(c:∀b,b<W.heap.size→b≠g→W'.heap[b]?=W.heap[b]?):St2 E E2 r r2 M L DT ts vars k fl vT vR vV xs v ys v2 D W':=by
 have hle:=h.le;have u:=h.lt;have i:∀b,D b→∀o,W.heap[b]?=Y o→W'.heap[b]?=Y o:=fun b l o j=>(c b (h.d b l).2.1 (fun e=>by have:=(h.d b l).1;omega)).trans j
 exact⟨(c M (by omega) (fun e=>n e.symm)).trans h.m,Rd.f (fun b a o j=>(c b (by have:=(h.dt b a).1;omega) (fun e=>p (e ▸ a))).trans j) h.t,h.dt,Rd.f i h.vv,
  h.x.C (fun q f=>c q (h.x.lt f) (fun e=>by have:=h.xl q f;omega)) i (fun _ h=>h),h.y.C (fun q f=>c q (h.y.lt f) (fun e=>by have:=h.yl q f;omega)) i (fun _ h=>h),fun b a=>⟨(h.d b a).1,ET (h.d b a).2.1 s,(h.d b a).2.2⟩,h.xl,h.yl,h.lt,by omega⟩
theorem St2.N(h:St2 E E2 r r2 M L DT ts vars k fl vT vR vV xs v ys v2 D W)(o:aD M ts vars' k' vT vR vV' W fl' W')(n:Rd.str.K W' (fun b=>D b∨ai W W' b) vars' vV'):St2 E E2 r r2 M L DT ts vars' k' fl' vT vR vV' xs v ys v2 (fun b=>D b∨ai W W' b) W':=by
 have hle:=h.le;have p:=h.lt;have c:=o.1;have q:=c.h;have j:∀b,D b→∀o,W.heap[b]?=Y o→W'.heap[b]?=Y o:=fun b l o i=>(c.u b (h.d b l).2.1 (fun e=>by have:=(h.d b l).1;omega)).trans i
 refine⟨o.2.m,Rd.f (fun b a o i=>(c.u b (by have:=(h.dt b a).1;omega) (h.dt b a).2).trans i) h.t,h.dt,n,
  h.x.C (fun g f=>c.u g (h.x.lt f) (fun e=>by have:=h.xl g f;omega)) j (fun _ h=>z6 h),h.y.C (fun g f=>c.u g (h.y.lt f) (fun e=>by have:=h.yl g f;omega)) j (fun _ h=>z6 h),fun b a=>?_,h.xl,h.yl,h.lt,by omega⟩
 rcases a with a|a
 ·exact⟨(h.d b a).1,ET (h.d b a).2.1 q,(h.d b a).2.2⟩
 ·exact⟨EU hle a.1,a.2,fun e=>by have:=h.x.lt e;have:=a.1;omega,fun e=>by have:=h.y.lt e;have:=a.1;omega⟩
theorem St2.push(l:E≠E2)(h:St2 E E2 r r2 M L DT ts vars k fl vT vR vV xs v ys v2 D W){n g cap:Nat}{us vs:List wF}{x:α}(B:xs.length=n)(p:r.u W D xs us)(C:r.at_ W D x vs)(w:v.ownBlock=Y g∨W.heap.size≤g)(f:Chg (fun b=>v.ownBlock=Y b) W W')
  (i:W'.ownsRow 0 E r.n (A (Y ⟨g,0,U⟩) (n+1) cap) (n+1) (us++vs)):St2 E E2 r r2 M L DT ts vars k fl vT vR vV (xs++[x]) (A (Y ⟨g,0,U⟩) (n+1) cap) ys v2 D W':=by
 have hle:=h.le;have F:=h.lt;have G:=f.h;have q:∀b,D b→∀o,W.heap[b]?=Y o→W'.heap[b]?=Y o:=fun b z o s=>(f.u b (h.d b z).2.1 (h.d b z).2.2.1).trans s
 have u:∀b,v2.ownBlock=Y b→v.ownBlock≠Y b:=fun b c=>h.y.u h.x (fun e=>l e.symm) c
 refine⟨(f.u M (by omega) (fun e=>by have:=h.xl M e;omega)).trans h.m,Rd.f (fun b a o s=>(f.u b (by have:=(h.dt b a).1;omega) (fun e=>by have:=h.xl b e;have:=(h.dt b a).1;omega)).trans s) h.t,h.dt,Rd.f q h.vv,
  ⟨us++vs,by rw[Fc,B];exact i,Rd.vk q (Rd.wg p C)⟩,h.y.C (fun b c=>f.u b (h.y.lt c) (u b c)) q (fun _ h=>h),fun b a=>⟨(h.d b a).1,ET (h.d b a).2.1 G,fun e=>?_,(h.d b a).2.2.2⟩,fun b c=>?_,h.yl,h.lt,by omega⟩
 ·injection e with e
  have e:g=b:=e;subst e;rcases w with j|j
  ·exact (h.d g a).2.2.1 j
  ·have:=(h.d g a).2.1;omega
 ·injection c with c
  have c:g=b:=c;subst c;rcases w with j|j
  ·exact h.xl g j
  ·omega
end
