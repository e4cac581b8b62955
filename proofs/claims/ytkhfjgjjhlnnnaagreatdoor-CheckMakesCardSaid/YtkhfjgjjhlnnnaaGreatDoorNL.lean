/- Parts of one proof, joined; conditions stand in each theorem. -/
import Derived.Test.YtkhfjgjjhlnnnaaGreatDoorNK
open Except renaming error→z8,ok→xL
open Go.Value renaming agg→wD,string→J,int→I,tuple→AJ,slice→A,pointer→wF,func→Bk,bool→xS
open Go.IntKind renaming i64→Z,u8→O
open Go renaming Value→vn,World→vk,Calls→wB,undef→xD,wpQuiet_nil→z7
open Go.Ending renaming returned→xv
open Or renaming inl→wP,inr→xj
open Option renaming some→Y,none→U
open Go.Proofs.Tryz renaming prog→wq
open Go.Obj renaming cells→ur
open Decidable renaming decide→wo
open Bool renaming true→wg,false→wj
open Go.Act renaming put→AF
namespace Go.Proofs.YtkhfjgjjhlnnnaaGreatDoor
set_option maxHeartbeats 8000000
set_option maxRecDepth 100000
open Go.RowKit
def fB(ts:List ae) (T:ab):Except Flt (List ae):=
 if (a9 T.f ts).isSome then z8 (210,T.t)
 else if 32≤ts.length||6<T.q.length then z8 (204,T.t)
 else match aG fieldStep [] T.q with
  | .error e=>z8 e
  | .ok _=>xL (ts++[⟨T.f,T.q.length⟩])
theorem pf:∀(l:List ab) (s b:List ByteArray),aG fieldStep s l=xL b→b=s++l.map ab.f
 | [],s,b,h=>by injection h with h;rw[←h];simp
 | K::l,s,b,h=>by
  unfold aG at h
  cases a:fieldStep s K with
  | error e=>rw[a]at h;cases h
  | ok s1 =>
   rw[a]at h;unfold fieldStep at a
   split at a
   ·cases a
   ·injection a with a
    rw[pf l s1 b h,←a];simp
theorem ml:Elem 52 29 2 24:=Elem.of (z:=wD #[J ByteArray.empty,I Z 0]) Tryz.underlying29 (by kernel_rfl) (by kernel_rfl) (by decide) (by decide)
def oo(F:Nat→Prop) (d M:Nat) (rs:List ap) (vT vR:vn) (r:Except Flt (List ae)) (w:vk) (e:Ending) (w':vk):Prop:=
 Chg (bm M [vT,vR]) w w'∧match r with
 | .ok b=>e=xv (AJ #[])∧∃a,MkB F d M b rs a vR w'∧Grew vT a w.heap.size
 | .error er=>e=aV er.1 er.2
theorem aj.taken{w:vk}{B d:Nat}{Ts:List ab}{p:Option Addr}{n c k:Nat}(h:aj w B (d+1) Ts (A p n c))(o:k≤Ts.length):aj w B (d+1) (Ts.take k) (A p k c):=by
 rcases h with ⟨rfl,sp,cap,he⟩|⟨b,off,cap,t,q,u,r,he,s⟩
 ·injection he with f l g
  subst f;subst g;have:k=0:=by simpa using o
  subst this;exact wP ⟨V,_,_,V⟩
 ·injection he with f l g
  subst f;subst l;subst g
  by_cases m:k=0
  ·subst m;exact wP ⟨V,_,_,V⟩
  ·have j:(Ts.take k).length=k:=by rw[List.length_take];omega
   refine xj ⟨b,off,c,fun e=>by rw[e]at j;exact m j.symm,q,by omega,r,by rw[j],fun i T a=>s i T ?_⟩;rw[List.getElem?_take]at a
   split at a
   ·exact a
   ·cases a
theorem xx(b off n c m:Nat)(hm:m≤c)(W:vk):(Instr.slice 23 (A (Y ⟨b,off,U⟩) n c) U (Y (I Z (m:Int))) U).run wq W=.ok (A (Y ⟨b,off,U⟩) m c) W:=by
 rw[run_slice_h W 23 (Y ⟨b,off,U⟩) n c (by kernel_rfl) Z m (by omega) (by omega)];rw[show (sizeOf (Tryz.prog.elem 23)).run wq W=.ok 5 W from by kernel_rfl]
 show Result.ok (sliced _ _ _ _ _) W=_
 unfold sliced;rw[Int.toNat_natCast]
 by_cases a:c=0
 ·subst a;obtain rfl:m=0:=by omega
  rfl
 ·rw[r5 a];simp[Addr.add]
def zq9(w:vk) (F:Nat→Prop) (d M:Nat) (ts:List ae) (rs:List ap) (vT vR:vn) (T:ab) (a:vn) (n:Nat) (i:vn) (W:vk):Prop:=
 ∃(j:Nat) (s:List ByteArray),j≤n∧i=I Z (j:Int)∧aG fieldStep [] (T.q.take j)=xL s∧Gc w W∧W.heap[w.heap.size]?=Y (ur #[I O 2,J T.f,I Z T.h,I Z T.t,a] 25 (0,0))∧MkB F d M ts rs vT vR W
theorem zy(F:Nat→Prop)(d M:Nat)(ts:List ae)(rs:List ap)(vT vR:vn)(T:ab)(p:Option Addr)(n c dd:Nat)(w:vk)
  (hw:MkB F d M ts rs vT vR w) (hk:T.b=2) (ds:ts.length≤10000) (b6:T.q.length=n) (hn:n≤10000) (ba:aj w w.heap.size (dd+1) T.q (A p n c)) (dv:T.f.size≤maxLen) :
  wB wq 22 #[wF (Y ⟨M,0,U⟩),wD #[I O T.b,J T.f,I Z T.h,I Z T.t,A p n c]] w (oo F d M rs vT vR (fB ts T) w):=by
 rw[hk];change wB wq 22 #[wF (Y ⟨M,0,U⟩),wD #[I O 2,J T.f,I Z T.h,I Z T.t,A p n c]] w _;obtain⟨C,D,ea⟩:=hw.t.b;subst ea;obtain⟨y,af⟩:=zzy (ts.length);have HN:=Hd af;rw[af]at ds;obtain⟨w1,bc⟩:=zzx (w.alloc (ur #[I O 2,J T.f,I Z T.h,I Z T.t,A p n c] 25));have X:Gc w w1:=by rw[bc];exact (Fl _ w).alloc (Fj _) _
 have br:w1.heap[w.heap.size]?=Y (ur #[I O 2,J T.f,I Z T.h,I Z T.t,A p n c] 25 (0,0)):=by rw[bc];exact qv w _
 obtain⟨bt,r,b7,b8,ak,G⟩:=zz6 br X (hw.u X) (fun g hg=>hw.t.lt (g:=g) hg) ba b6;obtain⟨ix,bB⟩:=zzx (bU (a9 T.f ts));have al:Hid (wo ((0:Int)≤ix)=(a9 T.f ts).isSome):=by
  show _=_
  rw[bB]
  cases a9 T.f ts with
  | none=>rfl
  | some k=>show wo ((0:Int)≤(k:Int))=wg;simp
 have bd:=Hd (fun (W:vk) (h:Gc w1 W)=>pL ts T.f _ _ M W ((hw.u X).u h).row_t (fun _ h=>h) ((hw.u X).u h).y.1);rw[←bB]at bd;obtain⟨e0,e1,e2,e3,e4⟩:=cells5 br;have ad:w1.cell? ⟨M,0,U⟩=Y (A C y D):=by rw[(hw.u X).y.1,af]
 have E0:=fun x:Wb w1=>x.b e0
 have E1:=fun x:Wb w1=>x.b e1
 have E2:=fun x:Wb w1=>x.b e2
 have E3:=fun x:Wb w1=>x.b e3
 have E4:=fun x:Wb w1=>x.b e4
 have MT:=fun x:Wb w1=>x.b ad
 clear br X hw hk ba b6 bB
 go_enter Tryz.func22,Tryz.ntmps22
 go_upto_region 1 with fail
 change Code.wp _ _ _ _ (w.alloc (ur #[I O 2,J T.f,I Z T.h,I Z T.t,A p n c] 25));rw[←bc];clear bc
 go_cut [] from 6 to 31 (fun W2=>Gc w W2∧W2.heap[w.heap.size]?=Y (ur #[I O 2,J T.f,I Z T.h,I Z T.t,A p n c] 25 (0,0))∧MkB F d M ts rs (A C ts.length D) vR W2∧(a9 T.f ts).isSome=wj∧(32≤y||6<n)=wj)
 case first =>
  have hA:(a9 T.f ts).isSome=wg→fB ts T=z8 (210,T.t):=fun h=>by unfold fB;rw[r6 h]
  have hB:(a9 T.f ts).isSome=wj→(wo (32≤y)||decide (6<n))=wg→fB ts T=z8 (204,T.t):=fun h h2=>by
   unfold fB;rw[h,r5 (by decide),r6 (by rw[HN.o,G.o];exact h2)]
  obtain⟨HA,b9⟩:=zz2 hA hB;clear hA hB af
  by_cases ca:32≤y
  ·have cb:(32:Int)≤y:=by omega
   have aq:Hid (32≤y):=ca;refine RE.q (by kernel_rfl) 25 [6,24] [] (fun _ W=>∃x:Wb w1,W=x.1) (fun W W'=>Gc W W') (fun i ys=>if i=6 then I Z (ix:Int) else ys.getD 0 xD) (fun i W ys=>if i=24 then cJ w1.heap.size [(wo ((0:Int)≤ix),210),(wg,204)] W (ys.getD 0 xD) else True) (by kernel_rfl) (fun _ _ _ _ _ _ h a=>bE h a) (fun i W W' ys h _ a=>by split at h;(rw[r6 (by assumption)];exact h.u a);rw[r5 (by assumption)];trivial) ⟨⟨w1.drew,(Fl _ _).drew⟩,V⟩ ?_;simp only[Fy,FK,Fz,FI]
   repeat (refine RE.b (fun W=>∃x:Wb w1,W=x.1) (fun _ _ _ h=>h) V V V ⟨⟨w1.drew,(Fl _ _).drew⟩,V⟩ ?_;go_big_quiet_step (fail);refine z7 ?_)
   refine RE.f V V ?_ (fun cc=>?_)
   ·intro W H _ z;obtain⟨s9,_,x,rfl⟩:=H;refine RE.t 34 _ _ V (enters_of Tryz.func34 (by kernel_rfl) V) #[wF (Y ⟨M,0,U⟩),J T.f] (by simp[Act.eval]) ((bd.o x.1 x.2).mono ?_);rintro e W' ⟨rfl,a⟩;exact⟨_,V,[],V,a,a,trivial⟩
   simp only[AF,Fo,Fw,Fv,Nat.reduceAdd,↓reduceIte]
   repeat (refine RE.b (fun W=>∃x:Wb w1,W=x.1) (fun _ _ _ h=>h) V V V ⟨⟨w1.drew,(Fl _ _).drew⟩,V⟩ ?_;go_big_quiet_step (fail);refine z7 ?_)
   refine RE.f V V ?_ (fun ys=>?_)
   ·intro W H _ z;obtain⟨s9,_,x,rfl⟩:=H;exact iK _ _ 210 204 _ _ V V V x.2.size (fun v W' a ho=>⟨[v],V,a,a,ho⟩)
   simp only[AF,Fo,Fw,Fv,Nat.reduceAdd,Nat.reduceEqDiff,↓reduceIte];refine RE.h ?_;intro W hS z;obtain⟨x,rfl⟩:=hS;obtain⟨g,eg,lg,hg⟩:cJ w1.heap.size [(wo ((0:Int)≤ix),210),(wg,204)] x.1 (ys.getD 0 xD):=z 24 ys V;rw[eg];have ar:=Hd (cg [(wo ((0:Int)≤ix),210),(wg,204)] 2 T.f T.h T.t (A p n c) g 2 2 x.1 V (by omega) hg);have L:=Hd x.2;clear z eg lg hg E0 E1 E2 E3 E4 MT;go_wp2_with fail
   refine ar.o.mono ?_;rintro e W2 ⟨q,he⟩;have f:=L.o.trans (q.mono L.o.size);clear q
   cases R:wo ((0:Int)≤ix) with
   | true =>
    rw[R]at he;have he:e=aV 210 T.t:=he;subst he;refine⟨V,Chg.f (r.o.trans (f.mono r.o.size)),?_⟩;rw[HA.o (al.o.symm.trans R)];rfl
   | false =>
    rw[R]at he;have he:e=aV 204 T.t:=he;subst he;refine⟨V,Chg.f (r.o.trans (f.mono r.o.size)),?_⟩;rw[b9.o (al.o.symm.trans R) (by rw[decide_eq_true aq.o];rfl)];rfl
  ·have cb:¬(32:Int)≤y:=by omega
   have aq:Hid (¬32≤y):=ca;refine RE.q (by kernel_rfl) 25 [6,24] [] (fun _ W=>∃x:Wb w1,W=x.1) (fun W W'=>Gc W W') (fun i ys=>if i=6 then I Z (ix:Int) else ys.getD 0 xD) (fun i W ys=>if i=24 then cJ w1.heap.size [(wo ((0:Int)≤ix),210),(wo ((6:Int)<n),204)] W (ys.getD 0 xD) else True) (by kernel_rfl) (fun _ _ _ _ _ _ h a=>bE h a) (fun i W W' ys h _ a=>by split at h;(rw[r6 (by assumption)];exact h.u a);rw[r5 (by assumption)];trivial) ⟨⟨w1.drew,(Fl _ _).drew⟩,V⟩ ?_;simp only[Fy,FK,Fz,FI]
   repeat (refine RE.b (fun W=>∃x:Wb w1,W=x.1) (fun _ _ _ h=>h) V V V ⟨⟨w1.drew,(Fl _ _).drew⟩,V⟩ ?_;go_big_quiet_step (fail);refine z7 ?_)
   refine RE.f V V ?_ (fun cc=>?_)
   ·intro W H _ z;obtain⟨s9,_,x,rfl⟩:=H;refine RE.t 34 _ _ V (enters_of Tryz.func34 (by kernel_rfl) V) #[wF (Y ⟨M,0,U⟩),J T.f] (by simp[Act.eval]) ((bd.o x.1 x.2).mono ?_);rintro e W' ⟨rfl,a⟩;exact⟨_,V,[],V,a,a,trivial⟩
   simp only[AF,Fo,Fw,Fv,Nat.reduceAdd,↓reduceIte]
   repeat (refine RE.b (fun W=>∃x:Wb w1,W=x.1) (fun _ _ _ h=>h) V V V ⟨⟨w1.drew,(Fl _ _).drew⟩,V⟩ ?_;go_big_quiet_step (fail);refine z7 ?_)
   refine RE.f V V ?_ (fun ys=>?_)
   ·intro W H _ z;obtain⟨s9,_,x,rfl⟩:=H;exact iK _ _ 210 204 _ _ V V V x.2.size (fun v W' a ho=>⟨[v],V,a,a,ho⟩)
   simp only[AF,Fo,Fw,Fv,Nat.reduceAdd,Nat.reduceEqDiff,↓reduceIte];refine RE.h ?_;intro W hS z;obtain⟨x,rfl⟩:=hS;obtain⟨g,eg,lg,hg⟩:cJ w1.heap.size [(wo ((0:Int)≤ix),210),(wo ((6:Int)<n),204)] x.1 (ys.getD 0 xD):=z 24 ys V;rw[eg];have ar:=Hd (cg [(wo ((0:Int)≤ix),210),(wo ((6:Int)<n),204)] 2 T.f T.h T.t (A p n c) g 2 2 x.1 V (by omega) hg);have L:=Hd x.2;clear z eg lg hg E0 E1 E2 E3 E4 MT;go_wp2_with fail
   refine ar.o.mono ?_;rintro e W2 ⟨q,he⟩;have f:=L.o.trans (q.mono L.o.size);clear q
   cases R:wo ((0:Int)≤ix) with
   | true =>
    rw[R]at he;have he:e=aV 210 T.t:=he;subst he;refine⟨V,Chg.f (r.o.trans (f.mono r.o.size)),?_⟩;rw[HA.o (al.o.symm.trans R)];rfl
   | false =>
    rw[R]at he
    cases h2:wo ((6:Int)<n) with
    | true =>
     rw[h2]at he;have he:e=aV 204 T.t:=he;subst he;refine⟨V,Chg.f (r.o.trans (f.mono r.o.size)),?_⟩;have h3:6<n:=by have:=tf h2;omega
     rw[b9.o (al.o.symm.trans R) (by rw[decide_eq_true h3,Bool.or_true])];rfl
    | false =>
     rw[h2]at he;have he:e=xv (AJ #[]):=he;subst he;have h3:¬6<n:=by have:=of_decide_eq_false h2;omega
     have HP:Hid (Gc w W2∧W2.heap[w.heap.size]?=Y (ur #[I O 2,J T.f,I Z T.h,I Z T.t,A p n c] 25 (0,0))∧MkB F d M ts rs (A C ts.length D) vR W2∧(a9 T.f ts).isSome=wj∧(32≤y||6<n)=wj):=
      ⟨r.o.trans (f.mono r.o.size),aa f bt.o (Fi.1 bt.o).1,b7.o.u f,al.o.symm.trans R,by rw[r7 aq.o,r7 h3];rfl⟩
     clear R h2 he f e0 e1 e2 e3 e4 ad;go_wp2_with fail
     go_meet
     case rel=>exact HP.o
 case rest =>
  obtain⟨ch,bR,ck,cl,bn⟩:=hcut;obtain⟨eb,ec,ek⟩:=zz3 ch bR ck;have cq:Hid (fB ts T=match aG fieldStep [] T.q with | .error e=>z8 e | .ok _=>xL (ts++[⟨T.f,T.q.length⟩])):=by
   show _=_
   unfold fB;rw[cl,r5 (by decide),r5 (by rw[HN.o,G.o,bn];decide)]
  clear e0 e1 e2 e3 e4 ad E0 E1 E2 E3 E4 MT bd ch ck cl bn af bt b7 r;obtain⟨e0,e1,e2,e3,e4⟩:=cells5 bR;clear bR;go_wp2_with fail
  go_loopw [35] (zq9 w F d M ts rs (A C ts.length D) vR T (A p n c) n) (fun i _=>n-(intOf i).toNat)
  case atStart=>exact⟨0,[],FA _,V,V,eb.o,ec.o,ek.o⟩
  case round =>
   obtain⟨j,s,hj,rfl,av,cr,ct,cu⟩:=hrel;have ev:(0:Int)≤j:=by omega
   obtain⟨b0,u,S,N⟩:=zz4 av cr ct cu;clear av cr ct cu e0 e1 e2 e3 e4
   by_cases el:j<n
   ·have e5:(j:Int)<n:=by omega
    obtain⟨K,hK⟩:∃K,T.q[j]?=Y K:=⟨_,Fq (by rw[G.o];exact el)⟩;have ba:=ak.o.u u.o;have cv:=aj.taken (k:=j) (ak.o.u u.o) (by rw[G.o];omega);rcases ba with ⟨h0,_⟩|⟨b,off,cap,R,h2,h3,h4,he,h6⟩
    ·rw[h0]at hK;simp at hK
    rw[G.o]at he h3;injection he with en _ eo
    subst en;subst eo;obtain⟨cx,sK,c0,c1,c2,c3,c4,cA⟩:=h6 j K hK;obtain⟨ps,bk,rfl⟩:=cA.f;obtain⟨nk,cC⟩:=zzy (K.q.length);rw[cC]at c4;have a1:s=(T.q.take j).map ab.f:=by rw[pf _ _ _ b0.o];rfl
    obtain⟨bb,b1⟩:=zzx ((idxOf K.f ((T.q.take j).map ab.f)).isSome);have b2:Hid (aG fieldStep [] (T.q.take (j+1))=if bb then z8 (210,K.t) else xL (s++[K.f])):=by
     show _=_
     rw[gz hK b0.o,b1,←a1];rfl
    obtain⟨B,bl⟩:=zzx (wr.alloc (ur #[I O K.b,J K.f,I Z K.h,I Z K.t,A ps nk bk] 25));have q:Gc wr B:=by rw[bl];exact (Fl _ wr).alloc (Fj _) _
    have a6:B.heap[wr.heap.size]?=Y (ur #[I O K.b,J K.f,I Z K.h,I Z K.t,A ps nk bk] 25 (0,0)):=by rw[bl];exact qv wr _
    obtain⟨cR,e6⟩:=zz2 q a6;have b3:=aa q S.o (Fi.1 S.o).1;have e7:=Hd b3;have e8:∀(fn:Fn) (first cap:Array vn) (w:vk),(Instr.makeFunc fn first cap).run wq w=.ok (Bk fn first cap) w:=fun _ _ _ _=>rfl
    have e9:∀W,(Instr.slice 23 (A (Y ⟨b,off,U⟩) n c) U (Y (I Z (j:Int))) U).run wq W=.ok (A (Y ⟨b,off,U⟩) j c) W:=fun W=>xx b off n c j (by omega) W
    have cV:=Hd (fun (W:vk) (hW:Gc B W)=>zN K.f wr.heap.size (T.q.take j) (A (Y ⟨b,off,U⟩) j c) dd W ((cv.u ((q.mono u.o.size).trans (hW.mono (Fu u.o.size q.size)))).up (Fu u.o.size (Fu q.size hW.size))) (by rw[List.length_take];omega) (by rw[Gb _ _ _ _ _ _ (aa hW a6 (Fi.1 a6).1)];rfl));rw[←b1]at cV;obtain⟨k0,k1,k2,k3,k4⟩:=cells5 a6;obtain⟨n0,n1,n2,n3,n4⟩:=cells5 b3;have K0:=fun x:Wb B=>x.b k0
    have K1:=fun x:Wb B=>x.b k1
    have K2:=fun x:Wb B=>x.b k2
    have K3:=fun x:Wb B=>x.b k3
    have K4:=fun x:Wb B=>x.b k4
    have N4:=fun x:Wb B=>x.b n4
    obtain⟨e0,e1,e2,e3,e4⟩:=cells5 S.o;clear q a6 b3 a1 b1 cx cA h6 R h2 h3 h4 cC hK cv k0 k1 k2 k3 k4 n0 n1 n2 n3 n4;go_upto_region 5 with fail
    change Code.wp _ _ _ _ (wr.alloc (ur #[I O K.b,J K.f,I Z K.h,I Z K.t,A ps nk bk] 25));rw[←bl];clear bl c0 c1 c2 c3 c4 e0 e1 e2 e3 e4;refine RE.q (by kernel_rfl) 9 [6,8] [] (fun _ W=>∃x:Wb B,W=x.1) (fun W W'=>Gc W W') (fun i ys=>if i=6 then xS bb else ys.getD 0 xD) (fun i W ys=>if i=8 then cJ B.heap.size [(bb,210)] W (ys.getD 0 xD) else True) (by kernel_rfl) (fun _ _ _ _ _ _ h a=>bE h a) (fun i W W' ys h _ a=>by split at h;(rw[r6 (by assumption)];exact h.u a);rw[r5 (by assumption)];trivial) ⟨⟨B.drew,(Fl _ _).drew⟩,V⟩ ?_;simp only[Fy,FK,Fz,FI]
    repeat (refine RE.b (fun W=>∃x:Wb B,W=x.1) (fun _ _ _ h=>h) V V V ⟨⟨B.drew,(Fl _ _).drew⟩,V⟩ ?_;go_big_quiet_step (fail);refine z7 ?_)
    refine RE.f V V ?_ (fun cc=>?_)
    ·intro W H _ z;obtain⟨s9,_,x,rfl⟩:=H;refine RE.t 40 _ _ V (enters_of Tryz.func40 (by kernel_rfl) V) #[A (Y ⟨b,off,U⟩) j c,Bk (.func 41) #[] #[wF (Y ⟨wr.heap.size,0,U⟩)]] (by simp[Act.eval]) ((cV.o x.1 x.2).mono ?_);rintro e W' ⟨rfl,a⟩;exact⟨_,V,[],V,a,a,trivial⟩
    simp only[AF,Fo,Fw,Fv,Nat.reduceAdd,↓reduceIte]
    repeat (refine RE.b (fun W=>∃x:Wb B,W=x.1) (fun _ _ _ h=>h) V V V ⟨⟨B.drew,(Fl _ _).drew⟩,V⟩ ?_;go_big_quiet_step (fail);refine z7 ?_)
    refine RE.f V V ?_ (fun ys=>?_)
    ·intro W H _ z;obtain⟨s9,_,x,rfl⟩:=H;exact ky bb 210 _ V V x.2.size (fun v W' a ho=>⟨[v],V,a,a,ho⟩)
    simp only[AF,Fo,Fw,Fv,Nat.reduceAdd,Nat.reduceEqDiff,↓reduceIte];refine RE.h ?_;intro W hS z;obtain⟨x,rfl⟩:=hS;obtain⟨g,eg,lg,hg⟩:cJ B.heap.size [(bb,210)] x.1 (ys.getD 0 xD):=z 8 ys V;rw[eg];obtain⟨ar,L⟩:=zz2 (cg [(bb,210)] K.b K.f K.h K.t (A ps nk bk) g 1 1 x.1 V (by omega) hg) x.2;clear z eg lg hg K0 K1 K2 K3 K4 N4;go_wp2_with fail
    refine ar.o.mono ?_;rintro e W2 ⟨cW,he⟩;have P:=cR.o.trans ((L.o.trans (cW.mono L.o.size)).mono cR.o.size)
    cases bb with
    | true =>
     have he:e=aV 210 K.t:=he;subst he;have ep:=gA b2.o;refine⟨V,Chg.f (u.o.trans (P.mono u.o.size)),?_⟩;rw[cq.o,ep];rfl
    | false =>
     have he:e=xv (AJ #[]):=he;subst he;have HR:Hid (zq9 w F d M ts rs (A C ts.length D) vR T (A (Y ⟨b,off,U⟩) n c) n (I Z ((j+1:Nat):Int)) W2):=
      ⟨j+1,s++[K.f],by omega,V,b2.o,u.o.trans (P.mono u.o.size),aa P S.o (Fi.1 S.o).1,N.o.u P⟩
     clear cW P b2 he;go_wp2_with fail
     refine⟨HR.o,?_⟩;simp[intOf];omega
   ·have c5:Hid (fB ts T=xL (ts++[⟨T.f,(n:Int)⟩])):=by
     show _=_
     rw[cq.o,←FH (l:=T.q) (i:=j) (by rw[G.o];omega),b0.o,FH (by rw[G.o];omega),G.o]
    obtain⟨us,Q,c6⟩:=N.o.t;rw[HN.o]at Q;have Q:wr.ownsRow 0 52 2 (A C y D) y us:=Q;obtain⟨c7,er⟩:=zz2 Q c6;have ad:wr.cell? ⟨M,0,U⟩=Y (A C y D):=by rw[N.o.y.1,HN.o]
    obtain⟨x2,x3,x4,x5,x6,x7,hm⟩:=N.o.m;have hK:∀b,(b=M∨b=w.heap.size)→b<wr.heap.size∧(A C y D).ownBlock≠Y b:=fun b a=>by
     rw[←HN.o];rcases a with rfl|rfl
     ·exact⟨N.o.lt,row_ne hm N.o.t (by decide)⟩
     ·exact⟨(Fi.1 S.o).1,fun e=>by have:=b8.o _ e;omega⟩
    have c8:=Hd (js (E:=52) (sz:=2) (row:=us++[J T.f,I Z (n:Int)]) (K:=fun b=>b=M∨b=w.heap.size) hK);obtain⟨e0,e1,e2,e3,e4⟩:=cells5 S.o;have E1:=fun x:Ks wr (fun b=>b=M∨b=w.heap.size)=>x.b (xj V) e1
    have E4:=fun x:Ks wr (fun b=>b=M∨b=w.heap.size)=>x.b (xj V) e4
    have M0:=fun x:Ks wr (fun b=>b=M∨b=w.heap.size)=>x.b (wP V) ad
    clear Q c6 ad hm hK e0 e1 e2 e3 e4;go_upto_region 7 with fail
    refine RE.q (by kernel_rfl) 15 [13,14] [14] (stA 52 2 wr C y D (us++[J T.f,I Z (n:Int)])) (ApR wr) (fun _ ys=>ys.getD 0 xD) (phA 52 2 wr C y D [J T.f,I Z (n:Int)] (us++[J T.f,I Z (n:Int)]) 13 14) (by kernel_rfl) (fun _ _ _ _ _ _ h a=>h.u a) (fun _ _ _ _ h _ hR=>h.z hR) stA.zero ?_;simp only[Fy,FK,Fz,FI]
    repeat (refine RE.b (fun W=>∃x:Ks wr (fun b=>b=M∨b=w.heap.size),W=x.1) (c8.o _) V V V stA.zero ?_;go_big_quiet_step (fail);refine z7 ?_)
    refine RE.f V V ?_ (fun et=>?_)
    ·intro W H hS z;obtain⟨s9,_,h9⟩:=H;exact dO ml (vs:=[J T.f,I Z (n:Int)]) _ V V V h9.h (fun v W' a ho=>⟨[v],V,a,ApR.f a,ho⟩)
    simp only[AF,Fo,Fw,Fv,Nat.reduceAdd];refine RE.f V V ?_ (fun c9=>?_)
    ·intro W H hS z;obtain⟨x,rfl⟩:∃x:Wb wr,W=x.1:=hS V;exact gq ml (p:=C) (n:=y) (c:=D) (w4:=wr) (vs:=[J T.f,I Z (n:Int)]) (xs:=us) _ _ V V (z 13 et (by kernel_rfl) V) V (by simp[Value.oneCell']) x.2 c7.o (by omega) (fun v' W' R h2 h3=>⟨[v'],V,R,h2,h3⟩)
    simp only[AF,Fo,Fw,Fv,Nat.reduceAdd];refine RE.h ?_;intro W hS z;have hS:ApS 52 2 wr C y D (us++[J T.f,I Z (n:Int)]) W:=hS;have hV:ApV 52 2 wr C y D (us++[J T.f,I Z (n:Int)]) W (c9.getD 0 xD):=z 14 c9 V;obtain⟨g',cap,eg,hg,H,bq⟩:=ik hS hV;rw[eg];have da:Chg (fun b=>(A C ts.length D).ownBlock=Y b) wr W:=by rw[HN.o];exact H
    have b4:(A C ts.length D).ownBlock=Y g'∨wr.heap.size≤g':=by rw[HN.o];exact hg
    have dc:bZ.at_ wr F ⟨T.f,(n:Int)⟩ [J T.f,I Z (n:Int)]:=gl.2 ⟨V,dv,by show (-9223372036854775808:Int)≤(n:Int);omega,by show (n:Int)<9223372036854775808;omega⟩;obtain⟨dg,dp,b5⟩:=N.o.pushT HN.o er.o dc b4 da bq;obtain⟨y2,y3,y4,y5,y6,y7,hm⟩:=N.o.m;have fe:W.cell? ⟨M,0,U⟩=Y (A C y D):=by rw[Gb _ _ _ _ _ _ (b5.trans hm),←HN.o];rfl
    have fm:=bM (b5.trans hm) 0;have HP:Hid (oo F d M rs (A C ts.length D) vR (xL (ts++[⟨T.f,(n:Int)⟩])) w (xv (AJ #[])) (W.setCell ⟨M,0,U⟩ (A (Y ⟨g',0,U⟩) (y+1) cap))):=by
     refine⟨cp (Chg.f u.o) dp (fun x hx=>wP hx),V,_,dg,fun b a=>?_⟩;injection a with a
     have a:g'=b:=a;subst a;rcases b4 with h|h
     ·exact wP h
     ·have:=u.o.size;exact xj (by omega)
    clear hS hV z eg hg H bq da b4 dg dp b5 E1 E4 M0 c8 dc hm;go_wp2_with fail
    go_end0
    rw[c5.o];exact HP.o
structure lL (d:Nat) (K:ab):Prop where
 h:I64 K.h
 q:K.q.length≤10000
 C:K.b=5∨K.b=6→∀k∈K.q,(k.b=12∨k.b=13∨k.b=14∨k.b=15)∧k.f.size≤72007
 a:K.b=7→∃t r,K.q=t::r∧dj d t
 y:K.b=8∨K.b=10→∀k∈K.q,dj d k
def fK(d:Nat) (ts:List ae) (vars:List ByteArray) (K:ab):Except Flt (List ByteArray×aX):=
 if K.b==5 then dX wg 1 (bK ts K) vars K.q
 else if K.b==6 then dX wj 2 (bK ts K) vars K.q
 else match K.q with
  | []=>z8 (0,0)
  | t::_=>jI vars (aB vars d t)
def iY(d:Nat) (ts:List ae) (vars:List ByteArray) (cs:List aX) (K:ab):Except Flt cd:=
 if K.b==8 then jR (bK ts K) (bC (aB vars d) K.q)
 else if K.b==9 then io cs K
 else if K.b==10 then mX (bC (aB vars d) K.q)
 else xL ⟨4,0,0,[]⟩
theorem rV{d:Nat}{ts:List ae}{s:RSt}{K:ab}(h:aP K=wg)(c:lL d K):aC d ts s K=match fK d ts s.b K with | .error e=>z8 e | .ok x=>xL ⟨x.1,s.c++[x.2],s.d⟩:=by
 have a:K.b=5∨K.b=6∨K.b=7:=by
  unfold aP at h
  simpa using h
 rcases a with a|a|a
 ·unfold aC fK dX;simp only[a]
  cases bK ts K with
  | error e=>rfl
  | ok k =>
   dsimp only
   show (match aG (bY wg) (s.b,[]) K.q with | .error e=>_ | .ok r=>_)=_
   cases aG (bY wg) (s.b,[]) K.q<;>rfl
 ·unfold aC fK dX;simp only[a]
  cases bK ts K with
  | error e=>rfl
  | ok k =>
   dsimp only
   show (match aG (bY wj) (s.b,[]) K.q with | .error e=>_ | .ok r=>_)=_
   cases aG (bY wj) (s.b,[]) K.q<;>rfl
 ·obtain⟨t,r,b,_⟩:=c.a a;unfold aC fK jI;simp only[a,b]
  show (match aB s.b d t with | .error e=>_ | .ok x=>_)=_
  cases aB s.b d t<;>rfl
theorem vg{d:Nat}{ts:List ae}{s:RSt}{K:ab}(h:aP K=wj):aC d ts s K=match iY d ts s.b s.c K with | .error e=>z8 e | .ok x=>xL ⟨s.b,s.c,s.d++[x]⟩:=by
 have b:K.b≠5∧K.b≠6∧K.b≠7:=by
  unfold aP at h
  simpa using h
 have i:(K.b==5)=false:=by simpa using b.1
 have j:(K.b==6)=false:=by simpa using b.2.1
 have l:(K.b==7)=false:=by simpa using b.2.2
 unfold aC iY;rw[i,j,l];simp only[Bool.or_self,FO,sn]
 by_cases f:K.b=8
 ·simp only[f];unfold jR
  show (match bK ts K with | .error e=>_ | .ok k=>_)=_
  cases bK ts K with
  | error e=>rfl
  | ok k =>
   show (match bC (aB s.b d) K.q with | .error e=>_ | .ok xs=>_)=_
   cases bC (aB s.b d) K.q<;>rfl
 ·have m:(K.b==8)=false:=by simpa using f
  rw[m];simp only[FO,sn]
  by_cases g:K.b=9
  ·simp only[g];unfold io
   show (if K.h<1||decide ((bG s.c:Int)<K.h) then _ else _)=_
   split<;>rfl
  ·have n:(K.b==9)=false:=by simpa using g
   rw[n];simp only[FO,sn]
   by_cases a:K.b=10
   ·simp only[a];unfold mX
    show (match bC (aB s.b d) K.q with | .error e=>_ | .ok xs=>_)=_
    cases bC (aB s.b d) K.q<;>rfl
   ·have c:(K.b==10)=false:=by simpa using a
    rw[c];rfl
theorem pM{ts:List ae}{K:ab}{k:Nat}(a:ts.length≤10000)(h:bK ts K=xL k):k≤10000:=by
 unfold bK at h
 split at h
 ·cases h
 ·rename_i k' b
  have:=oU b
  split at h
  ·injection h with h;omega
  ·cases h
section
variable {F:Nat→Prop} {d M:Nat} {ts:List ae} {rs:List ap} {vars:List ByteArray} {nm:ByteArray} {sal nv:Int} {cs:List aX} {acs:List cd} {vT vR vV vC vA:vn} {w:vk}
theorem MkW.row_t(h:MkW F d M ts rs vars nm sal nv cs acs vT vR vV vC vA w):bZ.C w (fun b=>b<w.heap.size) ts vT:=h.t.C (fun b a=>(h.f b a).1) (fun _g c=>h.t.lt c)
theorem MkW.typed(h:MkW F d M ts rs vars nm sal nv cs acs vT vR vV vC vA w)(K:ab){s:vn}(a:∃p c,s=A p K.q.length c)(b:K.q.length≤10000):wB wq 74 #[wF (Y ⟨M,0,U⟩),wD #[I O K.b,J K.f,I Z K.h,I Z K.t,s]] w (oy (bK ts K) lV w):=by
 obtain⟨p,c,rfl⟩:=a;exact Ag ts K p c vT _ M w h.row_t (fun _ h=>h) (by rw[Gb _ _ _ _ _ _ h.m];rfl) (by omega)
theorem MkW.y(h:MkW F d M ts rs vars nm sal nv cs acs vT vR vV vC vA w){Ks:List ab}{s:vn}(a:aj w w.heap.size (d+1) Ks s)(f:Ks.length≤10000)(b:∀k∈Ks,dj d k):wB wq 77 #[wF (Y ⟨M,0,U⟩),s] w (jF d (bC (aB vars d) Ks) w):=
 nJ d M vars vV (aB vars d) Ks s w h.vars a (by omega) (fun T c s W e _ a=>uR M vars vV d T s W e (b T c) a)
end
def rC(F:Nat→Prop) (d M:Nat) (ts:List ae) (rs:List ap) (vars:List ByteArray) (nm:ByteArray) (sal nv:Int) (cs:List aX) (acs:List cd) (vT vR vV vC vA:vn) (K:ab) (w:vk) (e:Ending) (w':vk):Prop:=
 if aP K then kU F d M ts rs nm sal nv cs acs vT vR vV vC vA (fK d ts vars K) w e w'
 else e=xv (xS wj)∧Gc w w'∧MkW F d M ts rs vars nm sal nv cs acs vT vR vV vC vA w'
theorem CN(F:Nat→Prop)(d M:Nat)(ts:List ae)(rs:List ap)(vars:List ByteArray)(nm:ByteArray)(sal nv:Int)(cs:List aX)(acs:List cd)(vT vR vV vC vA:vn)(K:ab)(s:vn)(u:Nat)(w:vk)
  (hw:MkW F d M ts rs vars nm sal nv cs acs vT vR vV vC vA w) (i:cs.length≤10000) (v:vars.length≤16) (x:ts.length≤10000) (j:lL d K) (f:aj w u (d+1) K.q s) (g:u≤w.heap.size) (D:∀b,bm M [vT,vR,vV,vC,vA] b→u≤b) :
  wB wq 43 #[wF (Y ⟨M,0,U⟩),wD #[I O K.b,J K.f,I Z K.h,I Z K.t,s]] w (rC F d M ts rs vars nm sal nv cs acs vT vR vV vC vA K w):=by
 obtain⟨p,c,y⟩:=f.f;unfold rC
 by_cases n:K.b=5
 ·have l:aP K=true:=by unfold aP;rw[n];rfl
  rw[l];simp only[sy];have e:fK d ts vars K=dX wg 1 (bK ts K) vars K.q:=by unfold fK;rw[n];rfl
  rw[e];subst y
  exact so 5 1 wg (wP ⟨V,V,V⟩) F d M ts rs vars nm sal nv cs acs vT vR vV vC vA K K.q p K.q.length c u d (bK ts K) w hw (by omega) i v V j.q (fun k h=>pM x h) f g D (j.C (wP n)) (fun W m=>by
   have:=(hw.u m).typed K ⟨p,c,V⟩ j.q;rw[n]at this
   exact this)
 by_cases o:K.b=6
 ·have l:aP K=true:=by unfold aP;rw[o];rfl
  rw[l];simp only[sy];have e:fK d ts vars K=dX wj 2 (bK ts K) vars K.q:=by unfold fK;rw[o];rfl
  rw[e];subst y
  exact so 6 2 wj (xj ⟨V,V,V⟩) F d M ts rs vars nm sal nv cs acs vT vR vV vC vA K K.q p K.q.length c u d (bK ts K) w hw (by omega) i v V j.q (fun k h=>pM x h) f g D (j.C (xj o)) (fun W m=>by
   have:=(hw.u m).typed K ⟨p,c,V⟩ j.q;rw[o]at this
   exact this)
 by_cases q:K.b=7
 ·have l:aP K=true:=by unfold aP;rw[q];rfl
  rw[l];simp only[sy];obtain⟨t,r,a,z⟩:=j.a q;have e:fK d ts vars K=jI vars (aB vars d t):=by unfold fK;rw[q,a];rfl
  rw[e];have E:=f;rcases f with ⟨P,_⟩|⟨b,off,cap,Q,R,S,T,he,B⟩
  ·rw[P]at a;cases a
  subst he;obtain⟨G,st,H,L,c2,N,c4,C⟩:=B 0 t (by rw[a];rfl);simp only[Nat.zero_mul,Nat.add_zero]at H L c2 N c4;exact zh F d M ts rs vars nm sal nv cs acs vT vR vV vC vA K t b off cap st (aB vars d t) K.q.length w hw q i (by rw[a];simp) H L c2 N c4 (fun W m=>uR M vars vV d t st W (hw.u m).vars z ((C.u (m.mono g)).up (Fu g m.size)))
 ·have l:aP K=false:=by unfold aP;simp[n,o,q]
  rw[l];simp only[FO,sn];subst y;exact Bg F d M ts rs vars nm sal nv cs acs vT vR vV vC vA K p K.q.length c w hw ⟨n,o,q⟩
theorem D7(F:Nat→Prop)(d M:Nat)(ts:List ae)(rs:List ap)(vars:List ByteArray)(nm:ByteArray)(sal nv:Int)(cs:List aX)(acs:List cd)(vT vR vV vC vA:vn)(K:ab)(s:vn)(r:Nat)(w:vk)
  (hw:MkW F d M ts rs vars nm sal nv cs acs vT vR vV vC vA w) (n:cs.length≤10000) (b:acs.length≤10000) (o:ts.length≤10000) (l:lL d K) (g:aj w r (d+1) K.q s) (i:r≤w.heap.size) :
  wB wq 44 #[wF (Y ⟨M,0,U⟩),wD #[I O K.b,J K.f,I Z K.h,I Z K.t,s]] w (iJ F d M ts rs vars nm sal nv cs acs vT vR vV vC vA (iY d ts vars cs K) w):=by
 obtain⟨p,c,u⟩:=g.f;have hex:∀(t:K.b=8∨K.b=10) W,Gc w W→wB wq 77 #[wF (Y ⟨M,0,U⟩),s] W (jF d (bC (aB vars d) K.q) W):=fun t W j=>(hw.u j).y ((g.u (j.mono i)).up (Fu i j.size)) l.q (l.y t)
 subst u
 by_cases f:K.b=8
 ·have e:iY d ts vars cs K=jR (bK ts K) (bC (aB vars d) K.q):=by unfold iY;rw[f];rfl
  rw[e]
  exact Aj F d M ts rs vars nm sal nv cs acs vT vR vV vC vA K p K.q.length c (bK ts K) _ w hw f b (fun k h=>pM o h) (fun W j=>by
   have:=(hw.u j).typed K ⟨p,c,V⟩ l.q;rw[f]at this
   exact this) (hex (wP f))
 by_cases m:K.b=9
 ·have e:iY d ts vars cs K=io cs K:=by unfold iY;rw[m];rfl
  rw[e];exact Bu F d M ts rs vars nm sal nv cs acs vT vR vV vC vA K p K.q.length c w hw m b n l.h
 by_cases a:K.b=10
 ·have e:iY d ts vars cs K=mX (bC (aB vars d) K.q):=by unfold iY;rw[a];rfl
  rw[e];exact Ep F d M ts rs vars nm sal nv cs acs vT vR vV vC vA K p K.q.length c _ w hw a b (hex (xj a))
 ·have e:iY d ts vars cs K=xL ⟨4,0,0,[]⟩:=by
   unfold iY;have v:(K.b==8)=false:=by simpa using f
   have x:(K.b==9)=false:=by simpa using m
   have q:(K.b==10)=false:=by simpa using a
   rw[v,x,q];rfl
  rw[e];exact zi F d M ts rs vars nm sal nv cs acs vT vR vV vC vA K p K.q.length c w hw ⟨f,m,a⟩ b
