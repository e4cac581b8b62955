/- Parts of one proof, joined; conditions stand in each theorem. -/
import Derived.Test.YtkhfjgjjhlnnnaaGreatDoorYNK
open Except renaming error→BT,ok→AF
open Go.Value renaming agg→xS,string→J,int→I,tuple→CA,slice→A,pointer→xV,func→CF,bool→AJ
open Go.IntKind renaming i64→Z,u8→O
open Go renaming Value→wF,World→wD,Calls→xL,undef→At,wpQuiet_nil→Bk
open Go.Ending renaming returned→z8
open Or renaming inl→z6,inr→z7
open Option renaming some→Y,none→U
open Go.Proofs.Tryz renaming prog→xD
open Go.Obj renaming cells→wq
open Decidable renaming decide→xv
open Bool renaming true→wP,false→xj
open Go.Act renaming put→B4
namespace Go.Proofs.YtkhfjgjjhlnnnaaGreatDoor
set_option maxHeartbeats 8000000
set_option maxRecDepth 100000
open Go.RowKit
def fD(ts:List ae) (T:ab):Except Flt (List ae):=
 if (a8 T.f ts).isSome then BT (210,T.y)
 else if 32≤ts.length||6<T.u.length then BT (204,T.y)
 else match aG fieldStep [] T.u with
  | .error e=>BT e
  | .ok _=>AF (ts++[⟨T.f,T.u.length⟩])
theorem pj:∀(l:List ab) (s b:List ByteArray),aG fieldStep s l=AF b→b=s++l.map ab.f
 | [],s,b,h=>by injection h with h;rw[←h];simp
 | K::l,s,b,h=>by
  unfold aG at h
  cases a:fieldStep s K with
  | error e=>rw[a]at h;cases h
  | ok s1 =>
   rw[a]at h;unfold fieldStep at a
   split at a
   ·cases a
   ·injection a with a
    rw[pj l s1 b h,←a];simp
theorem mw:Elem 52 29 2 24:=Elem.of (z:=xS #[J ByteArray.empty,I Z 0]) Tryz.underlying29 (by kernel_rfl) (by kernel_rfl) (by decide) (by decide)
def oy(F:Nat→Prop) (d M:Nat) (rs:List an) (vT vR:wF) (r:Except Flt (List ae)) (w:wD) (e:Ending) (w':wD):Prop:=
 Chg (bj M [vT,vR]) w w'∧match r with
 | .ok b=>e=z8 (CA #[])∧∃a,MkB F d M b rs a vR w'∧Grew vT a w.heap.size
 | .error er=>e=aU er.1 er.2
theorem ao.taken{w:wD}{B d:Nat}{Ts:List ab}{p:Option Addr}{n c k:Nat}(h:ao w B (d+1) Ts (A p n c))(o:k≤Ts.length):ao w B (d+1) (Ts.take k) (A p k c):=by
 rcases h with ⟨rfl,sp,cap,he⟩|⟨b,off,cap,t,q,u,r,he,s⟩
 ·injection he with f l g
  subst f;subst g;have:k=0:=by simpa using o
  subst this;exact z6 ⟨V,_,_,V⟩
 ·injection he with f l g
  subst f;subst l;subst g
  by_cases m:k=0
  ·subst m;exact z6 ⟨V,_,_,V⟩
  ·have j:(Ts.take k).length=k:=by rw[List.length_take];omega
   refine z7 ⟨b,off,c,fun e=>by rw[e]at j;exact m j.symm,q,by omega,r,by rw[j],fun i T a=>s i T ?_⟩;rw[List.getElem?_take]at a
   split at a
   ·exact a
   ·cases a
theorem xu(b off n c m:Nat)(hm:m≤c)(W:wD):(Instr.slice 23 (A (Y ⟨b,off,U⟩) n c) U (Y (I Z (m:Int))) U).run xD W=.ok (A (Y ⟨b,off,U⟩) m c) W:=by
 rw[run_slice_h W 23 (Y ⟨b,off,U⟩) n c (by kernel_rfl) Z m (by omega) (by omega)];rw[show (sizeOf (Tryz.prog.elem 23)).run xD W=.ok 5 W from by kernel_rfl]
 show Result.ok (sliced _ _ _ _ _) W=_
 unfold sliced;rw[Int.toNat_natCast]
 by_cases a:c=0
 ·subst a;obtain rfl:m=0:=by omega
  rfl
 ·rw[qv a];simp[Addr.add]
def uY(w:wD) (F:Nat→Prop) (d M:Nat) (ts:List ae) (rs:List an) (vT vR:wF) (T:ab) (a:wF) (n:Nat) (i:wF) (W:wD):Prop:=
 ∃(j:Nat) (s:List ByteArray),j≤n∧i=I Z (j:Int)∧aG fieldStep [] (T.u.take j)=AF s∧FK w W∧W.heap[w.heap.size]?=Y (wq #[I O 2,J T.f,I Z T.h,I Z T.y,a] 25 (0,0))∧MkB F d M ts rs vT vR W
theorem zp(F:Nat→Prop)(d M:Nat)(ts:List ae)(rs:List an)(vT vR:wF)(T:ab)(p:Option Addr)(n c dd:Nat)(w:wD)
  (hw:MkB F d M ts rs vT vR w) (hk:T.b=2) (ds:ts.length≤10000) (b6:T.u.length=n) (hn:n≤10000) (ba:ao w w.heap.size (dd+1) T.u (A p n c)) (dv:T.f.size≤maxLen) :
  xL xD 22 #[xV (Y ⟨M,0,U⟩),xS #[I O T.b,J T.f,I Z T.h,I Z T.y,A p n c]] w (oy F d M rs vT vR (fD ts T) w):=by
 rw[hk];change xL xD 22 #[xV (Y ⟨M,0,U⟩),xS #[I O 2,J T.f,I Z T.h,I Z T.y,A p n c]] w _;obtain⟨C,D,ea⟩:=hw.t.b;subst ea;obtain⟨y,af⟩:=zzy (ts.length);have HN:=Hd af;rw[af]at ds;obtain⟨w1,bc⟩:=zzx (w.alloc (wq #[I O 2,J T.f,I Z T.h,I Z T.y,A p n c] 25));have X:FK w w1:=by rw[bc];exact (EP _ w).alloc (EO _) _
 have br:w1.heap[w.heap.size]?=Y (wq #[I O 2,J T.f,I Z T.h,I Z T.y,A p n c] 25 (0,0)):=by rw[bc];exact p9 w _
 obtain⟨bt,r,b7,b8,ak,G⟩:=zz6 br X (hw.z X) (fun g hg=>hw.t.lt (g:=g) hg) ba b6;obtain⟨ix,bB⟩:=zzx (bP (a8 T.f ts));have al:Hid (xv ((0:Int)≤ix)=(a8 T.f ts).isSome):=by
  show _=_
  rw[bB]
  cases a8 T.f ts with
  | none=>rfl
  | some k=>show xv ((0:Int)≤(k:Int))=wP;simp
 have bd:=Hd (fun (W:wD) (h:FK w1 W)=>pQ ts T.f _ _ M W ((hw.z X).z h).row_t (fun _ h=>h) ((hw.z X).z h).u.1);rw[←bB]at bd;obtain⟨e0,e1,e2,e3,e4⟩:=cells5 br;have ad:w1.cell? ⟨M,0,U⟩=Y (A C y D):=by rw[(hw.z X).u.1,af]
 have E0:=fun x:Wb w1=>x.b e0
 have E1:=fun x:Wb w1=>x.b e1
 have E2:=fun x:Wb w1=>x.b e2
 have E3:=fun x:Wb w1=>x.b e3
 have E4:=fun x:Wb w1=>x.b e4
 have MT:=fun x:Wb w1=>x.b ad
 clear br X hw hk ba b6 bB
 go_enter Tryz.func22,Tryz.ntmps22
 go_upto_region 1 with fail
 change Code.wp _ _ _ _ (w.alloc (wq #[I O 2,J T.f,I Z T.h,I Z T.y,A p n c] 25));rw[←bc];clear bc
 go_cut [] from 6 to 31 (fun W2=>FK w W2∧W2.heap[w.heap.size]?=Y (wq #[I O 2,J T.f,I Z T.h,I Z T.y,A p n c] 25 (0,0))∧MkB F d M ts rs (A C ts.length D) vR W2∧(a8 T.f ts).isSome=xj∧(32≤y||6<n)=xj)
 case first =>
  have hA:(a8 T.f ts).isSome=wP→fD ts T=BT (210,T.y):=fun h=>by unfold fD;rw[rv h]
  have hB:(a8 T.f ts).isSome=xj→(xv (32≤y)||decide (6<n))=wP→fD ts T=BT (204,T.y):=fun h h2=>by
   unfold fD;rw[h,qv (by decide),rv (by rw[HN.o,G.o];exact h2)]
  obtain⟨HA,b9⟩:=zz2 hA hB;clear hA hB af
  by_cases ca:32≤y
  ·have cb:(32:Int)≤y:=by omega
   have aq:Hid (32≤y):=ca;refine RE.u (by kernel_rfl) 25 [6,24] [] (fun _ W=>∃x:Wb w1,W=x.1) (fun W W'=>FK W W') (fun i ys=>if i=6 then I Z (ix:Int) else ys.getD 0 At) (fun i W ys=>if i=24 then cH w1.heap.size [(xv ((0:Int)≤ix),210),(wP,204)] W (ys.getD 0 At) else True) (by kernel_rfl) (fun _ _ _ _ _ _ h a=>bC h a) (fun i W W' ys h _ a=>by split at h;(rw[rv (by assumption)];exact h.z a);rw[qv (by assumption)];trivial) ⟨⟨w1.drew,(EP _ _).drew⟩,V⟩ ?_;simp only[EY,Fi,EZ,Fh]
   repeat (refine RE.b (fun W=>∃x:Wb w1,W=x.1) (fun _ _ _ h=>h) V V V ⟨⟨w1.drew,(EP _ _).drew⟩,V⟩ ?_;go_big_quiet_step (fail);refine Bk ?_)
   refine RE.f V V ?_ (fun cc=>?_)
   ·intro W H _ z;obtain⟨s9,_,x,rfl⟩:=H;refine RE.y 34 _ _ V (enters_of Tryz.func34 (by kernel_rfl) V) #[xV (Y ⟨M,0,U⟩),J T.f] (by simp[Act.eval]) ((bd.o x.1 x.2).mono ?_);rintro e W' ⟨rfl,a⟩;exact⟨_,V,[],V,a,a,trivial⟩
   simp only[B4,EQ,EW,EV,Nat.reduceAdd,↓reduceIte]
   repeat (refine RE.b (fun W=>∃x:Wb w1,W=x.1) (fun _ _ _ h=>h) V V V ⟨⟨w1.drew,(EP _ _).drew⟩,V⟩ ?_;go_big_quiet_step (fail);refine Bk ?_)
   refine RE.f V V ?_ (fun ys=>?_)
   ·intro W H _ z;obtain⟨s9,_,x,rfl⟩:=H;exact iN _ _ 210 204 _ _ V V V x.2.size (fun v W' a ho=>⟨[v],V,a,a,ho⟩)
   simp only[B4,EQ,EW,EV,Nat.reduceAdd,Nat.reduceEqDiff,↓reduceIte];refine RE.h ?_;intro W hS z;obtain⟨x,rfl⟩:=hS;obtain⟨g,eg,lg,hg⟩:cH w1.heap.size [(xv ((0:Int)≤ix),210),(wP,204)] x.1 (ys.getD 0 At):=z 24 ys V;rw[eg];have ar:=Hd (bY [(xv ((0:Int)≤ix),210),(wP,204)] 2 T.f T.h T.y (A p n c) g 2 2 x.1 V (by omega) hg);have L:=Hd x.2;clear z eg lg hg E0 E1 E2 E3 E4 MT;go_wp2_with fail
   refine ar.o.mono ?_;rintro e W2 ⟨q,he⟩;have f:=L.o.trans (q.mono L.o.size);clear q
   cases R:xv ((0:Int)≤ix) with
   | true =>
    rw[R]at he;have he:e=aU 210 T.y:=he;subst he;refine⟨V,Chg.f (r.o.trans (f.mono r.o.size)),?_⟩;rw[HA.o (al.o.symm.trans R)];rfl
   | false =>
    rw[R]at he;have he:e=aU 204 T.y:=he;subst he;refine⟨V,Chg.f (r.o.trans (f.mono r.o.size)),?_⟩;rw[b9.o (al.o.symm.trans R) (by rw[decide_eq_true aq.o];rfl)];rfl
  ·have cb:¬(32:Int)≤y:=by omega
   have aq:Hid (¬32≤y):=ca;refine RE.u (by kernel_rfl) 25 [6,24] [] (fun _ W=>∃x:Wb w1,W=x.1) (fun W W'=>FK W W') (fun i ys=>if i=6 then I Z (ix:Int) else ys.getD 0 At) (fun i W ys=>if i=24 then cH w1.heap.size [(xv ((0:Int)≤ix),210),(xv ((6:Int)<n),204)] W (ys.getD 0 At) else True) (by kernel_rfl) (fun _ _ _ _ _ _ h a=>bC h a) (fun i W W' ys h _ a=>by split at h;(rw[rv (by assumption)];exact h.z a);rw[qv (by assumption)];trivial) ⟨⟨w1.drew,(EP _ _).drew⟩,V⟩ ?_;simp only[EY,Fi,EZ,Fh]
   repeat (refine RE.b (fun W=>∃x:Wb w1,W=x.1) (fun _ _ _ h=>h) V V V ⟨⟨w1.drew,(EP _ _).drew⟩,V⟩ ?_;go_big_quiet_step (fail);refine Bk ?_)
   refine RE.f V V ?_ (fun cc=>?_)
   ·intro W H _ z;obtain⟨s9,_,x,rfl⟩:=H;refine RE.y 34 _ _ V (enters_of Tryz.func34 (by kernel_rfl) V) #[xV (Y ⟨M,0,U⟩),J T.f] (by simp[Act.eval]) ((bd.o x.1 x.2).mono ?_);rintro e W' ⟨rfl,a⟩;exact⟨_,V,[],V,a,a,trivial⟩
   simp only[B4,EQ,EW,EV,Nat.reduceAdd,↓reduceIte]
   repeat (refine RE.b (fun W=>∃x:Wb w1,W=x.1) (fun _ _ _ h=>h) V V V ⟨⟨w1.drew,(EP _ _).drew⟩,V⟩ ?_;go_big_quiet_step (fail);refine Bk ?_)
   refine RE.f V V ?_ (fun ys=>?_)
   ·intro W H _ z;obtain⟨s9,_,x,rfl⟩:=H;exact iN _ _ 210 204 _ _ V V V x.2.size (fun v W' a ho=>⟨[v],V,a,a,ho⟩)
   simp only[B4,EQ,EW,EV,Nat.reduceAdd,Nat.reduceEqDiff,↓reduceIte];refine RE.h ?_;intro W hS z;obtain⟨x,rfl⟩:=hS;obtain⟨g,eg,lg,hg⟩:cH w1.heap.size [(xv ((0:Int)≤ix),210),(xv ((6:Int)<n),204)] x.1 (ys.getD 0 At):=z 24 ys V;rw[eg];have ar:=Hd (bY [(xv ((0:Int)≤ix),210),(xv ((6:Int)<n),204)] 2 T.f T.h T.y (A p n c) g 2 2 x.1 V (by omega) hg);have L:=Hd x.2;clear z eg lg hg E0 E1 E2 E3 E4 MT;go_wp2_with fail
   refine ar.o.mono ?_;rintro e W2 ⟨q,he⟩;have f:=L.o.trans (q.mono L.o.size);clear q
   cases R:xv ((0:Int)≤ix) with
   | true =>
    rw[R]at he;have he:e=aU 210 T.y:=he;subst he;refine⟨V,Chg.f (r.o.trans (f.mono r.o.size)),?_⟩;rw[HA.o (al.o.symm.trans R)];rfl
   | false =>
    rw[R]at he
    cases h2:xv ((6:Int)<n) with
    | true =>
     rw[h2]at he;have he:e=aU 204 T.y:=he;subst he;refine⟨V,Chg.f (r.o.trans (f.mono r.o.size)),?_⟩;have h3:6<n:=by have:=of_decide_eq_true h2;omega
     rw[b9.o (al.o.symm.trans R) (by rw[decide_eq_true h3,Bool.or_true])];rfl
    | false =>
     rw[h2]at he;have he:e=z8 (CA #[]):=he;subst he;have h3:¬6<n:=by have:=of_decide_eq_false h2;omega
     have HP:Hid (FK w W2∧W2.heap[w.heap.size]?=Y (wq #[I O 2,J T.f,I Z T.h,I Z T.y,A p n c] 25 (0,0))∧MkB F d M ts rs (A C ts.length D) vR W2∧(a8 T.f ts).isSome=xj∧(32≤y||6<n)=xj):=
      ⟨r.o.trans (f.mono r.o.size),aa f bt.o (EN.1 bt.o).1,b7.o.z f,al.o.symm.trans R,by rw[r6 aq.o,r6 h3];rfl⟩
     clear R h2 he f e0 e1 e2 e3 e4 ad;go_wp2_with fail
     go_meet
     case rel=>exact HP.o
 case rest =>
  obtain⟨ch,bR,ck,cl,bn⟩:=hcut;obtain⟨eb,ec,ek⟩:=zz3 ch bR ck;have cq:Hid (fD ts T=match aG fieldStep [] T.u with | .error e=>BT e | .ok _=>AF (ts++[⟨T.f,T.u.length⟩])):=by
   show _=_
   unfold fD;rw[cl,qv (by decide),qv (by rw[HN.o,G.o,bn];decide)]
  clear e0 e1 e2 e3 e4 ad E0 E1 E2 E3 E4 MT bd ch ck cl bn af bt b7 r;obtain⟨e0,e1,e2,e3,e4⟩:=cells5 bR;clear bR;go_wp2_with fail
  go_loopw [35] (uY w F d M ts rs (A C ts.length D) vR T (A p n c) n) (fun i _=>n-(intOf i).toNat)
  case atStart=>exact⟨0,[],Fa _,V,V,eb.o,ec.o,ek.o⟩
  case round =>
   obtain⟨j,s,hj,rfl,av,cr,ct,cu⟩:=hrel;have ev:(0:Int)≤j:=by omega
   obtain⟨b0,u,S,N⟩:=zz4 av cr ct cu;clear av cr ct cu e0 e1 e2 e3 e4
   by_cases el:j<n
   ·have e5:(j:Int)<n:=by omega
    obtain⟨K,hK⟩:∃K,T.u[j]?=Y K:=⟨_,ES (by rw[G.o];exact el)⟩;have ba:=ak.o.z u.o;have cv:=ao.taken (k:=j) (ak.o.z u.o) (by rw[G.o];omega);rcases ba with ⟨h0,_⟩|⟨b,off,cap,R,h2,h3,h4,he,h6⟩
    ·rw[h0]at hK;simp at hK
    rw[G.o]at he h3;injection he with en _ eo
    subst en;subst eo;obtain⟨cx,sK,c0,c1,c2,c3,c4,cA⟩:=h6 j K hK;obtain⟨ps,bk,rfl⟩:=cA.f;obtain⟨nk,cC⟩:=zzy (K.u.length);rw[cC]at c4;have a1:s=(T.u.take j).map ab.f:=by rw[pj _ _ _ b0.o];rfl
    obtain⟨bb,b1⟩:=zzx ((idxOf K.f ((T.u.take j).map ab.f)).isSome);have b2:Hid (aG fieldStep [] (T.u.take (j+1))=if bb then BT (210,K.y) else AF (s++[K.f])):=by
     show _=_
     rw[gA hK b0.o,b1,←a1];rfl
    obtain⟨B,bl⟩:=zzx (wr.alloc (wq #[I O K.b,J K.f,I Z K.h,I Z K.y,A ps nk bk] 25));have q:FK wr B:=by rw[bl];exact (EP _ wr).alloc (EO _) _
    have a6:B.heap[wr.heap.size]?=Y (wq #[I O K.b,J K.f,I Z K.h,I Z K.y,A ps nk bk] 25 (0,0)):=by rw[bl];exact p9 wr _
    obtain⟨cR,e6⟩:=zz2 q a6;have b3:=aa q S.o (EN.1 S.o).1;have e7:=Hd b3;have e8:∀(fn:Fn) (first cap:Array wF) (w:wD),(Instr.makeFunc fn first cap).run xD w=.ok (CF fn first cap) w:=fun _ _ _ _=>rfl
    have e9:∀W,(Instr.slice 23 (A (Y ⟨b,off,U⟩) n c) U (Y (I Z (j:Int))) U).run xD W=.ok (A (Y ⟨b,off,U⟩) j c) W:=fun W=>xu b off n c j (by omega) W
    have cV:=Hd (fun (W:wD) (hW:FK B W)=>zG K.f wr.heap.size (T.u.take j) (A (Y ⟨b,off,U⟩) j c) dd W ((cv.z ((q.mono u.o.size).trans (hW.mono (EU u.o.size q.size)))).up (EU u.o.size (EU q.size hW.size))) (by rw[List.length_take];omega) (by rw[FI _ _ _ _ _ _ (aa hW a6 (EN.1 a6).1)];rfl));rw[←b1]at cV;obtain⟨k0,k1,k2,k3,k4⟩:=cells5 a6;obtain⟨n0,n1,n2,n3,n4⟩:=cells5 b3;have K0:=fun x:Wb B=>x.b k0
    have K1:=fun x:Wb B=>x.b k1
    have K2:=fun x:Wb B=>x.b k2
    have K3:=fun x:Wb B=>x.b k3
    have K4:=fun x:Wb B=>x.b k4
    have N4:=fun x:Wb B=>x.b n4
    obtain⟨e0,e1,e2,e3,e4⟩:=cells5 S.o;clear q a6 b3 a1 b1 cx cA h6 R h2 h3 h4 cC hK cv k0 k1 k2 k3 k4 n0 n1 n2 n3 n4;go_upto_region 5 with fail
    change Code.wp _ _ _ _ (wr.alloc (wq #[I O K.b,J K.f,I Z K.h,I Z K.y,A ps nk bk] 25));rw[←bl];clear bl c0 c1 c2 c3 c4 e0 e1 e2 e3 e4;refine RE.u (by kernel_rfl) 9 [6,8] [] (fun _ W=>∃x:Wb B,W=x.1) (fun W W'=>FK W W') (fun i ys=>if i=6 then AJ bb else ys.getD 0 At) (fun i W ys=>if i=8 then cH B.heap.size [(bb,210)] W (ys.getD 0 At) else True) (by kernel_rfl) (fun _ _ _ _ _ _ h a=>bC h a) (fun i W W' ys h _ a=>by split at h;(rw[rv (by assumption)];exact h.z a);rw[qv (by assumption)];trivial) ⟨⟨B.drew,(EP _ _).drew⟩,V⟩ ?_;simp only[EY,Fi,EZ,Fh]
    repeat (refine RE.b (fun W=>∃x:Wb B,W=x.1) (fun _ _ _ h=>h) V V V ⟨⟨B.drew,(EP _ _).drew⟩,V⟩ ?_;go_big_quiet_step (fail);refine Bk ?_)
    refine RE.f V V ?_ (fun cc=>?_)
    ·intro W H _ z;obtain⟨s9,_,x,rfl⟩:=H;refine RE.y 40 _ _ V (enters_of Tryz.func40 (by kernel_rfl) V) #[A (Y ⟨b,off,U⟩) j c,CF (.func 41) #[] #[xV (Y ⟨wr.heap.size,0,U⟩)]] (by simp[Act.eval]) ((cV.o x.1 x.2).mono ?_);rintro e W' ⟨rfl,a⟩;exact⟨_,V,[],V,a,a,trivial⟩
    simp only[B4,EQ,EW,EV,Nat.reduceAdd,↓reduceIte]
    repeat (refine RE.b (fun W=>∃x:Wb B,W=x.1) (fun _ _ _ h=>h) V V V ⟨⟨B.drew,(EP _ _).drew⟩,V⟩ ?_;go_big_quiet_step (fail);refine Bk ?_)
    refine RE.f V V ?_ (fun ys=>?_)
    ·intro W H _ z;obtain⟨s9,_,x,rfl⟩:=H;exact kD bb 210 _ V V x.2.size (fun v W' a ho=>⟨[v],V,a,a,ho⟩)
    simp only[B4,EQ,EW,EV,Nat.reduceAdd,Nat.reduceEqDiff,↓reduceIte];refine RE.h ?_;intro W hS z;obtain⟨x,rfl⟩:=hS;obtain⟨g,eg,lg,hg⟩:cH B.heap.size [(bb,210)] x.1 (ys.getD 0 At):=z 8 ys V;rw[eg];obtain⟨ar,L⟩:=zz2 (bY [(bb,210)] K.b K.f K.h K.y (A ps nk bk) g 1 1 x.1 V (by omega) hg) x.2;clear z eg lg hg K0 K1 K2 K3 K4 N4;go_wp2_with fail
    refine ar.o.mono ?_;rintro e W2 ⟨cW,he⟩;have P:=cR.o.trans ((L.o.trans (cW.mono L.o.size)).mono cR.o.size)
    cases bb with
    | true =>
     have he:e=aU 210 K.y:=he;subst he;have ep:=gB b2.o;refine⟨V,Chg.f (u.o.trans (P.mono u.o.size)),?_⟩;rw[cq.o,ep];rfl
    | false =>
     have he:e=z8 (CA #[]):=he;subst he;have HR:Hid (uY w F d M ts rs (A C ts.length D) vR T (A (Y ⟨b,off,U⟩) n c) n (I Z ((j+1:Nat):Int)) W2):=
      ⟨j+1,s++[K.f],by omega,V,b2.o,u.o.trans (P.mono u.o.size),aa P S.o (EN.1 S.o).1,N.o.z P⟩
     clear cW P b2 he;go_wp2_with fail
     refine⟨HR.o,?_⟩;simp[intOf];omega
   ·have c5:Hid (fD ts T=AF (ts++[⟨T.f,(n:Int)⟩])):=by
     show _=_
     rw[cq.o,←Fg (l:=T.u) (i:=j) (by rw[G.o];omega),b0.o,Fg (by rw[G.o];omega),G.o]
    obtain⟨us,Q,c6⟩:=N.o.t;rw[HN.o]at Q;have Q:wr.ownsRow 0 52 2 (A C y D) y us:=Q;obtain⟨c7,er⟩:=zz2 Q c6;have ad:wr.cell? ⟨M,0,U⟩=Y (A C y D):=by rw[N.o.u.1,HN.o]
    obtain⟨x2,x3,x4,x5,x6,x7,hm⟩:=N.o.m;have hK:∀b,(b=M∨b=w.heap.size)→b<wr.heap.size∧(A C y D).ownBlock≠Y b:=fun b a=>by
     rw[←HN.o];rcases a with rfl|rfl
     ·exact⟨N.o.lt,row_ne hm N.o.t (by decide)⟩
     ·exact⟨(EN.1 S.o).1,fun e=>by have:=b8.o _ e;omega⟩
    have c8:=Hd (gl (E:=52) (sz:=2) (row:=us++[J T.f,I Z (n:Int)]) (K:=fun b=>b=M∨b=w.heap.size) hK);obtain⟨e0,e1,e2,e3,e4⟩:=cells5 S.o;have E1:=fun x:Ks wr (fun b=>b=M∨b=w.heap.size)=>x.b (z7 V) e1
    have E4:=fun x:Ks wr (fun b=>b=M∨b=w.heap.size)=>x.b (z7 V) e4
    have M0:=fun x:Ks wr (fun b=>b=M∨b=w.heap.size)=>x.b (z6 V) ad
    clear Q c6 ad hm hK e0 e1 e2 e3 e4;go_upto_region 7 with fail
    refine RE.u (by kernel_rfl) 15 [13,14] [14] (stA 52 2 wr C y D (us++[J T.f,I Z (n:Int)])) (ApR wr) (fun _ ys=>ys.getD 0 At) (phA 52 2 wr C y D [J T.f,I Z (n:Int)] (us++[J T.f,I Z (n:Int)]) 13 14) (by kernel_rfl) (fun _ _ _ _ _ _ h a=>h.z a) (fun _ _ _ _ h _ hR=>h.C hR) stA.zero ?_;simp only[EY,Fi,EZ,Fh]
    repeat (refine RE.b (fun W=>∃x:Ks wr (fun b=>b=M∨b=w.heap.size),W=x.1) (c8.o _) V V V stA.zero ?_;go_big_quiet_step (fail);refine Bk ?_)
    refine RE.f V V ?_ (fun et=>?_)
    ·intro W H hS z;obtain⟨s9,_,h9⟩:=H;exact cB mw (vs:=[J T.f,I Z (n:Int)]) _ V V V h9.h (fun v W' a ho=>⟨[v],V,a,ApR.f a,ho⟩)
    simp only[B4,EQ,EW,EV,Nat.reduceAdd];refine RE.f V V ?_ (fun c9=>?_)
    ·intro W H hS z;obtain⟨x,rfl⟩:∃x:Wb wr,W=x.1:=hS V;exact eC mw (p:=C) (n:=y) (c:=D) (w4:=wr) (vs:=[J T.f,I Z (n:Int)]) (xs:=us) _ _ V V (z 13 et (by kernel_rfl) V) V (by simp[Value.oneCell']) x.2 c7.o (by omega) (fun v' W' R h2 h3=>⟨[v'],V,R,h2,h3⟩)
    simp only[B4,EQ,EW,EV,Nat.reduceAdd];refine RE.h ?_;intro W hS z;have hS:ApS 52 2 wr C y D (us++[J T.f,I Z (n:Int)]) W:=hS;have hV:ApV 52 2 wr C y D (us++[J T.f,I Z (n:Int)]) W (c9.getD 0 At):=z 14 c9 V;obtain⟨g',cap,eg,hg,H,bq⟩:=eZ hS hV;rw[eg];have da:Chg (fun b=>(A C ts.length D).ownBlock=Y b) wr W:=by rw[HN.o];exact H
    have b4:(A C ts.length D).ownBlock=Y g'∨wr.heap.size≤g':=by rw[HN.o];exact hg
    have dc:bV.at_ wr F ⟨T.f,(n:Int)⟩ [J T.f,I Z (n:Int)]:=gp.2 ⟨V,dv,by show (-9223372036854775808:Int)≤(n:Int);omega,by show (n:Int)<9223372036854775808;omega⟩;obtain⟨dg,dp,b5⟩:=N.o.pushT HN.o er.o dc b4 da bq;obtain⟨y2,y3,y4,y5,y6,y7,hm⟩:=N.o.m;have fe:W.cell? ⟨M,0,U⟩=Y (A C y D):=by rw[FI _ _ _ _ _ _ (b5.trans hm),←HN.o];rfl
    have fm:=bK (b5.trans hm) 0;have HP:Hid (oy F d M rs (A C ts.length D) vR (AF (ts++[⟨T.f,(n:Int)⟩])) w (z8 (CA #[])) (W.setCell ⟨M,0,U⟩ (A (Y ⟨g',0,U⟩) (y+1) cap))):=by
     refine⟨cj (Chg.f u.o) dp (fun x hx=>z6 hx),V,_,dg,fun b a=>?_⟩;injection a with a
     have a:g'=b:=a;subst a;rcases b4 with h|h
     ·exact z6 h
     ·have:=u.o.size;exact z7 (by omega)
    clear hS hV z eg hg H bq da b4 dg dp b5 E1 E4 M0 c8 dc hm;go_wp2_with fail
    go_end0
    rw[c5.o];exact HP.o
structure lQ (d:Nat) (K:ab):Prop where
 h:I64 K.h
 u:K.u.length≤10000
 N:K.b=5∨K.b=6→∀k∈K.u,(k.b=12∨k.b=13∨k.b=14∨k.b=15)∧k.f.size≤72007
 a:K.b=7→∃t r,K.u=t::r∧dh d t
 y:K.b=8∨K.b=10→∀k∈K.u,dh d k
def fN(d:Nat) (ts:List ae) (vars:List ByteArray) (K:ab):Except Flt (List ByteArray×aW):=
 if K.b==5 then dX wP 1 (bI ts K) vars K.u
 else if K.b==6 then dX xj 2 (bI ts K) vars K.u
 else match K.u with
  | []=>BT (0,0)
  | t::_=>jL vars (aB vars d t)
def i4(d:Nat) (ts:List ae) (vars:List ByteArray) (cs:List aW) (K:ab):Except Flt bW:=
 if K.b==8 then jU (bI ts K) (bz (aB vars d) K.u)
 else if K.b==9 then iq cs K
 else if K.b==10 then m8 (bz (aB vars d) K.u)
 else AF ⟨4,0,0,[]⟩
theorem rY{d:Nat}{ts:List ae}{s:RSt}{K:ab}(h:aO K=wP)(c:lQ d K):aC d ts s K=match fN d ts s.b K with | .error e=>BT e | .ok x=>AF ⟨x.1,s.c++[x.2],s.d⟩:=by
 have a:K.b=5∨K.b=6∨K.b=7:=by
  unfold aO at h
  simpa using h
 rcases a with a|a|a
 ·unfold aC fN dX;simp only[a]
  cases bI ts K with
  | error e=>rfl
  | ok k =>
   dsimp only
   show (match aG (bU wP) (s.b,[]) K.u with | .error e=>_ | .ok r=>_)=_
   cases aG (bU wP) (s.b,[]) K.u<;>rfl
 ·unfold aC fN dX;simp only[a]
  cases bI ts K with
  | error e=>rfl
  | ok k =>
   dsimp only
   show (match aG (bU xj) (s.b,[]) K.u with | .error e=>_ | .ok r=>_)=_
   cases aG (bU xj) (s.b,[]) K.u<;>rfl
 ·obtain⟨t,r,b,_⟩:=c.a a;unfold aC fN jL;simp only[a,b]
  show (match aB s.b d t with | .error e=>_ | .ok x=>_)=_
  cases aB s.b d t<;>rfl
theorem zq7{d:Nat}{ts:List ae}{s:RSt}{K:ab}(h:aO K=xj):aC d ts s K=match i4 d ts s.b s.c K with | .error e=>BT e | .ok x=>AF ⟨s.b,s.c,s.d++[x]⟩:=by
 have b:K.b≠5∧K.b≠6∧K.b≠7:=by
  unfold aO at h
  simpa using h
 have i:(K.b==5)=false:=by simpa using b.1
 have j:(K.b==6)=false:=by simpa using b.2.1
 have l:(K.b==7)=false:=by simpa using b.2.2
 unfold aC i4;rw[i,j,l];simp only[Bool.or_self,Fo,sm]
 by_cases f:K.b=8
 ·simp only[f];unfold jU
  show (match bI ts K with | .error e=>_ | .ok k=>_)=_
  cases bI ts K with
  | error e=>rfl
  | ok k =>
   show (match bz (aB s.b d) K.u with | .error e=>_ | .ok xs=>_)=_
   cases bz (aB s.b d) K.u<;>rfl
 ·have m:(K.b==8)=false:=by simpa using f
  rw[m];simp only[Fo,sm]
  by_cases g:K.b=9
  ·simp only[g];unfold iq
   show (if K.h<1||decide ((bE s.c:Int)<K.h) then _ else _)=_
   split<;>rfl
  ·have n:(K.b==9)=false:=by simpa using g
   rw[n];simp only[Fo,sm]
   by_cases a:K.b=10
   ·simp only[a];unfold m8
    show (match bz (aB s.b d) K.u with | .error e=>_ | .ok xs=>_)=_
    cases bz (aB s.b d) K.u<;>rfl
   ·have c:(K.b==10)=false:=by simpa using a
    rw[c];rfl
theorem pS{ts:List ae}{K:ab}{k:Nat}(a:ts.length≤10000)(h:bI ts K=AF k):k≤10000:=by
 unfold bI at h
 split at h
 ·cases h
 ·rename_i k' b
  have:=oY b
  split at h
  ·injection h with h;omega
  ·cases h
section
variable {F:Nat→Prop} {d M:Nat} {ts:List ae} {rs:List an} {vars:List ByteArray} {nm:ByteArray} {sal nv:Int} {cs:List aW} {acs:List bW} {vT vR vV vC vA:wF} {w:wD}
theorem MkW.row_t(h:MkW F d M ts rs vars nm sal nv cs acs vT vR vV vC vA w):bV.K w (fun b=>b<w.heap.size) ts vT:=h.t.K (fun b a=>(h.f b a).1) (fun _g c=>h.t.lt c)
theorem MkW.typed(h:MkW F d M ts rs vars nm sal nv cs acs vT vR vV vC vA w)(K:ab){s:wF}(a:∃p c,s=A p K.u.length c)(b:K.u.length≤10000):xL xD 74 #[xV (Y ⟨M,0,U⟩),xS #[I O K.b,J K.f,I Z K.h,I Z K.y,s]] w (oH (bI ts K) lZ w):=by
 obtain⟨p,c,rfl⟩:=a;exact zY ts K p c vT _ M w h.row_t (fun _ h=>h) (by rw[FI _ _ _ _ _ _ h.m];rfl) (by omega)
theorem MkW.y(h:MkW F d M ts rs vars nm sal nv cs acs vT vR vV vC vA w){Ks:List ab}{s:wF}(a:ao w w.heap.size (d+1) Ks s)(f:Ks.length≤10000)(b:∀k∈Ks,dh d k):xL xD 77 #[xV (Y ⟨M,0,U⟩),s] w (jI d (bz (aB vars d) Ks) w):=
 nO d M vars vV (aB vars d) Ks s w h.vars a (by omega) (fun T c s W e _ a=>uO M vars vV d T s W e (b T c) a)
end
def rF(F:Nat→Prop) (d M:Nat) (ts:List ae) (rs:List an) (vars:List ByteArray) (nm:ByteArray) (sal nv:Int) (cs:List aW) (acs:List bW) (vT vR vV vC vA:wF) (K:ab) (w:wD) (e:Ending) (w':wD):Prop:=
 if aO K then kY F d M ts rs nm sal nv cs acs vT vR vV vC vA (fN d ts vars K) w e w'
 else e=z8 (AJ xj)∧FK w w'∧MkW F d M ts rs vars nm sal nv cs acs vT vR vV vC vA w'
theorem Ct(F:Nat→Prop)(d M:Nat)(ts:List ae)(rs:List an)(vars:List ByteArray)(nm:ByteArray)(sal nv:Int)(cs:List aW)(acs:List bW)(vT vR vV vC vA:wF)(K:ab)(s:wF)(u:Nat)(w:wD)
  (hw:MkW F d M ts rs vars nm sal nv cs acs vT vR vV vC vA w) (i:cs.length≤10000) (v:vars.length≤16) (x:ts.length≤10000) (j:lQ d K) (f:ao w u (d+1) K.u s) (g:u≤w.heap.size) (D:∀b,bj M [vT,vR,vV,vC,vA] b→u≤b) :
  xL xD 43 #[xV (Y ⟨M,0,U⟩),xS #[I O K.b,J K.f,I Z K.h,I Z K.y,s]] w (rF F d M ts rs vars nm sal nv cs acs vT vR vV vC vA K w):=by
 obtain⟨p,c,y⟩:=f.f;unfold rF
 by_cases n:K.b=5
 ·have l:aO K=true:=by unfold aO;rw[n];rfl
  rw[l];simp only[sx];have e:fN d ts vars K=dX wP 1 (bI ts K) vars K.u:=by unfold fN;rw[n];rfl
  rw[e];subst y
  exact sw 5 1 wP (z6 ⟨V,V,V⟩) F d M ts rs vars nm sal nv cs acs vT vR vV vC vA K K.u p K.u.length c u d (bI ts K) w hw (by omega) i v V j.u (fun k h=>pS x h) f g D (j.N (z6 n)) (fun W m=>by
   have:=(hw.z m).typed K ⟨p,c,V⟩ j.u;rw[n]at this
   exact this)
 by_cases o:K.b=6
 ·have l:aO K=true:=by unfold aO;rw[o];rfl
  rw[l];simp only[sx];have e:fN d ts vars K=dX xj 2 (bI ts K) vars K.u:=by unfold fN;rw[o];rfl
  rw[e];subst y
  exact sw 6 2 xj (z7 ⟨V,V,V⟩) F d M ts rs vars nm sal nv cs acs vT vR vV vC vA K K.u p K.u.length c u d (bI ts K) w hw (by omega) i v V j.u (fun k h=>pS x h) f g D (j.N (z7 o)) (fun W m=>by
   have:=(hw.z m).typed K ⟨p,c,V⟩ j.u;rw[o]at this
   exact this)
 by_cases q:K.b=7
 ·have l:aO K=true:=by unfold aO;rw[q];rfl
  rw[l];simp only[sx];obtain⟨t,r,a,z⟩:=j.a q;have e:fN d ts vars K=jL vars (aB vars d t):=by unfold fN;rw[q,a];rfl
  rw[e];have E:=f;rcases f with ⟨P,_⟩|⟨b,off,cap,Q,R,S,T,he,B⟩
  ·rw[P]at a;cases a
  subst he;obtain⟨G,st,H,L,c2,N,c4,C⟩:=B 0 t (by rw[a];rfl);simp only[Nat.zero_mul,Nat.add_zero]at H L c2 N c4;exact yZ F d M ts rs vars nm sal nv cs acs vT vR vV vC vA K t b off cap st (aB vars d t) K.u.length w hw q i (by rw[a];simp) H L c2 N c4 (fun W m=>uO M vars vV d t st W (hw.z m).vars z ((C.z (m.mono g)).up (EU g m.size)))
 ·have l:aO K=false:=by unfold aO;simp[n,o,q]
  rw[l];simp only[Fo,sm];subst y;exact A5 F d M ts rs vars nm sal nv cs acs vT vR vV vC vA K p K.u.length c w hw ⟨n,o,q⟩
theorem DG(F:Nat→Prop)(d M:Nat)(ts:List ae)(rs:List an)(vars:List ByteArray)(nm:ByteArray)(sal nv:Int)(cs:List aW)(acs:List bW)(vT vR vV vC vA:wF)(K:ab)(s:wF)(r:Nat)(w:wD)
  (hw:MkW F d M ts rs vars nm sal nv cs acs vT vR vV vC vA w) (n:cs.length≤10000) (b:acs.length≤10000) (o:ts.length≤10000) (l:lQ d K) (g:ao w r (d+1) K.u s) (i:r≤w.heap.size) :
  xL xD 44 #[xV (Y ⟨M,0,U⟩),xS #[I O K.b,J K.f,I Z K.h,I Z K.y,s]] w (iM F d M ts rs vars nm sal nv cs acs vT vR vV vC vA (i4 d ts vars cs K) w):=by
 obtain⟨p,c,u⟩:=g.f;have hex:∀(t:K.b=8∨K.b=10) W,FK w W→xL xD 77 #[xV (Y ⟨M,0,U⟩),s] W (jI d (bz (aB vars d) K.u) W):=fun t W j=>(hw.z j).y ((g.z (j.mono i)).up (EU i j.size)) l.u (l.y t)
 subst u
 by_cases f:K.b=8
 ·have e:i4 d ts vars cs K=jU (bI ts K) (bz (aB vars d) K.u):=by unfold i4;rw[f];rfl
  rw[e]
  exact Ab F d M ts rs vars nm sal nv cs acs vT vR vV vC vA K p K.u.length c (bI ts K) _ w hw f b (fun k h=>pS o h) (fun W j=>by
   have:=(hw.z j).typed K ⟨p,c,V⟩ l.u;rw[f]at this
   exact this) (hex (z6 f))
 by_cases m:K.b=9
 ·have e:i4 d ts vars cs K=iq cs K:=by unfold i4;rw[m];rfl
  rw[e];exact Bg F d M ts rs vars nm sal nv cs acs vT vR vV vC vA K p K.u.length c w hw m b n l.h
 by_cases a:K.b=10
 ·have e:i4 d ts vars cs K=m8 (bz (aB vars d) K.u):=by unfold i4;rw[a];rfl
  rw[e];exact D3 F d M ts rs vars nm sal nv cs acs vT vR vV vC vA K p K.u.length c _ w hw a b (hex (z7 a))
 ·have e:i4 d ts vars cs K=AF ⟨4,0,0,[]⟩:=by
   unfold i4;have v:(K.b==8)=false:=by simpa using f
   have x:(K.b==9)=false:=by simpa using m
   have q:(K.b==10)=false:=by simpa using a
   rw[v,x,q];rfl
  rw[e];exact za F d M ts rs vars nm sal nv cs acs vT vR vV vC vA K p K.u.length c w hw ⟨f,m,a⟩ b
