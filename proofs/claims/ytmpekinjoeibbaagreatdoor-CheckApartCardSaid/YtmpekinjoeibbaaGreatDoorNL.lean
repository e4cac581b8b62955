/- Parts of one proof, joined; conditions stand in each theorem. -/
import Derived.Test.YtmpekinjoeibbaaGreatDoorNK
open Except renaming error→wD,ok→vb
open Go.Value renaming agg→s3,string→p9,int→I,tuple→wF,slice→O,pointer→tv,func→wP,bool→ur
open Go.IntKind renaming i64→Y,u8→J
open Go renaming Value→r3,World→p7,Calls→r9,undef→tT,wpQuiet_nil→vk
open Go.Ending renaming returned→tF
open Or renaming inl→tE,inr→tS
open Option renaming some→A,none→V
open Go.Proofs.Tryz renaming prog→r6
open Go.Obj renaming cells→p8
open Decidable renaming decide→r8
open Bool renaming true→r5,false→r7
open Go.Act renaming put→wj
namespace Go.Proofs.YtmpekinjoeibbaaGreatDoor
set_option maxHeartbeats 8000000
set_option maxRecDepth 100000
open Go.RowKit
def fl(ts:List ap) (T:ah):Except Flt (List ap):=
 if (dC T.h ts).isSome then wD (210,T.t)
 else if 32≤ts.length||6<T.u.length then wD (204,T.t)
 else match bs fieldStep [] T.u with
  | .error e=>wD e
  | .ok _=>vb (ts++[⟨T.h,T.u.length⟩])
theorem oJ:∀(l:List ah) (s b:List ByteArray),bs fieldStep s l=vb b→b=s++l.map ah.h
 | [],s,b,h=>by injection h with h;rw[←h];simp
 | K::l,s,b,h=>by
  unfold bs at h
  cases a:fieldStep s K with
  | error e=>rw[a]at h;cases h
  | ok s1 =>
   rw[a]at h;unfold fieldStep at a
   split at a
   ·cases a
   ·injection a with a
    rw[oJ l s1 b h,←a];simp
theorem uZ:Elem 41 23 2 24:=Elem.of (z:=s3 #[p9 ByteArray.empty,I Y 0]) Tryz.underlying23 (by kernel_rfl) (by kernel_rfl) (by decide) (by decide)
def nL(F:Nat→Prop) (d M:Nat) (rs:List au) (vT vR:r3) (r:Except Flt (List ap)) (w:p7) (e:Ending) (w':p7):Prop:=
 Chg (bf M [vT,vR]) w w'∧match r with
 | .ok b=>e=tF (wF #[])∧∃a,MkB F d M b rs a vR w'∧Grew vT a w.heap.size
 | .error er=>e=aQ er.1 er.2
theorem aF.taken{w:p7}{B d:Nat}{Ts:List ah}{p:Option Addr}{n c k:Nat}(h:aF w B (d+1) Ts (O p n c))(o:k≤Ts.length):aF w B (d+1) (Ts.take k) (O p k c):=by
 rcases h with ⟨rfl,sp,cap,he⟩|⟨b,off,cap,t,q,u,r,he,s⟩
 ·injection he with f l g
  subst f;subst g;have:k=0:=by simpa using o
  subst this;exact tE ⟨Z,_,_,Z⟩
 ·injection he with f l g
  subst f;subst l;subst g
  by_cases m:k=0
  ·subst m;exact tE ⟨Z,_,_,Z⟩
  ·have j:(Ts.take k).length=k:=by rw[List.length_take];omega
   refine tS ⟨b,off,c,fun e=>by rw[e]at j;exact m j.symm,q,by omega,r,by rw[j],fun i T a=>s i T ?_⟩;rw[List.getElem?_take]at a
   split at a
   ·exact a
   ·cases a
theorem xQ(b off n c m:Nat)(hm:m≤c)(W:p7):(Instr.slice 62 (O (A ⟨b,off,V⟩) n c) V (A (I Y (m:Int))) V).run r6 W=.ok (O (A ⟨b,off,V⟩) m c) W:=by
 rw[run_slice_h W 62 (A ⟨b,off,V⟩) n c (by kernel_rfl) Y m (by omega) (by omega)];rw[show (sizeOf (Tryz.prog.elem 62)).run r6 W=.ok 5 W from by kernel_rfl]
 show Result.ok (sliced _ _ _ _ _) W=_
 unfold sliced;rw[Int.toNat_natCast]
 by_cases a:c=0
 ·subst a;obtain rfl:m=0:=by omega
  rfl
 ·rw[ox a];simp[Addr.add]
def vw(w:p7) (F:Nat→Prop) (d M:Nat) (ts:List ap) (rs:List au) (vT vR:r3) (T:ah) (a:r3) (n:Nat) (i:r3) (W:p7):Prop:=
 ∃(j:Nat) (s:List ByteArray),j≤n∧i=I Y (j:Int)∧bs fieldStep [] (T.u.take j)=vb s∧FS w W∧W.heap[w.heap.size]?=A (p8 #[I J 2,p9 T.h,I Y T.q,I Y T.t,a] 64 (0,0))∧MkB F d M ts rs vT vR W
theorem zF(F:Nat→Prop)(d M:Nat)(ts:List ap)(rs:List au)(vT vR:r3)(T:ah)(p:Option Addr)(n c dd:Nat)(w:p7)
  (hw:MkB F d M ts rs vT vR w) (hk:T.b=2) (eo:ts.length≤10000) (b6:T.u.length=n) (hn:n≤10000) (a8:aF w w.heap.size (dd+1) T.u (O p n c)) (er:T.h.size≤maxLen) :
  r9 r6 24 #[tv (A ⟨M,0,V⟩),s3 #[I J T.b,p9 T.h,I Y T.q,I Y T.t,O p n c]] w (nL F d M rs vT vR (fl ts T) w):=by
 rw[hk];change r9 r6 24 #[tv (A ⟨M,0,V⟩),s3 #[I J 2,p9 T.h,I Y T.q,I Y T.t,O p n c]] w _;obtain⟨C,D,et⟩:=hw.t.b;subst et;obtain⟨y,af⟩:=zzy (ts.length);have HN:=Hd af;rw[af]at eo;obtain⟨w1,ba⟩:=zzx (w.alloc (p8 #[I J 2,p9 T.h,I Y T.q,I Y T.t,O p n c] 64));have U:FS w w1:=by rw[ba];exact (EU _ w).alloc (ET _) _
 have bq:w1.heap[w.heap.size]?=A (p8 #[I J 2,p9 T.h,I Y T.q,I Y T.t,O p n c] 64 (0,0)):=by rw[ba];exact ot w _
 obtain⟨br,r,b7,b8,ak,G⟩:=zz6 bq U (hw.C U) (fun g X=>hw.t.lt (g:=g) X) a8 b6;obtain⟨ix,bt⟩:=zzx (eh (dC T.h ts));have aq:Hid (r8 ((0:Int)≤ix)=(dC T.h ts).isSome):=by
  show _=_
  rw[bt]
  cases dC T.h ts with
  | none=>rfl
  | some k=>show r8 ((0:Int)≤(k:Int))=r5;simp
 have bc:=Hd (fun (W:p7) (h:FS w1 W)=>pm ts T.h _ _ M W ((hw.C U).C h).row_t (fun _ h=>h) ((hw.C U).C h).h.1);rw[←bt]at bc;obtain⟨e0,e1,e2,e3,e4⟩:=cells5 bq;have ad:w1.cell? ⟨M,0,V⟩=A (O C y D):=by rw[(hw.C U).h.1,af]
 have E0:=fun x:Wb w1=>x.b e0
 have E1:=fun x:Wb w1=>x.b e1
 have E2:=fun x:Wb w1=>x.b e2
 have E3:=fun x:Wb w1=>x.b e3
 have E4:=fun x:Wb w1=>x.b e4
 have MT:=fun x:Wb w1=>x.b ad
 clear bq U hw hk a8 b6 bt
 go_enter Tryz.func24,Tryz.ntmps24
 go_upto_region 1 with fail
 change Code.wp _ _ _ _ (w.alloc (p8 #[I J 2,p9 T.h,I Y T.q,I Y T.t,O p n c] 64));rw[←ba];clear ba
 go_cut [] from 6 to 31 (fun W2=>FS w W2∧W2.heap[w.heap.size]?=A (p8 #[I J 2,p9 T.h,I Y T.q,I Y T.t,O p n c] 64 (0,0))∧MkB F d M ts rs (O C ts.length D) vR W2∧(dC T.h ts).isSome=r7∧(32≤y||6<n)=r7)
 case first =>
  have hA:(dC T.h ts).isSome=r5→fl ts T=wD (210,T.t):=fun h=>by unfold fl;rw[oA h]
  have hB:(dC T.h ts).isSome=r7→(r8 (32≤y)||decide (6<n))=r5→fl ts T=wD (204,T.t):=fun h h2=>by
   unfold fl;rw[h,ox (by decide),oA (by rw[HN.o,G.o];exact h2)]
  obtain⟨HA,b9⟩:=zz2 hA hB;clear hA hB af
  by_cases ca:32≤y
  ·have cb:(32:Int)≤y:=by omega
   have ar:Hid (32≤y):=ca;refine RE.t (by kernel_rfl) 25 [6,24] [] (fun _ W=>∃x:Wb w1,W=x.1) (fun W W'=>FS W W') (fun i ys=>if i=6 then I Y (ix:Int) else ys.getD 0 tT) (fun i W ys=>if i=24 then cM w1.heap.size [(r8 ((0:Int)≤ix),210),(r5,204)] W (ys.getD 0 tT) else True) (by kernel_rfl) (fun _ _ _ _ _ _ h a=>cd h a) (fun i W W' ys h _ a=>by split at h;(rw[oA (by assumption)];exact h.C a);rw[ox (by assumption)];trivial) ⟨⟨w1.drew,(EU _ _).drew⟩,Z⟩ ?_;simp only[Fg,Fu,Fh,Ft]
   repeat (refine RE.h (fun W=>∃x:Wb w1,W=x.1) (fun _ _ _ h=>h) Z Z Z ⟨⟨w1.drew,(EU _ _).drew⟩,Z⟩ ?_;go_big_quiet_step (fail);refine vk ?_)
   refine RE.b Z Z ?_ (fun ch=>?_)
   ·intro W H _ z;obtain⟨s9,_,x,rfl⟩:=H;refine RE.u 15 _ _ Z (enters_of Tryz.func15 (by kernel_rfl) Z) #[tv (A ⟨M,0,V⟩),p9 T.h] (by simp[Act.eval]) ((bc.o x.1 x.2).mono ?_);rintro e W' ⟨rfl,a⟩;exact⟨_,Z,[],Z,a,a,trivial⟩
   simp only[wj,EV,Fe,Fc,Nat.reduceAdd,↓reduceIte]
   repeat (refine RE.h (fun W=>∃x:Wb w1,W=x.1) (fun _ _ _ h=>h) Z Z Z ⟨⟨w1.drew,(EU _ _).drew⟩,Z⟩ ?_;go_big_quiet_step (fail);refine vk ?_)
   refine RE.b Z Z ?_ (fun ys=>?_)
   ·intro W H _ z;obtain⟨s9,_,x,rfl⟩:=H;exact iG _ _ 210 204 _ _ Z Z Z x.2.size (fun v W' a ho=>⟨[v],Z,a,a,ho⟩)
   simp only[wj,EV,Fe,Fc,Nat.reduceAdd,Nat.reduceEqDiff,↓reduceIte];refine RE.q ?_;intro W hS z;obtain⟨x,rfl⟩:=hS;obtain⟨g,eg,lg,X⟩:cM w1.heap.size [(r8 ((0:Int)≤ix),210),(r5,204)] x.1 (ys.getD 0 tT):=z 24 ys Z;rw[eg];have av:=Hd (bS [(r8 ((0:Int)≤ix),210),(r5,204)] 2 T.h T.q T.t (O p n c) g 2 2 x.1 Z (by omega) X);have L:=Hd x.2;clear z eg lg X E0 E1 E2 E3 E4 MT;go_wp2_with fail
   refine av.o.mono ?_;rintro e W2 ⟨q,he⟩;have f:=L.o.trans (q.mono L.o.size);clear q
   cases R:r8 ((0:Int)≤ix) with
   | true =>
    rw[R]at he;have he:e=aQ 210 T.t:=he;subst he;refine⟨Z,Chg.b (r.o.trans (f.mono r.o.size)),?_⟩;rw[HA.o (aq.o.symm.trans R)];rfl
   | false =>
    rw[R]at he;have he:e=aQ 204 T.t:=he;subst he;refine⟨Z,Chg.b (r.o.trans (f.mono r.o.size)),?_⟩;rw[b9.o (aq.o.symm.trans R) (by rw[decide_eq_true ar.o];rfl)];rfl
  ·have cb:¬(32:Int)≤y:=by omega
   have ar:Hid (¬32≤y):=ca;refine RE.t (by kernel_rfl) 25 [6,24] [] (fun _ W=>∃x:Wb w1,W=x.1) (fun W W'=>FS W W') (fun i ys=>if i=6 then I Y (ix:Int) else ys.getD 0 tT) (fun i W ys=>if i=24 then cM w1.heap.size [(r8 ((0:Int)≤ix),210),(r8 ((6:Int)<n),204)] W (ys.getD 0 tT) else True) (by kernel_rfl) (fun _ _ _ _ _ _ h a=>cd h a) (fun i W W' ys h _ a=>by split at h;(rw[oA (by assumption)];exact h.C a);rw[ox (by assumption)];trivial) ⟨⟨w1.drew,(EU _ _).drew⟩,Z⟩ ?_;simp only[Fg,Fu,Fh,Ft]
   repeat (refine RE.h (fun W=>∃x:Wb w1,W=x.1) (fun _ _ _ h=>h) Z Z Z ⟨⟨w1.drew,(EU _ _).drew⟩,Z⟩ ?_;go_big_quiet_step (fail);refine vk ?_)
   refine RE.b Z Z ?_ (fun ch=>?_)
   ·intro W H _ z;obtain⟨s9,_,x,rfl⟩:=H;refine RE.u 15 _ _ Z (enters_of Tryz.func15 (by kernel_rfl) Z) #[tv (A ⟨M,0,V⟩),p9 T.h] (by simp[Act.eval]) ((bc.o x.1 x.2).mono ?_);rintro e W' ⟨rfl,a⟩;exact⟨_,Z,[],Z,a,a,trivial⟩
   simp only[wj,EV,Fe,Fc,Nat.reduceAdd,↓reduceIte]
   repeat (refine RE.h (fun W=>∃x:Wb w1,W=x.1) (fun _ _ _ h=>h) Z Z Z ⟨⟨w1.drew,(EU _ _).drew⟩,Z⟩ ?_;go_big_quiet_step (fail);refine vk ?_)
   refine RE.b Z Z ?_ (fun ys=>?_)
   ·intro W H _ z;obtain⟨s9,_,x,rfl⟩:=H;exact iG _ _ 210 204 _ _ Z Z Z x.2.size (fun v W' a ho=>⟨[v],Z,a,a,ho⟩)
   simp only[wj,EV,Fe,Fc,Nat.reduceAdd,Nat.reduceEqDiff,↓reduceIte];refine RE.q ?_;intro W hS z;obtain⟨x,rfl⟩:=hS;obtain⟨g,eg,lg,X⟩:cM w1.heap.size [(r8 ((0:Int)≤ix),210),(r8 ((6:Int)<n),204)] x.1 (ys.getD 0 tT):=z 24 ys Z;rw[eg];have av:=Hd (bS [(r8 ((0:Int)≤ix),210),(r8 ((6:Int)<n),204)] 2 T.h T.q T.t (O p n c) g 2 2 x.1 Z (by omega) X);have L:=Hd x.2;clear z eg lg X E0 E1 E2 E3 E4 MT;go_wp2_with fail
   refine av.o.mono ?_;rintro e W2 ⟨q,he⟩;have f:=L.o.trans (q.mono L.o.size);clear q
   cases R:r8 ((0:Int)≤ix) with
   | true =>
    rw[R]at he;have he:e=aQ 210 T.t:=he;subst he;refine⟨Z,Chg.b (r.o.trans (f.mono r.o.size)),?_⟩;rw[HA.o (aq.o.symm.trans R)];rfl
   | false =>
    rw[R]at he
    cases h2:r8 ((6:Int)<n) with
    | true =>
     rw[h2]at he;have he:e=aQ 204 T.t:=he;subst he;refine⟨Z,Chg.b (r.o.trans (f.mono r.o.size)),?_⟩;have h3:6<n:=by have:=of_decide_eq_true h2;omega
     rw[b9.o (aq.o.symm.trans R) (by rw[decide_eq_true h3,Bool.or_true])];rfl
    | false =>
     rw[h2]at he;have he:e=tF (wF #[]):=he;subst he;have h3:¬6<n:=by have:=of_decide_eq_false h2;omega
     have HP:Hid (FS w W2∧W2.heap[w.heap.size]?=A (p8 #[I J 2,p9 T.h,I Y T.q,I Y T.t,O p n c] 64 (0,0))∧MkB F d M ts rs (O C ts.length D) vR W2∧(dC T.h ts).isSome=r7∧(32≤y||6<n)=r7):=
      ⟨r.o.trans (f.mono r.o.size),ag f br.o (ES.1 br.o).1,b7.o.C f,aq.o.symm.trans R,by rw[oB ar.o,oB h3];rfl⟩
     clear R h2 he f e0 e1 e2 e3 e4 ad;go_wp2_with fail
     go_meet
     case rel=>exact HP.o
 case rest =>
  obtain⟨ck,bB,cl,cp,bl⟩:=hcut;obtain⟨ev,e5,e6⟩:=zz3 ck bB cl;have cq:Hid (fl ts T=match bs fieldStep [] T.u with | .error e=>wD e | .ok _=>vb (ts++[⟨T.h,T.u.length⟩])):=by
   show _=_
   unfold fl;rw[cp,ox (by decide),ox (by rw[HN.o,G.o,bl];decide)]
  clear e0 e1 e2 e3 e4 ad E0 E1 E2 E3 E4 MT bc ck cl cp bl af br b7 r;obtain⟨e0,e1,e2,e3,e4⟩:=cells5 bB;clear bB;go_wp2_with fail
  go_loopw [35] (vw w F d M ts rs (O C ts.length D) vR T (O p n c) n) (fun i _=>n-(intOf i).toNat)
  case atStart=>exact⟨0,[],Fi _,Z,Z,ev.o,e5.o,e6.o⟩
  case round =>
   obtain⟨j,s,hj,rfl,a1,cr,ct,cu⟩:=hrel;have fr:(0:Int)≤j:=by omega
   obtain⟨bR,u,S,N⟩:=zz4 a1 cr ct cu;clear a1 cr ct cu e0 e1 e2 e3 e4
   by_cases e7:j<n
   ·have fv:(j:Int)<n:=by omega
    obtain⟨K,hK⟩:∃K,T.u[j]?=A K:=⟨_,EX (by rw[G.o];exact e7)⟩;have a8:=ak.o.C u.o;have cv:=aF.taken (k:=j) (ak.o.C u.o) (by rw[G.o];omega);rcases a8 with ⟨h0,_⟩|⟨b,off,cap,R,h2,h3,h4,he,h6⟩
    ·rw[h0]at hK;simp at hK
    rw[G.o]at he h3;injection he with e8 _ e9
    subst e8;subst e9;obtain⟨cx,sK,c0,c1,c2,c3,c4,cV⟩:=h6 j K hK;obtain⟨ps,bd,rfl⟩:=cV.t;obtain⟨nk,cW⟩:=zzy (K.u.length);rw[cW]at c4;have a6:s=(T.u.take j).map ah.h:=by rw[oJ _ _ _ bR.o];rfl
    obtain⟨bb,b1⟩:=zzx ((idxOf K.h ((T.u.take j).map ah.h)).isSome);have b2:Hid (bs fieldStep [] (T.u.take (j+1))=if bb then wD (210,K.t) else vb (s++[K.h])):=by
     show _=_
     rw[it hK bR.o,b1,←a6];rfl
    obtain⟨B,bk⟩:=zzx (wr.alloc (p8 #[I J K.b,p9 K.h,I Y K.q,I Y K.t,O ps nk bd] 64));have q:FS wr B:=by rw[bk];exact (EU _ wr).alloc (ET _) _
    have a7:B.heap[wr.heap.size]?=A (p8 #[I J K.b,p9 K.h,I Y K.q,I Y K.t,O ps nk bd] 64 (0,0)):=by rw[bk];exact ot wr _
    obtain⟨c5,fz⟩:=zz2 q a7;have b3:=ag q S.o (ES.1 S.o).1;have fI:=Hd b3;have fT:∀(fn:Fn) (first cap:Array r3) (w:p7),(Instr.makeFunc fn first cap).run r6 w=.ok (wP fn first cap) w:=fun _ _ _ _=>rfl
    have ga:∀W,(Instr.slice 62 (O (A ⟨b,off,V⟩) n c) V (A (I Y (j:Int))) V).run r6 W=.ok (O (A ⟨b,off,V⟩) j c) W:=fun W=>xQ b off n c j (by omega) W
    have c6:=Hd (fun (W:p7) (hW:FS B W)=>zP K.h wr.heap.size (T.u.take j) (O (A ⟨b,off,V⟩) j c) dd W ((cv.C ((q.mono u.o.size).trans (hW.mono (EZ u.o.size q.size)))).up (EZ u.o.size (EZ q.size hW.size))) (by rw[List.length_take];omega) (by rw[FR _ _ _ _ _ _ (ag hW a7 (ES.1 a7).1)];rfl));rw[←b1]at c6;obtain⟨k0,k1,k2,k3,k4⟩:=cells5 a7;obtain⟨n0,n1,n2,n3,n4⟩:=cells5 b3;have K0:=fun x:Wb B=>x.b k0
    have K1:=fun x:Wb B=>x.b k1
    have K2:=fun x:Wb B=>x.b k2
    have K3:=fun x:Wb B=>x.b k3
    have K4:=fun x:Wb B=>x.b k4
    have N4:=fun x:Wb B=>x.b n4
    obtain⟨e0,e1,e2,e3,e4⟩:=cells5 S.o;clear q a7 b3 a6 b1 cx cV h6 R h2 h3 h4 cW hK cv k0 k1 k2 k3 k4 n0 n1 n2 n3 n4;go_upto_region 5 with fail
    change Code.wp _ _ _ _ (wr.alloc (p8 #[I J K.b,p9 K.h,I Y K.q,I Y K.t,O ps nk bd] 64));rw[←bk];clear bk c0 c1 c2 c3 c4 e0 e1 e2 e3 e4;refine RE.t (by kernel_rfl) 9 [6,8] [] (fun _ W=>∃x:Wb B,W=x.1) (fun W W'=>FS W W') (fun i ys=>if i=6 then ur bb else ys.getD 0 tT) (fun i W ys=>if i=8 then cM B.heap.size [(bb,210)] W (ys.getD 0 tT) else True) (by kernel_rfl) (fun _ _ _ _ _ _ h a=>cd h a) (fun i W W' ys h _ a=>by split at h;(rw[oA (by assumption)];exact h.C a);rw[ox (by assumption)];trivial) ⟨⟨B.drew,(EU _ _).drew⟩,Z⟩ ?_;simp only[Fg,Fu,Fh,Ft]
    repeat (refine RE.h (fun W=>∃x:Wb B,W=x.1) (fun _ _ _ h=>h) Z Z Z ⟨⟨B.drew,(EU _ _).drew⟩,Z⟩ ?_;go_big_quiet_step (fail);refine vk ?_)
    refine RE.b Z Z ?_ (fun ch=>?_)
    ·intro W H _ z;obtain⟨s9,_,x,rfl⟩:=H;refine RE.u 48 _ _ Z (enters_of Tryz.func48 (by kernel_rfl) Z) #[O (A ⟨b,off,V⟩) j c,wP (.func 49) #[] #[tv (A ⟨wr.heap.size,0,V⟩)]] (by simp[Act.eval]) ((c6.o x.1 x.2).mono ?_);rintro e W' ⟨rfl,a⟩;exact⟨_,Z,[],Z,a,a,trivial⟩
    simp only[wj,EV,Fe,Fc,Nat.reduceAdd,↓reduceIte]
    repeat (refine RE.h (fun W=>∃x:Wb B,W=x.1) (fun _ _ _ h=>h) Z Z Z ⟨⟨B.drew,(EU _ _).drew⟩,Z⟩ ?_;go_big_quiet_step (fail);refine vk ?_)
    refine RE.b Z Z ?_ (fun ys=>?_)
    ·intro W H _ z;obtain⟨s9,_,x,rfl⟩:=H;exact ki bb 210 _ Z Z x.2.size (fun v W' a ho=>⟨[v],Z,a,a,ho⟩)
    simp only[wj,EV,Fe,Fc,Nat.reduceAdd,Nat.reduceEqDiff,↓reduceIte];refine RE.q ?_;intro W hS z;obtain⟨x,rfl⟩:=hS;obtain⟨g,eg,lg,X⟩:cM B.heap.size [(bb,210)] x.1 (ys.getD 0 tT):=z 8 ys Z;rw[eg];obtain⟨av,L⟩:=zz2 (bS [(bb,210)] K.b K.h K.q K.t (O ps nk bd) g 1 1 x.1 Z (by omega) X) x.2;clear z eg lg X K0 K1 K2 K3 K4 N4;go_wp2_with fail
    refine av.o.mono ?_;rintro e W2 ⟨c7,he⟩;have P:=c5.o.trans ((L.o.trans (c7.mono L.o.size)).mono c5.o.size)
    cases bb with
    | true =>
     have he:e=aQ 210 K.t:=he;subst he;have fe:=jm b2.o;refine⟨Z,Chg.b (u.o.trans (P.mono u.o.size)),?_⟩;rw[cq.o,fe];rfl
    | false =>
     have he:e=tF (wF #[]):=he;subst he;have HR:Hid (vw w F d M ts rs (O C ts.length D) vR T (O (A ⟨b,off,V⟩) n c) n (I Y ((j+1:Nat):Int)) W2):=
      ⟨j+1,s++[K.h],by omega,Z,b2.o,u.o.trans (P.mono u.o.size),ag P S.o (ES.1 S.o).1,N.o.C P⟩
     clear c7 P b2 he;go_wp2_with fail
     refine⟨HR.o,?_⟩;simp[intOf];omega
   ·have c8:Hid (fl ts T=vb (ts++[⟨T.h,(n:Int)⟩])):=by
     show _=_
     rw[cq.o,←Fq (l:=T.u) (i:=j) (by rw[G.o];omega),bR.o,Fq (by rw[G.o];omega),G.o]
    obtain⟨us,Q,c9⟩:=N.o.t;rw[HN.o]at Q;have Q:wr.ownsRow 0 41 2 (O C y D) y us:=Q;obtain⟨da,fm⟩:=zz2 Q c9;have ad:wr.cell? ⟨M,0,V⟩=A (O C y D):=by rw[N.o.h.1,HN.o]
    obtain⟨x2,x3,x4,x5,x6,x7,hm⟩:=N.o.m;have hK:∀b,(b=M∨b=w.heap.size)→b<wr.heap.size∧(O C y D).ownBlock≠A b:=fun b a=>by
     rw[←HN.o];rcases a with rfl|rfl
     ·exact⟨N.o.lt,row_ne hm N.o.t (by decide)⟩
     ·exact⟨(ES.1 S.o).1,fun e=>by have:=b8.o _ e;omega⟩
    have dc:=Hd (kb (E:=41) (sz:=2) (row:=us++[p9 T.h,I Y (n:Int)]) (K:=fun b=>b=M∨b=w.heap.size) hK);obtain⟨e0,e1,e2,e3,e4⟩:=cells5 S.o;have E1:=fun x:Ks wr (fun b=>b=M∨b=w.heap.size)=>x.b (tS Z) e1
    have E4:=fun x:Ks wr (fun b=>b=M∨b=w.heap.size)=>x.b (tS Z) e4
    have M0:=fun x:Ks wr (fun b=>b=M∨b=w.heap.size)=>x.b (tE Z) ad
    clear Q c9 ad hm hK e0 e1 e2 e3 e4;go_upto_region 7 with fail
    refine RE.t (by kernel_rfl) 15 [13,14] [14] (stA 41 2 wr C y D (us++[p9 T.h,I Y (n:Int)])) (ApR wr) (fun _ ys=>ys.getD 0 tT) (phA 41 2 wr C y D [p9 T.h,I Y (n:Int)] (us++[p9 T.h,I Y (n:Int)]) 13 14) (by kernel_rfl) (fun _ _ _ _ _ _ h a=>h.C a) (fun _ _ _ _ h _ hR=>h.t hR) stA.zero ?_;simp only[Fg,Fu,Fh,Ft]
    repeat (refine RE.h (fun W=>∃x:Ks wr (fun b=>b=M∨b=w.heap.size),W=x.1) (dc.o _) Z Z Z stA.zero ?_;go_big_quiet_step (fail);refine vk ?_)
    refine RE.b Z Z ?_ (fun fp=>?_)
    ·intro W H hS z;obtain⟨s9,_,h9⟩:=H;exact eL uZ (vs:=[p9 T.h,I Y (n:Int)]) _ Z Z Z h9.u (fun v W' a ho=>⟨[v],Z,a,ApR.b a,ho⟩)
    simp only[wj,EV,Fe,Fc,Nat.reduceAdd];refine RE.b Z Z ?_ (fun dg=>?_)
    ·intro W H hS z;obtain⟨x,rfl⟩:∃x:Wb wr,W=x.1:=hS Z;exact iH uZ (p:=C) (n:=y) (c:=D) (w4:=wr) (vs:=[p9 T.h,I Y (n:Int)]) (xs:=us) _ _ Z Z (z 13 fp (by kernel_rfl) Z) Z (by simp[Value.oneCell']) x.2 da.o (by omega) (fun v' W' R h2 h3=>⟨[v'],Z,R,h2,h3⟩)
    simp only[wj,EV,Fe,Fc,Nat.reduceAdd];refine RE.q ?_;intro W hS z;have hS:ApS 41 2 wr C y D (us++[p9 T.h,I Y (n:Int)]) W:=hS;have hV:ApV 41 2 wr C y D (us++[p9 T.h,I Y (n:Int)]) W (dg.getD 0 tT):=z 14 dg Z;obtain⟨g',cap,eg,X,H,bn⟩:=jq hS hV;rw[eg];have dr:Chg (fun b=>(O C ts.length D).ownBlock=A b) wr W:=by rw[HN.o];exact H
    have b4:(O C ts.length D).ownBlock=A g'∨wr.heap.size≤g':=by rw[HN.o];exact X
    have ds:cN.at_ wr F ⟨T.h,(n:Int)⟩ [p9 T.h,I Y (n:Int)]:=fW.2 ⟨Z,er,by show (-9223372036854775808:Int)≤(n:Int);omega,by show (n:Int)<9223372036854775808;omega⟩;obtain⟨dv,en,b5⟩:=N.o.pushT HN.o fm.o ds b4 dr bn;obtain⟨y2,y3,y4,y5,y6,y7,hm⟩:=N.o.m;have gb:W.cell? ⟨M,0,V⟩=A (O C y D):=by rw[FR _ _ _ _ _ _ (b5.trans hm),←HN.o];rfl
    have gf:=bM (b5.trans hm) 0;have HP:Hid (nL F d M rs (O C ts.length D) vR (vb (ts++[⟨T.h,(n:Int)⟩])) w (tF (wF #[])) (W.setCell ⟨M,0,V⟩ (O (A ⟨g',0,V⟩) (y+1) cap))):=by
     refine⟨dz (Chg.b u.o) en (fun x hx=>tE hx),Z,_,dv,fun b a=>?_⟩;injection a with a
     have a:g'=b:=a;subst a;rcases b4 with h|h
     ·exact tE h
     ·have:=u.o.size;exact tS (by omega)
    clear hS hV z eg X H bn dr b4 dv en b5 E1 E4 M0 dc ds hm;go_wp2_with fail
    go_end0
    rw[c8.o];exact HP.o
structure lx (d:Nat) (K:ah):Prop where
 q:I64 K.q
 u:K.u.length≤10000
 c:K.b=5∨K.b=6→∀k∈K.u,(k.b=12∨k.b=13∨k.b=14∨k.b=15)∧k.h.size≤72007
 a:K.b=7→∃t r,K.u=t::r∧eW d t
 y:K.b=8∨K.b=10→∀k∈K.u,eW d k
def fx(d:Nat) (ts:List ap) (vars:List ByteArray) (K:ah):Except Flt (List ByteArray×aK):=
 if K.b==5 then dX r5 1 (dI ts K) vars K.u
 else if K.b==6 then dX r7 2 (dI ts K) vars K.u
 else match K.u with
  | []=>wD (0,0)
  | t::_=>jC vars (bo vars d t)
def iV(d:Nat) (ts:List ap) (vars:List ByteArray) (cs:List aK) (K:ah):Except Flt bm:=
 if K.b==8 then jM (dI ts K) (dx (bo vars d) K.u)
 else if K.b==9 then ig cs K
 else if K.b==10 then mE (dx (bo vars d) K.u)
 else vb ⟨4,0,0,[]⟩
theorem rO{d:Nat}{ts:List ap}{s:RSt}{K:ah}(h:de K=r5)(c:lx d K):dy d ts s K=match fx d ts s.b K with | .error e=>wD e | .ok x=>vb ⟨x.1,s.d++[x.2],s.e⟩:=by
 have a:K.b=5∨K.b=6∨K.b=7:=by
  unfold de at h
  simpa using h
 rcases a with a|a|a
 ·unfold dy fx dX;simp only[a]
  cases dI ts K with
  | error e=>rfl
  | ok k =>
   dsimp only
   show (match bs (dD r5) (s.b,[]) K.u with | .error e=>_ | .ok r=>_)=_
   cases bs (dD r5) (s.b,[]) K.u<;>rfl
 ·unfold dy fx dX;simp only[a]
  cases dI ts K with
  | error e=>rfl
  | ok k =>
   dsimp only
   show (match bs (dD r7) (s.b,[]) K.u with | .error e=>_ | .ok r=>_)=_
   cases bs (dD r7) (s.b,[]) K.u<;>rfl
 ·obtain⟨t,r,b,_⟩:=c.a a;unfold dy fx jC;simp only[a,b]
  show (match bo s.b d t with | .error e=>_ | .ok x=>_)=_
  cases bo s.b d t<;>rfl
theorem vz{d:Nat}{ts:List ap}{s:RSt}{K:ah}(h:de K=r7):dy d ts s K=match iV d ts s.b s.d K with | .error e=>wD e | .ok x=>vb ⟨s.b,s.d,s.e++[x]⟩:=by
 have b:K.b≠5∧K.b≠6∧K.b≠7:=by
  unfold de at h
  simpa using h
 have i:(K.b==5)=false:=by simpa using b.1
 have j:(K.b==6)=false:=by simpa using b.2.1
 have l:(K.b==7)=false:=by simpa using b.2.2
 unfold dy iV;rw[i,j,l];simp only[Bool.or_self,Fx,oX]
 by_cases f:K.b=8
 ·simp only[f];unfold jM
  show (match dI ts K with | .error e=>_ | .ok k=>_)=_
  cases dI ts K with
  | error e=>rfl
  | ok k =>
   show (match dx (bo s.b d) K.u with | .error e=>_ | .ok xs=>_)=_
   cases dx (bo s.b d) K.u<;>rfl
 ·have m:(K.b==8)=false:=by simpa using f
  rw[m];simp only[Fx,oX]
  by_cases g:K.b=9
  ·simp only[g];unfold ig
   show (if K.q<1||decide ((eb s.d:Int)<K.q) then _ else _)=_
   split<;>rfl
  ·have n:(K.b==9)=false:=by simpa using g
   rw[n];simp only[Fx,oX]
   by_cases a:K.b=10
   ·simp only[a];unfold mE
    show (match dx (bo s.b d) K.u with | .error e=>_ | .ok xs=>_)=_
    cases dx (bo s.b d) K.u<;>rfl
   ·have c:(K.b==10)=false:=by simpa using a
    rw[c];rfl
theorem po{ts:List ap}{K:ah}{k:Nat}(a:ts.length≤10000)(h:dI ts K=vb k):k≤10000:=by
 unfold dI at h
 split at h
 ·cases h
 ·rename_i c b
  have:=oz b
  split at h
  ·injection h with h;omega
  ·cases h
section
variable {F:Nat→Prop} {d M:Nat} {ts:List ap} {rs:List au} {vars:List ByteArray} {nm:ByteArray} {sal nv:Int} {cs:List aK} {acs:List bm} {vT vR vV vC vA:r3} {w:p7}
theorem MkG.row_t(h:MkW F d M ts rs vars nm sal nv cs acs vT vR vV vC vA w):cN.y w (fun b=>b<w.heap.size) ts vT:=h.t.y (fun b a=>(h.f b a).1) (fun _g c=>h.t.lt c)
theorem MkG.typed(h:MkW F d M ts rs vars nm sal nv cs acs vT vR vV vC vA w)(K:ah){s:r3}(a:∃p c,s=O p K.u.length c)(b:K.u.length≤10000):r9 r6 107 #[tv (A ⟨M,0,V⟩),s3 #[I J K.b,p9 K.h,I Y K.q,I Y K.t,s]] w (nQ (dI ts K) lG w):=by
 obtain⟨p,c,rfl⟩:=a;exact Ag ts K p c vT _ M w h.row_t (fun _ h=>h) (by rw[FR _ _ _ _ _ _ h.m];rfl) (by omega)
theorem MkG.y(h:MkW F d M ts rs vars nm sal nv cs acs vT vR vV vC vA w){Ks:List ah}{s:r3}(a:aF w w.heap.size (d+1) Ks s)(e:Ks.length≤10000)(b:∀k∈Ks,eW d k):r9 r6 110 #[tv (A ⟨M,0,V⟩),s] w (jz d (dx (bo vars d) Ks) w):=
 nj d M vars vV (bo vars d) Ks s w h.vars a (by omega) (fun T c s W hv _ a=>vd M vars vV d T s W hv (b T c) a)
end
def rp(F:Nat→Prop) (d M:Nat) (ts:List ap) (rs:List au) (vars:List ByteArray) (nm:ByteArray) (sal nv:Int) (cs:List aK) (acs:List bm) (vT vR vV vC vA:r3) (K:ah) (w:p7) (e:Ending) (w':p7):Prop:=
 if de K then kD F d M ts rs nm sal nv cs acs vT vR vV vC vA (fx d ts vars K) w e w'
 else e=tF (ur r7)∧FS w w'∧MkW F d M ts rs vars nm sal nv cs acs vT vR vV vC vA w'
theorem CB(F:Nat→Prop)(d M:Nat)(ts:List ap)(rs:List au)(vars:List ByteArray)(nm:ByteArray)(sal nv:Int)(cs:List aK)(acs:List bm)(vT vR vV vC vA:r3)(K:ah)(s:r3)(u:Nat)(w:p7)
  (hw:MkW F d M ts rs vars nm sal nv cs acs vT vR vV vC vA w) (i:cs.length≤10000) (v:vars.length≤16) (x:ts.length≤10000) (j:lx d K) (f:aF w u (d+1) K.u s) (g:u≤w.heap.size) (D:∀b,bf M [vT,vR,vV,vC,vA] b→u≤b) :
  r9 r6 51 #[tv (A ⟨M,0,V⟩),s3 #[I J K.b,p9 K.h,I Y K.q,I Y K.t,s]] w (rp F d M ts rs vars nm sal nv cs acs vT vR vV vC vA K w):=by
 obtain⟨p,c,y⟩:=f.t;unfold rp
 by_cases n:K.b=5
 ·have l:de K=true:=by unfold de;rw[n];rfl
  rw[l];simp only[o4];have e:fx d ts vars K=dX r5 1 (dI ts K) vars K.u:=by unfold fx;rw[n];rfl
  rw[e];subst y
  exact rZ 5 1 r5 (tE ⟨Z,Z,Z⟩) F d M ts rs vars nm sal nv cs acs vT vR vV vC vA K K.u p K.u.length c u d (dI ts K) w hw (by omega) i v Z j.u (fun k h=>po x h) f g D (j.c (tE n)) (fun W m=>by
   have:=(hw.C m).typed K ⟨p,c,Z⟩ j.u;rw[n]at this
   exact this)
 by_cases o:K.b=6
 ·have l:de K=true:=by unfold de;rw[o];rfl
  rw[l];simp only[o4];have e:fx d ts vars K=dX r7 2 (dI ts K) vars K.u:=by unfold fx;rw[o];rfl
  rw[e];subst y
  exact rZ 6 2 r7 (tS ⟨Z,Z,Z⟩) F d M ts rs vars nm sal nv cs acs vT vR vV vC vA K K.u p K.u.length c u d (dI ts K) w hw (by omega) i v Z j.u (fun k h=>po x h) f g D (j.c (tS o)) (fun W m=>by
   have:=(hw.C m).typed K ⟨p,c,Z⟩ j.u;rw[o]at this
   exact this)
 by_cases q:K.b=7
 ·have l:de K=true:=by unfold de;rw[q];rfl
  rw[l];simp only[o4];obtain⟨t,r,a,z⟩:=j.a q;have e:fx d ts vars K=jC vars (bo vars d t):=by unfold fx;rw[q,a];rfl
  rw[e];have E:=f;rcases f with ⟨L,_⟩|⟨b,off,cap,N,P,Q,R,he,B⟩
  ·rw[L]at a;cases a
  subst he;obtain⟨G,st,c0,c1,c2,H,c4,C⟩:=B 0 t (by rw[a];rfl);simp only[Nat.zero_mul,Nat.add_zero]at c0 c1 c2 H c4;exact zr F d M ts rs vars nm sal nv cs acs vT vR vV vC vA K t b off cap st (bo vars d t) K.u.length w hw q i (by rw[a];simp) c0 c1 c2 H c4 (fun W m=>vd M vars vV d t st W (hw.C m).vars z ((C.C (m.mono g)).up (EZ g m.size)))
 ·have l:de K=false:=by unfold de;simp[n,o,q]
  rw[l];simp only[Fx,oX];subst y;exact A9 F d M ts rs vars nm sal nv cs acs vT vR vV vC vA K p K.u.length c w hw ⟨n,o,q⟩
theorem DG(F:Nat→Prop)(d M:Nat)(ts:List ap)(rs:List au)(vars:List ByteArray)(nm:ByteArray)(sal nv:Int)(cs:List aK)(acs:List bm)(vT vR vV vC vA:r3)(K:ah)(s:r3)(r:Nat)(w:p7)
  (hw:MkW F d M ts rs vars nm sal nv cs acs vT vR vV vC vA w) (n:cs.length≤10000) (b:acs.length≤10000) (o:ts.length≤10000) (l:lx d K) (g:aF w r (d+1) K.u s) (i:r≤w.heap.size) :
  r9 r6 52 #[tv (A ⟨M,0,V⟩),s3 #[I J K.b,p9 K.h,I Y K.q,I Y K.t,s]] w (iF F d M ts rs vars nm sal nv cs acs vT vR vV vC vA (iV d ts vars cs K) w):=by
 obtain⟨p,c,u⟩:=g.t;have hex:∀(t:K.b=8∨K.b=10) W,FS w W→r9 r6 110 #[tv (A ⟨M,0,V⟩),s] W (jz d (dx (bo vars d) K.u) W):=fun t W j=>(hw.C j).y ((g.C (j.mono i)).up (EZ i j.size)) l.u (l.y t)
 subst u
 by_cases f:K.b=8
 ·have e:iV d ts vars cs K=jM (dI ts K) (dx (bo vars d) K.u):=by unfold iV;rw[f];rfl
  rw[e]
  exact Ai F d M ts rs vars nm sal nv cs acs vT vR vV vC vA K p K.u.length c (dI ts K) _ w hw f b (fun k h=>po o h) (fun W j=>by
   have:=(hw.C j).typed K ⟨p,c,Z⟩ l.u;rw[f]at this
   exact this) (hex (tE f))
 by_cases m:K.b=9
 ·have e:iV d ts vars cs K=ig cs K:=by unfold iV;rw[m];rfl
  rw[e];exact Bm F d M ts rs vars nm sal nv cs acs vT vR vV vC vA K p K.u.length c w hw m b n l.q
 by_cases a:K.b=10
 ·have e:iV d ts vars cs K=mE (dx (bo vars d) K.u):=by unfold iV;rw[a];rfl
  rw[e];exact D1 F d M ts rs vars nm sal nv cs acs vT vR vV vC vA K p K.u.length c _ w hw a b (hex (tS a))
 ·have e:iV d ts vars cs K=vb ⟨4,0,0,[]⟩:=by
   unfold iV;have v:(K.b==8)=false:=by simpa using f
   have x:(K.b==9)=false:=by simpa using m
   have q:(K.b==10)=false:=by simpa using a
   rw[v,x,q];rfl
  rw[e];exact zt F d M ts rs vars nm sal nv cs acs vT vR vV vC vA K p K.u.length c w hw ⟨f,m,a⟩ b
