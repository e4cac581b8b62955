/- Parts of one proof, joined; conditions stand in each theorem. -/
import Derived.Test.YtoonjedifockoaaGreatDoorNK
namespace Go.Proofs.YtoonjedifockoaaGreatDoor
open Go.IntKind(i64)
open Go.Value(int string slice)
set_option maxHeartbeats 8000000
set_option maxRecDepth 100000
open Go.RowKit
def eQ(ts:List ai) (T:ac):Except Flt (List ai):=
 if (dn T.text ts).isSome then .error (210,T.place)
 else if 32≤ts.length||6<T.kids.length then .error (204,T.place)
 else match bG fieldStep [] T.kids with
  | .error e=>.error e
  | .ok _=>.ok (ts++[⟨T.text,T.kids.length⟩])
theorem od:∀(l:List ac) (s b:List ByteArray),bG fieldStep s l=.ok b→b=s++l.map ac.text
 | [],s,b,h=>by injection h with h;rw[←h];simp
 | K::l,s,b,h=>by
  unfold bG at h
  cases a:fieldStep s K with
  | error e=>rw[a]at h;cases h
  | ok s1 =>
   rw[a]at h;unfold fieldStep at a
   split at a
   ·cases a
   ·injection a with a
    rw[od l s1 b h,←a];simp
theorem ux:Elem 40 22 2 24:=Elem.of (z:=.agg #[.string ByteArray.empty,int i64 0]) Tryz.underlying22 (by kernel_rfl) (by kernel_rfl) (by decide) (by decide)
def np(F:Nat→Prop) (d M:Nat) (rs:List aj) (vT vR:Value) (r:Except Flt (List ai)) (w:World) (e:Ending) (w':World):Prop:=
 Chg (aL M [vT,vR]) w w'∧match r with
 | .ok b=>e=.returned (.tuple #[])∧∃a,MkB F d M b rs a vR w'∧Grew vT a w.heap.size
 | .error er=>e=aJ er.1 er.2
theorem aD.taken{w:World}{B d:Nat}{Ts:List ac}{p:Option Addr}{n c k:Nat}(h:aD w B (d+1) Ts (.slice p n c))(o:k≤Ts.length):aD w B (d+1) (Ts.take k) (.slice p k c):=by
 rcases h with ⟨rfl,sp,cap,he⟩|⟨b,off,cap,t,q,u,r,he,s⟩
 ·injection he with f l g
  subst f;subst g;have:k=0:=by simpa using o
  subst this;exact Or.inl ⟨rfl,_,_,rfl⟩
 ·injection he with f l g
  subst f;subst l;subst g
  by_cases m:k=0
  ·subst m;exact Or.inl ⟨rfl,_,_,rfl⟩
  ·have j:(Ts.take k).length=k:=by rw[List.length_take];omega
   refine Or.inr ⟨b,off,c,fun e=>by rw[e]at j;exact m j.symm,q,by omega,r,by rw[j],fun i T a=>s i T ?_⟩;rw[List.getElem?_take]at a
   split at a
   ·exact a
   ·cases a
theorem xm(b off n c m:Nat)(hm:m≤c)(W:World):(Instr.slice 74 (slice (some ⟨b,off,none⟩) n c) none (some (int i64 (m:Int))) none).run Tryz.prog W=.ok (slice (some ⟨b,off,none⟩) m c) W:=by
 rw[run_slice_h W 74 (some ⟨b,off,none⟩) n c (by kernel_rfl) i64 m (by omega) (by omega)];rw[show (sizeOf (Tryz.prog.elem 74)).run Tryz.prog W=.ok 5 W from by kernel_rfl]
 show Result.ok (sliced _ _ _ _ _) W=_
 unfold sliced;rw[Int.toNat_natCast]
 by_cases a:c=0
 ·subst a;obtain rfl:m=0:=by omega
  rfl
 ·rw[n8 a];simp[Addr.add]
def uM(w:World) (F:Nat→Prop) (d M:Nat) (ts:List ai) (rs:List aj) (vT vR:Value) (T:ac) (a:Value) (n:Nat) (i:Value) (W:World):Prop:=
 ∃(j:Nat) (s:List ByteArray),j≤n∧i=int i64 (j:Int)∧bG fieldStep [] (T.kids.take j)=.ok s∧Ft w W∧W.heap[w.heap.size]?=some (.cells #[int .u8 2,.string T.text,int i64 T.num,int i64 T.place,a] 76 (0,0))∧MkB F d M ts rs vT vR W
theorem zn(F:Nat→Prop)(d M:Nat)(ts:List ai)(rs:List aj)(vT vR:Value)(T:ac)(p:Option Addr)(n c dd:Nat)(w:World)
  (hw:MkB F d M ts rs vT vR w) (hk:T.kind=2) (da:ts.length≤10000) (b0:T.kids.length=n) (hn:n≤10000) (ar:aD w w.heap.size (dd+1) T.kids (.slice p n c)) (dc:T.text.size≤maxLen) :
  Calls Tryz.prog 52 #[.pointer (some ⟨M,0,none⟩),.agg #[int .u8 T.kind,.string T.text,int i64 T.num,int i64 T.place,.slice p n c]] w (np F d M rs vT vR (eQ ts T) w):=by
 rw[hk];change Calls Tryz.prog 52 #[.pointer (some ⟨M,0,none⟩),.agg #[int .u8 2,.string T.text,int i64 T.num,int i64 T.place,.slice p n c]] w _;obtain⟨C,D,dg⟩:=hw.t.shape;subst dg;obtain⟨z,X⟩:=zzy (ts.length);have HN:=Hd X;rw[X]at da;obtain⟨w1,av⟩:=zzx (w.alloc (.cells #[int .u8 2,.string T.text,int i64 T.num,int i64 T.place,.slice p n c] 76));have Q:Ft w w1:=by rw[av];exact (EB _ w).alloc (EA _) _
 have bc:w1.heap[w.heap.size]?=some (.cells #[int .u8 2,string T.text,int i64 T.num,int i64 T.place,slice p n c] 76 (0,0)):=by rw[av];exact n7 w _
 have bd:=Hd bc;have u:=Hd Q;have b1:=Hd (hw.below Q);have b2:=Hd (fun g R=>hw.t.lt (g:=g) R);have Y:=Hd ar;have G:=Hd b0;obtain⟨S,bk⟩:=zzx (dR (dn T.text ts));have Z:Hid (decide ((0:Int)≤S)=(dn T.text ts).isSome):=by
  show _=_
  rw[bk]
  cases dn T.text ts with
  | none=>rfl
  | some k=>show decide ((0:Int)≤(k:Int))=true;simp
 have a1:=Hd (fun (W:World) (h:Ft w1 W)=>oQ ts T.text _ _ M W ((hw.below Q).below h).row_t (fun _ h=>h) ((hw.below Q).below h).cells.1);rw[←bk]at a1;obtain⟨e0,e1,e2,e3,e4⟩:=cells5 bc;have U:w1.cell? ⟨M,0,none⟩=some (.slice C z D):=by rw[(hw.below Q).cells.1,X]
 have E0:=fun x:Wb w1=>x.cell e0
 have E1:=fun x:Wb w1=>x.cell e1
 have E2:=fun x:Wb w1=>x.cell e2
 have E3:=fun x:Wb w1=>x.cell e3
 have E4:=fun x:Wb w1=>x.cell e4
 have MT:=fun x:Wb w1=>x.cell U
 clear bc Q hw hk ar b0 bk
 go_enter Tryz.func52,Tryz.ntmps52
 go_upto_region 1 with fail
 change Code.wp _ _ _ _ (w.alloc (.cells #[int .u8 2,.string T.text,int i64 T.num,int i64 T.place,.slice p n c] 76));rw[←av];clear av
 go_cut [] from 6 to 31 (fun W2=>Ft w W2∧W2.heap[w.heap.size]?=some (.cells #[int .u8 2,string T.text,int i64 T.num,int i64 T.place,slice p n c] 76 (0,0))∧MkB F d M ts rs (.slice C ts.length D) vR W2∧(dn T.text ts).isSome=false∧(32≤z||6<n)=false)
 case first =>
  have hA:(dn T.text ts).isSome=true→eQ ts T=.error (210,T.place):=fun h=>by unfold eQ;rw[n9 h]
  have hB:(dn T.text ts).isSome=false→(decide (32≤z)||decide (6<n))=true→eQ ts T=.error (204,T.place):=fun h h2=>by
   unfold eQ;rw[h,n8 (by decide),n9 (by rw[HN.o,G.o];exact h2)]
  have HA:=Hd hA;have b3:=Hd hB;clear hA hB X
  by_cases b4:32≤z
  ·have b5:(32:Int)≤z:=by omega
   have ad:Hid (32≤z):=b4;refine RE.wp_region_eff (by kernel_rfl) 25 [6,24] [] (fun _ W=>∃x:Wb w1,W=x.1) (fun W W'=>Ft W W') (fun i q=>if i=6 then int i64 (S:Int) else q.getD 0 undef) (fun i W q=>if i=24 then cz w1.heap.size [(decide ((0:Int)≤S),210),(true,204)] W (q.getD 0 undef) else True) (by kernel_rfl) (fun _ _ _ _ _ _ h a=>ci h a) (fun i W W' q h _ a=>by split at h;(rw[n9 (by assumption)];exact h.below a);rw[n8 (by assumption)];trivial) ⟨⟨w1.drew,(EB _ _).drew⟩,rfl⟩ ?_;simp only[EK,ET,EL,ES]
   repeat (refine RE.wpE_read (fun W=>∃x:Wb w1,W=x.1) (fun _ _ _ h=>h) rfl rfl rfl ⟨⟨w1.drew,(EB _ _).drew⟩,rfl⟩ ?_;go_big_quiet_step (fail);refine wpQuiet_nil ?_)
   refine RE.wpE_turn rfl rfl ?_ (fun b6=>?_)
   ·intro W H _ A;obtain⟨s9,_,x,rfl⟩:=H;refine RE.upon_call 15 _ _ rfl (enters_of Tryz.func15 (by kernel_rfl) rfl) #[.pointer (some ⟨M,0,none⟩),.string T.text] (by simp[Act.eval]) ((a1.o x.1 x.2).mono ?_);rintro e W' ⟨rfl,a⟩;exact⟨_,rfl,[],rfl,a,a,trivial⟩
   simp only[Act.put,EC,EI,EH,Nat.reduceAdd,↓reduceIte]
   repeat (refine RE.wpE_read (fun W=>∃x:Wb w1,W=x.1) (fun _ _ _ h=>h) rfl rfl rfl ⟨⟨w1.drew,(EB _ _).drew⟩,rfl⟩ ?_;go_big_quiet_step (fail);refine wpQuiet_nil ?_)
   refine RE.wpE_turn rfl rfl ?_ (fun q=>?_)
   ·intro W H _ A;obtain⟨s9,_,x,rfl⟩:=H;exact gV _ _ 210 204 _ _ rfl rfl rfl x.2.size (fun v W' a ho=>⟨[v],rfl,a,a,ho⟩)
   simp only[Act.put,EC,EI,EH,Nat.reduceAdd,Nat.reduceEqDiff,↓reduceIte];refine RE.wpE_nil ?_;intro W V A;obtain⟨x,rfl⟩:=V;obtain⟨g,eg,lg,R⟩:cz w1.heap.size [(decide ((0:Int)≤S),210),(true,204)] x.1 (q.getD 0 undef):=A 24 q rfl;rw[eg];have af:=Hd (bV [(decide ((0:Int)≤S),210),(true,204)] 2 T.text T.num T.place (.slice p n c) g 2 2 x.1 rfl (by omega) R);have I:=Hd x.2;clear A eg lg R E0 E1 E2 E3 E4 MT;go_wp2_with fail
   refine af.o.mono ?_;rintro e W2 ⟨r,he⟩;have f:=I.o.trans (r.mono I.o.size);clear r
   cases O:decide ((0:Int)≤S) with
   | true =>
    rw[O]at he;have he:e=aJ 210 T.place:=he;subst he;refine⟨rfl,Chg.of_below (u.o.trans (f.mono u.o.size)),?_⟩;rw[HA.o (Z.o.symm.trans O)];rfl
   | false =>
    rw[O]at he;have he:e=aJ 204 T.place:=he;subst he;refine⟨rfl,Chg.of_below (u.o.trans (f.mono u.o.size)),?_⟩;rw[b3.o (Z.o.symm.trans O) (by rw[decide_eq_true ad.o];rfl)];rfl
  ·have b5:¬(32:Int)≤z:=by omega
   have ad:Hid (¬32≤z):=b4;refine RE.wp_region_eff (by kernel_rfl) 25 [6,24] [] (fun _ W=>∃x:Wb w1,W=x.1) (fun W W'=>Ft W W') (fun i q=>if i=6 then int i64 (S:Int) else q.getD 0 undef) (fun i W q=>if i=24 then cz w1.heap.size [(decide ((0:Int)≤S),210),(decide ((6:Int)<n),204)] W (q.getD 0 undef) else True) (by kernel_rfl) (fun _ _ _ _ _ _ h a=>ci h a) (fun i W W' q h _ a=>by split at h;(rw[n9 (by assumption)];exact h.below a);rw[n8 (by assumption)];trivial) ⟨⟨w1.drew,(EB _ _).drew⟩,rfl⟩ ?_;simp only[EK,ET,EL,ES]
   repeat (refine RE.wpE_read (fun W=>∃x:Wb w1,W=x.1) (fun _ _ _ h=>h) rfl rfl rfl ⟨⟨w1.drew,(EB _ _).drew⟩,rfl⟩ ?_;go_big_quiet_step (fail);refine wpQuiet_nil ?_)
   refine RE.wpE_turn rfl rfl ?_ (fun b6=>?_)
   ·intro W H _ A;obtain⟨s9,_,x,rfl⟩:=H;refine RE.upon_call 15 _ _ rfl (enters_of Tryz.func15 (by kernel_rfl) rfl) #[.pointer (some ⟨M,0,none⟩),.string T.text] (by simp[Act.eval]) ((a1.o x.1 x.2).mono ?_);rintro e W' ⟨rfl,a⟩;exact⟨_,rfl,[],rfl,a,a,trivial⟩
   simp only[Act.put,EC,EI,EH,Nat.reduceAdd,↓reduceIte]
   repeat (refine RE.wpE_read (fun W=>∃x:Wb w1,W=x.1) (fun _ _ _ h=>h) rfl rfl rfl ⟨⟨w1.drew,(EB _ _).drew⟩,rfl⟩ ?_;go_big_quiet_step (fail);refine wpQuiet_nil ?_)
   refine RE.wpE_turn rfl rfl ?_ (fun q=>?_)
   ·intro W H _ A;obtain⟨s9,_,x,rfl⟩:=H;exact gV _ _ 210 204 _ _ rfl rfl rfl x.2.size (fun v W' a ho=>⟨[v],rfl,a,a,ho⟩)
   simp only[Act.put,EC,EI,EH,Nat.reduceAdd,Nat.reduceEqDiff,↓reduceIte];refine RE.wpE_nil ?_;intro W V A;obtain⟨x,rfl⟩:=V;obtain⟨g,eg,lg,R⟩:cz w1.heap.size [(decide ((0:Int)≤S),210),(decide ((6:Int)<n),204)] x.1 (q.getD 0 undef):=A 24 q rfl;rw[eg];have af:=Hd (bV [(decide ((0:Int)≤S),210),(decide ((6:Int)<n),204)] 2 T.text T.num T.place (.slice p n c) g 2 2 x.1 rfl (by omega) R);have I:=Hd x.2;clear A eg lg R E0 E1 E2 E3 E4 MT;go_wp2_with fail
   refine af.o.mono ?_;rintro e W2 ⟨r,he⟩;have f:=I.o.trans (r.mono I.o.size);clear r
   cases O:decide ((0:Int)≤S) with
   | true =>
    rw[O]at he;have he:e=aJ 210 T.place:=he;subst he;refine⟨rfl,Chg.of_below (u.o.trans (f.mono u.o.size)),?_⟩;rw[HA.o (Z.o.symm.trans O)];rfl
   | false =>
    rw[O]at he
    cases h2:decide ((6:Int)<n) with
    | true =>
     rw[h2]at he;have he:e=aJ 204 T.place:=he;subst he;refine⟨rfl,Chg.of_below (u.o.trans (f.mono u.o.size)),?_⟩;have h3:6<n:=by have:=oj h2;omega
     rw[b3.o (Z.o.symm.trans O) (by rw[decide_eq_true h3,Bool.or_true])];rfl
    | false =>
     rw[h2]at he;have he:e=.returned (.tuple #[]):=he;subst he;have h3:¬6<n:=by have:=of_decide_eq_false h2;omega
     have HP:Hid (Ft w W2∧W2.heap[w.heap.size]?=some (.cells #[int .u8 2,string T.text,int i64 T.num,int i64 T.place,slice p n c] 76 (0,0))∧MkB F d M ts rs (.slice C ts.length D) vR W2∧(dn T.text ts).isSome=false∧(32≤z||6<n)=false):=
      ⟨u.o.trans (f.mono u.o.size),aa f bd.o (Ez.1 bd.o).1,b1.o.below f,Z.o.symm.trans O,by rw[oc ad.o,oc h3];rfl⟩
     clear O h2 he f e0 e1 e2 e3 e4 U;go_wp2_with fail
     go_meet
     case rel=>exact HP.o
 case rest =>
  obtain⟨b7,bl,b8,b9,a8⟩:=hcut;have ds:=Hd b7;have dv:=Hd bl;have ec:=Hd b8;have ca:Hid (eQ ts T=match bG fieldStep [] T.kids with | .error e=>.error e | .ok _=>.ok (ts++[⟨T.text,T.kids.length⟩])):=by
   show _=_
   unfold eQ;rw[b9,n8 (by decide),n8 (by rw[HN.o,G.o,a8];decide)]
  clear e0 e1 e2 e3 e4 U E0 E1 E2 E3 E4 MT a1 b7 b8 b9 a8 X bd b1 u;obtain⟨e0,e1,e2,e3,e4⟩:=cells5 bl;clear bl;go_wp2_with fail
  go_loopw [35] (uM w F d M ts rs (.slice C ts.length D) vR T (.slice p n c) n) (fun i _=>n-(intOf i).toNat)
  case atStart=>exact⟨0,[],EM _,rfl,rfl,ds.o,dv.o,ec.o⟩
  case round =>
   obtain⟨j,s,hj,rfl,ak,cc,ch,ck⟩:=hrel;have ev:(0:Int)≤j:=by omega
   have bn:=Hd ak;have y:=Hd cc;have P:=Hd ch;have J:=Hd ck;clear ak cc ch ck e0 e1 e2 e3 e4
   by_cases ek:j<n
   ·have e5:(j:Int)<n:=by omega
    obtain⟨K,hK⟩:∃K,T.kids[j]?=some K:=⟨_,EE (by rw[G.o];exact ek)⟩;have ar:=Y.o.below y.o;have cl:=aD.taken (k:=j) (Y.o.below y.o) (by rw[G.o];omega);rcases ar with ⟨h0,_⟩|⟨b,off,cap,O,h2,h3,h4,he,h6⟩
    ·rw[h0]at hK;simp at hK
    rw[G.o]at he h3;injection he with el _ en
    subst el;subst en;obtain⟨cq,sK,c0,c1,c2,c3,c4,cr⟩:=h6 j K hK;obtain⟨ps,a6,rfl⟩:=cr.slice;obtain⟨nk,ct⟩:=zzy (K.kids.length);rw[ct]at c4;have an:s=(T.kids.take j).map ac.text:=by rw[od _ _ _ bn.o];rfl
    obtain⟨bb,bq⟩:=zzx ((idxOf K.text ((T.kids.take j).map ac.text)).isSome);have br:Hid (bG fieldStep [] (T.kids.take (j+1))=if bb then .error (210,K.place) else .ok (s++[K.text])):=by
     show _=_
     rw[fL hK bn.o,bq,←an];rfl
    obtain⟨B,a7⟩:=zzx (wr.alloc (.cells #[int .u8 K.kind,.string K.text,int i64 K.num,int i64 K.place,.slice ps nk a6] 76));have r:Ft wr B:=by rw[a7];exact (EB _ wr).alloc (EA _) _
    have aq:B.heap[wr.heap.size]?=some (.cells #[int .u8 K.kind,.string K.text,int i64 K.num,int i64 K.place,.slice ps nk a6] 76 (0,0)):=by rw[a7];exact n7 wr _
    have cv:=Hd r;have e6:=Hd aq;have bt:=aa r P.o (Ez.1 P.o).1;have e7:=Hd bt;have e8:∀(fn:Fn) (first cap:Array Value) (w:World),(Instr.makeFunc fn first cap).run Tryz.prog w=.ok (.func fn first cap) w:=fun _ _ _ _=>rfl
    have e9:∀W,(Instr.slice 74 (slice (some ⟨b,off,none⟩) n c) none (some (int i64 (j:Int))) none).run Tryz.prog W=.ok (slice (some ⟨b,off,none⟩) j c) W:=fun W=>xm b off n c j (by omega) W
    have cx:=Hd (fun (W:World) (hW:Ft B W)=>zy K.text wr.heap.size (T.kids.take j) (slice (some ⟨b,off,none⟩) j c) dd W ((cl.below ((r.mono y.o.size).trans (hW.mono (EG y.o.size r.size)))).up (EG y.o.size (EG r.size hW.size))) (by rw[List.length_take];omega) (by rw[Fq _ _ _ _ _ _ (aa hW aq (Ez.1 aq).1)];rfl));rw[←bq]at cx;obtain⟨k0,k1,k2,k3,k4⟩:=cells5 aq;obtain⟨n0,n1,n2,n3,n4⟩:=cells5 bt;have K0:=fun x:Wb B=>x.cell k0
    have K1:=fun x:Wb B=>x.cell k1
    have K2:=fun x:Wb B=>x.cell k2
    have K3:=fun x:Wb B=>x.cell k3
    have K4:=fun x:Wb B=>x.cell k4
    have N4:=fun x:Wb B=>x.cell n4
    obtain⟨e0,e1,e2,e3,e4⟩:=cells5 P.o;clear r aq bt an bq cq cr h6 O h2 h3 h4 ct hK cl k0 k1 k2 k3 k4 n0 n1 n2 n3 n4;go_upto_region 5 with fail
    change Code.wp _ _ _ _ (wr.alloc (.cells #[int .u8 K.kind,.string K.text,int i64 K.num,int i64 K.place,.slice ps nk a6] 76));rw[←a7];clear a7 c0 c1 c2 c3 c4 e0 e1 e2 e3 e4;refine RE.wp_region_eff (by kernel_rfl) 9 [6,8] [] (fun _ W=>∃x:Wb B,W=x.1) (fun W W'=>Ft W W') (fun i q=>if i=6 then .bool bb else q.getD 0 undef) (fun i W q=>if i=8 then cz B.heap.size [(bb,210)] W (q.getD 0 undef) else True) (by kernel_rfl) (fun _ _ _ _ _ _ h a=>ci h a) (fun i W W' q h _ a=>by split at h;(rw[n9 (by assumption)];exact h.below a);rw[n8 (by assumption)];trivial) ⟨⟨B.drew,(EB _ _).drew⟩,rfl⟩ ?_;simp only[EK,ET,EL,ES]
    repeat (refine RE.wpE_read (fun W=>∃x:Wb B,W=x.1) (fun _ _ _ h=>h) rfl rfl rfl ⟨⟨B.drew,(EB _ _).drew⟩,rfl⟩ ?_;go_big_quiet_step (fail);refine wpQuiet_nil ?_)
    refine RE.wpE_turn rfl rfl ?_ (fun b6=>?_)
    ·intro W H _ A;obtain⟨s9,_,x,rfl⟩:=H;refine RE.upon_call 79 _ _ rfl (enters_of Tryz.func79 (by kernel_rfl) rfl) #[slice (some ⟨b,off,none⟩) j c,.func (.func 80) #[] #[.pointer (some ⟨wr.heap.size,0,none⟩)]] (by simp[Act.eval]) ((cx.o x.1 x.2).mono ?_);rintro e W' ⟨rfl,a⟩;exact⟨_,rfl,[],rfl,a,a,trivial⟩
    simp only[Act.put,EC,EI,EH,Nat.reduceAdd,↓reduceIte]
    repeat (refine RE.wpE_read (fun W=>∃x:Wb B,W=x.1) (fun _ _ _ h=>h) rfl rfl rfl ⟨⟨B.drew,(EB _ _).drew⟩,rfl⟩ ?_;go_big_quiet_step (fail);refine wpQuiet_nil ?_)
    refine RE.wpE_turn rfl rfl ?_ (fun q=>?_)
    ·intro W H _ A;obtain⟨s9,_,x,rfl⟩:=H;exact jP bb 210 _ rfl rfl x.2.size (fun v W' a ho=>⟨[v],rfl,a,a,ho⟩)
    simp only[Act.put,EC,EI,EH,Nat.reduceAdd,Nat.reduceEqDiff,↓reduceIte];refine RE.wpE_nil ?_;intro W V A;obtain⟨x,rfl⟩:=V;obtain⟨g,eg,lg,R⟩:cz B.heap.size [(bb,210)] x.1 (q.getD 0 undef):=A 8 q rfl;rw[eg];have af:=Hd (bV [(bb,210)] K.kind K.text K.num K.place (.slice ps nk a6) g 1 1 x.1 rfl (by omega) R);have I:=Hd x.2;clear A eg lg R K0 K1 K2 K3 K4 N4;go_wp2_with fail
    refine af.o.mono ?_;rintro e W2 ⟨cA,he⟩;have L:=cv.o.trans ((I.o.trans (cA.mono I.o.size)).mono cv.o.size)
    cases bb with
    | true =>
     have he:e=aJ 210 K.place:=he;subst he;have eo:=gJ br.o;refine⟨rfl,Chg.of_below (y.o.trans (L.mono y.o.size)),?_⟩;rw[ca.o,eo];rfl
    | false =>
     have he:e=.returned (.tuple #[]):=he;subst he;have HR:Hid (uM w F d M ts rs (.slice C ts.length D) vR T (slice (some ⟨b,off,none⟩) n c) n (int i64 ((j+1:Nat):Int)) W2):=
      ⟨j+1,s++[K.text],by omega,rfl,br.o,y.o.trans (L.mono y.o.size),aa L P.o (Ez.1 P.o).1,J.o.below L⟩
     clear cA L br he;go_wp2_with fail
     refine⟨HR.o,?_⟩;simp[intOf];omega
   ·have cC:Hid (eQ ts T=.ok (ts++[⟨T.text,(n:Int)⟩])):=by
     show _=_
     rw[ca.o,←ER (l:=T.kids) (i:=j) (by rw[G.o];omega),bn.o,ER (by rw[G.o];omega),G.o]
    obtain⟨us,N,cR⟩:=J.o.t;rw[HN.o]at N;have N:wr.ownsRow 0 40 2 (.slice C z D) z us:=N;have cV:=Hd N;have er:=Hd cR;have U:wr.cell? ⟨M,0,none⟩=some (.slice C z D):=by rw[J.o.cells.1,HN.o]
    obtain⟨x2,x3,x4,x5,x6,x7,hm⟩:=J.o.m;have hK:∀b,(b=M∨b=w.heap.size)→b<wr.heap.size∧(slice C z D).ownBlock≠some b:=fun b a=>by
     rw[←HN.o];rcases a with rfl|rfl
     ·exact⟨J.o.lt,row_ne hm J.o.t (by decide)⟩
     ·exact⟨(Ez.1 P.o).1,fun e=>by have:=b2.o _ e;omega⟩
    have cW:=Hd (jh (E:=40) (sz:=2) (row:=us++[.string T.text,int i64 (n:Int)]) (K:=fun b=>b=M∨b=w.heap.size) hK);obtain⟨e0,e1,e2,e3,e4⟩:=cells5 P.o;have E1:=fun x:Ks wr (fun b=>b=M∨b=w.heap.size)=>x.cell (Or.inr rfl) e1
    have E4:=fun x:Ks wr (fun b=>b=M∨b=w.heap.size)=>x.cell (Or.inr rfl) e4
    have M0:=fun x:Ks wr (fun b=>b=M∨b=w.heap.size)=>x.cell (Or.inl rfl) U
    clear N cR U hm hK e0 e1 e2 e3 e4;go_upto_region 7 with fail
    refine RE.wp_region_eff (by kernel_rfl) 15 [13,14] [14] (stA 40 2 wr C z D (us++[.string T.text,int i64 (n:Int)])) (ApR wr) (fun _ q=>q.getD 0 undef) (phA 40 2 wr C z D [.string T.text,int i64 (n:Int)] (us++[.string T.text,int i64 (n:Int)]) 13 14) (by kernel_rfl) (fun _ _ _ _ _ _ h a=>h.below a) (fun _ _ _ _ h _ hR=>h.keep hR) stA.zero ?_;simp only[EK,ET,EL,ES]
    repeat (refine RE.wpE_read (fun W=>∃x:Ks wr (fun b=>b=M∨b=w.heap.size),W=x.1) (cW.o _) rfl rfl rfl stA.zero ?_;go_big_quiet_step (fail);refine wpQuiet_nil ?_)
    refine RE.wpE_turn rfl rfl ?_ (fun et=>?_)
    ·intro W H V A;obtain⟨s9,_,h9⟩:=H;exact dB ux (vs:=[.string T.text,int i64 (n:Int)]) _ rfl rfl rfl h9.size (fun v W' a ho=>⟨[v],rfl,a,ApR.of_below a,ho⟩)
    simp only[Act.put,EC,EI,EH,Nat.reduceAdd];refine RE.wpE_turn rfl rfl ?_ (fun c5=>?_)
    ·intro W H V A;obtain⟨x,rfl⟩:∃x:Wb wr,W=x.1:=V rfl;exact fZ ux (p:=C) (n:=z) (c:=D) (w4:=wr) (vs:=[.string T.text,int i64 (n:Int)]) (xs:=us) _ _ rfl rfl (A 13 et (by kernel_rfl) rfl) rfl (by simp[Value.oneCell']) x.2 cV.o (by omega) (fun v' W' O h2 h3=>⟨[v'],rfl,O,h2,h3⟩)
    simp only[Act.put,EC,EI,EH,Nat.reduceAdd];refine RE.wpE_nil ?_;intro W V A;have V:ApS 40 2 wr C z D (us++[.string T.text,int i64 (n:Int)]) W:=V;have hV:ApV 40 2 wr C z D (us++[.string T.text,int i64 (n:Int)]) W (c5.getD 0 undef):=A 14 c5 rfl;obtain⟨g',cap,eg,R,H,ba⟩:=hU V hV;rw[eg];have c6:Chg (fun b=>(slice C ts.length D).ownBlock=some b) wr W:=by rw[HN.o];exact H
    have bB:(slice C ts.length D).ownBlock=some g'∨wr.heap.size≤g':=by rw[HN.o];exact R
    have c7:bo.at_ wr F ⟨T.text,(n:Int)⟩ [.string T.text,int i64 (n:Int)]:=dN.2 ⟨rfl,dc,by show (-9223372036854775808:Int)≤(n:Int);omega,by show (n:Int)<9223372036854775808;omega⟩;obtain⟨c8,c9,bR⟩:=J.o.pushT HN.o er.o c7 bB c6 ba;obtain⟨y2,y3,y4,y5,y6,y7,hm⟩:=J.o.m;have fm:W.cell? ⟨M,0,none⟩=some (.slice C z D):=by rw[Fq _ _ _ _ _ _ (bR.trans hm),←HN.o];rfl
    have fr:=ao (bR.trans hm) 0;have HP:Hid (np F d M rs (.slice C ts.length D) vR (.ok (ts++[⟨T.text,(n:Int)⟩])) w (.returned (.tuple #[])) (W.setCell ⟨M,0,none⟩ (slice (some ⟨g',0,none⟩) (z+1) cap))):=by
     refine⟨cp (Chg.of_below y.o) c9 (fun x hx=>Or.inl hx),rfl,_,c8,fun b a=>?_⟩;injection a with a
     have a:g'=b:=a;subst a;rcases bB with h|h
     ·exact Or.inl h
     ·have:=y.o.size;exact Or.inr (by omega)
    clear V hV A eg R H ba c6 bB c8 c9 bR E1 E4 M0 cW c7 hm;go_wp2_with fail
    go_end0
    rw[cC.o];exact HP.o
structure kW (d:Nat) (K:ac):Prop where
 num:I64 K.num
 kids:K.kids.length≤10000
 args:K.kind=5∨K.kind=6→∀k∈K.kids,(k.kind=12∨k.kind=13∨k.kind=14∨k.kind=15)∧k.text.size≤72007
 test:K.kind=7→∃t r,K.kids=t::r∧eC d t
 exprs:K.kind=8∨K.kind=10→∀k∈K.kids,eC d k
def eX(d:Nat) (ts:List ai) (vars:List ByteArray) (K:ac):Except Flt (List ByteArray×aC):=
 if K.kind==5 then cf true 1 (dw ts K) vars K.kids
 else if K.kind==6 then cf false 2 (dw ts K) vars K.kids
 else match K.kids with
  | []=>.error (0,0)
  | t::_=>iZ vars (bD vars d t)
def ii(d:Nat) (ts:List ai) (vars:List ByteArray) (cs:List aC) (K:ac):Except Flt aT:=
 if K.kind==8 then jf (dw ts K) (dl (bD vars d) K.kids)
 else if K.kind==9 then gr cs K
 else if K.kind==10 then mm (dl (bD vars d) K.kids)
 else .ok ⟨4,0,0,[]⟩
theorem rn{d:Nat}{ts:List ai}{s:RSt}{K:ac}(h:cK K=true)(c:kW d K):dI d ts s K=match eX d ts s.vars K with | .error e=>.error e | .ok x=>.ok ⟨x.1,s.conds++[x.2],s.acts⟩:=by
 have a:K.kind=5∨K.kind=6∨K.kind=7:=by
  unfold cK at h
  simpa using h
 rcases a with a|a|a
 ·unfold dI eX cf;simp only[a]
  cases dw ts K with
  | error e=>rfl
  | ok k =>
   dsimp only
   show (match bG (cX true) (s.vars,[]) K.kids with | .error e=>_ | .ok r=>_)=_
   cases bG (cX true) (s.vars,[]) K.kids<;>rfl
 ·unfold dI eX cf;simp only[a]
  cases dw ts K with
  | error e=>rfl
  | ok k =>
   dsimp only
   show (match bG (cX false) (s.vars,[]) K.kids with | .error e=>_ | .ok r=>_)=_
   cases bG (cX false) (s.vars,[]) K.kids<;>rfl
 ·obtain⟨t,r,b,_⟩:=c.test a;unfold dI eX iZ;simp only[a,b]
  show (match bD s.vars d t with | .error e=>_ | .ok x=>_)=_
  cases bD s.vars d t<;>rfl
theorem uP{d:Nat}{ts:List ai}{s:RSt}{K:ac}(h:cK K=false):dI d ts s K=match ii d ts s.vars s.conds K with | .error e=>.error e | .ok x=>.ok ⟨s.vars,s.conds,s.acts++[x]⟩:=by
 have b:K.kind≠5∧K.kind≠6∧K.kind≠7:=by
  unfold cK at h
  simpa using h
 have i:(K.kind==5)=false:=by simpa using b.1
 have j:(K.kind==6)=false:=by simpa using b.2.1
 have l:(K.kind==7)=false:=by simpa using b.2.2
 unfold dI ii;rw[i,j,l];simp only[Bool.or_self,EW,oi]
 by_cases f:K.kind=8
 ·simp only[f];unfold jf
  show (match dw ts K with | .error e=>_ | .ok k=>_)=_
  cases dw ts K with
  | error e=>rfl
  | ok k =>
   show (match dl (bD s.vars d) K.kids with | .error e=>_ | .ok xs=>_)=_
   cases dl (bD s.vars d) K.kids<;>rfl
 ·have m:(K.kind==8)=false:=by simpa using f
  rw[m];simp only[EW,oi]
  by_cases g:K.kind=9
  ·simp only[g];unfold gr
   show (if K.num<1||decide ((dK s.conds:Int)<K.num) then _ else _)=_
   split<;>rfl
  ·have n:(K.kind==9)=false:=by simpa using g
   rw[n];simp only[EW,oi]
   by_cases a:K.kind=10
   ·simp only[a];unfold mm
    show (match dl (bD s.vars d) K.kids with | .error e=>_ | .ok xs=>_)=_
    cases dl (bD s.vars d) K.kids<;>rfl
   ·have c:(K.kind==10)=false:=by simpa using a
    rw[c];rfl
theorem oR{ts:List ai}{K:ac}{k:Nat}(a:ts.length≤10000)(h:dw ts K=.ok k):k≤10000:=by
 unfold dw at h
 split at h
 ·cases h
 ·rename_i c b
  have:=nV b
  split at h
  ·injection h with h;omega
  ·cases h
section
variable {F:Nat→Prop} {d M:Nat} {ts:List ai} {rs:List aj} {vars:List ByteArray} {nm:ByteArray} {sal nv:Int} {cs:List aC} {acs:List aT} {vT vR vV vC vA:Value} {w:World}
theorem MkW.row_t(h:MkW F d M ts rs vars nm sal nv cs acs vT vR vV vC vA w):bo.row w (fun b=>b<w.heap.size) ts vT:=h.t.row (fun b a=>(h.f b a).1) (fun _g c=>h.t.lt c)
theorem MkW.typed(h:MkW F d M ts rs vars nm sal nv cs acs vT vR vV vC vA w)(K:ac){s:Value}(a:∃p c,s=.slice p K.kids.length c)(b:K.kids.length≤10000):Calls Tryz.prog 111 #[.pointer (some ⟨M,0,none⟩),.agg #[int .u8 K.kind,.string K.text,int i64 K.num,int i64 K.place,s]] w (kY (dw ts K) kG w):=by
 obtain⟨p,c,rfl⟩:=a;exact zR ts K p c vT _ M w h.row_t (fun _ h=>h) (by rw[Fq _ _ _ _ _ _ h.m];rfl) (by omega)
theorem MkW.exprs(h:MkW F d M ts rs vars nm sal nv cs acs vT vR vV vC vA w){Ks:List ac}{s:Value}(a:aD w w.heap.size (d+1) Ks s)(f:Ks.length≤10000)(b:∀k∈Ks,eC d k):Calls Tryz.prog 114 #[.pointer (some ⟨M,0,none⟩),s] w (iV d (dl (bD vars d) Ks) w):=
 mQ d M vars vV (bD vars d) Ks s w h.vars a (by omega) (fun T c s W e _ a=>uy M vars vV d T s W e (b T c) a)
end
def qN(F:Nat→Prop) (d M:Nat) (ts:List ai) (rs:List aj) (vars:List ByteArray) (nm:ByteArray) (sal nv:Int) (cs:List aC) (acs:List aT) (vT vR vV vC vA:Value) (K:ac) (w:World) (e:Ending) (w':World):Prop:=
 if cK K then io F d M ts rs nm sal nv cs acs vT vR vV vC vA (eX d ts vars K) w e w'
 else e=.returned (.bool false)∧Ft w w'∧MkW F d M ts rs vars nm sal nv cs acs vT vR vV vC vA w'
theorem Ce(F:Nat→Prop)(d M:Nat)(ts:List ai)(rs:List aj)(vars:List ByteArray)(nm:ByteArray)(sal nv:Int)(cs:List aC)(acs:List aT)(vT vR vV vC vA:Value)(K:ac)(s:Value)(u:Nat)(w:World)
  (hw:MkW F d M ts rs vars nm sal nv cs acs vT vR vV vC vA w) (i:cs.length≤10000) (v:vars.length≤16) (x:ts.length≤10000) (j:kW d K) (f:aD w u (d+1) K.kids s) (g:u≤w.heap.size) (C:∀b,aL M [vT,vR,vV,vC,vA] b→u≤b) :
  Calls Tryz.prog 82 #[.pointer (some ⟨M,0,none⟩),.agg #[int .u8 K.kind,.string K.text,int i64 K.num,int i64 K.place,s]] w (qN F d M ts rs vars nm sal nv cs acs vT vR vV vC vA K w):=by
 obtain⟨p,c,y⟩:=f.slice;unfold qN
 by_cases l:K.kind=5
 ·have m:cK K=true:=by unfold cK;rw[l];rfl
  rw[m];simp only[oA];have e:eX d ts vars K=cf true 1 (dw ts K) vars K.kids:=by unfold eX;rw[l];rfl
  rw[e];subst y
  exact yC F d M ts rs vars nm sal nv cs acs vT vR vV vC vA K K.kids p K.kids.length c u d (dw ts K) w hw l i v rfl j.kids (fun k h=>oR x h) f g C (j.args (Or.inl l)) (fun W n=>by
   have:=(hw.below n).typed K ⟨p,c,rfl⟩ j.kids;rw[l]at this
   exact this)
 by_cases o:K.kind=6
 ·have m:cK K=true:=by unfold cK;rw[o];rfl
  rw[m];simp only[oA];have e:eX d ts vars K=cf false 2 (dw ts K) vars K.kids:=by unfold eX;rw[o];rfl
  rw[e];subst y
  exact xW F d M ts rs vars nm sal nv cs acs vT vR vV vC vA K K.kids p K.kids.length c u d (dw ts K) w hw o i v rfl j.kids (fun k h=>oR x h) f g C (j.args (Or.inr o)) (fun W n=>by
   have:=(hw.below n).typed K ⟨p,c,rfl⟩ j.kids;rw[o]at this
   exact this)
 by_cases q:K.kind=7
 ·have m:cK K=true:=by unfold cK;rw[q];rfl
  rw[m];simp only[oA];obtain⟨t,r,a,z⟩:=j.test q;have e:eX d ts vars K=iZ vars (bD vars d t):=by unfold eX;rw[q,a];rfl
  rw[e];have D:=f;rcases f with ⟨J,_⟩|⟨b,off,cap,L,N,O,P,he,A⟩
  ·rw[J]at a;cases a
  subst he;obtain⟨E,st,G,H,c2,I,c4,B⟩:=A 0 t (by rw[a];rfl);simp only[Nat.zero_mul,Nat.add_zero]at G H c2 I c4;exact yW F d M ts rs vars nm sal nv cs acs vT vR vV vC vA K t b off cap st (bD vars d t) K.kids.length w hw q i (by rw[a];simp) G H c2 I c4 (fun W n=>uy M vars vV d t st W (hw.below n).vars z ((B.below (n.mono g)).up (EG g n.size)))
 ·have m:cK K=false:=by unfold cK;simp[l,o,q]
  rw[m];simp only[EW,oi];subst y;exact AN F d M ts rs vars nm sal nv cs acs vT vR vV vC vA K p K.kids.length c w hw ⟨l,o,q⟩
theorem Di(F:Nat→Prop)(d M:Nat)(ts:List ai)(rs:List aj)(vars:List ByteArray)(nm:ByteArray)(sal nv:Int)(cs:List aC)(acs:List aT)(vT vR vV vC vA:Value)(K:ac)(s:Value)(r:Nat)(w:World)
  (hw:MkW F d M ts rs vars nm sal nv cs acs vT vR vV vC vA w) (n:cs.length≤10000) (b:acs.length≤10000) (o:ts.length≤10000) (l:kW d K) (g:aD w r (d+1) K.kids s) (i:r≤w.heap.size) :
  Calls Tryz.prog 83 #[.pointer (some ⟨M,0,none⟩),.agg #[int .u8 K.kind,.string K.text,int i64 K.num,int i64 K.place,s]] w (gU F d M ts rs vars nm sal nv cs acs vT vR vV vC vA (ii d ts vars cs K) w):=by
 obtain⟨p,c,u⟩:=g.slice;have hex:∀(t:K.kind=8∨K.kind=10) W,Ft w W→Calls Tryz.prog 114 #[.pointer (some ⟨M,0,none⟩),s] W (iV d (dl (bD vars d) K.kids) W):=fun t W j=>(hw.below j).exprs ((g.below (j.mono i)).up (EG i j.size)) l.kids (l.exprs t)
 subst u
 by_cases f:K.kind=8
 ·have e:ii d ts vars cs K=jf (dw ts K) (dl (bD vars d) K.kids):=by unfold ii;rw[f];rfl
  rw[e]
  exact zU F d M ts rs vars nm sal nv cs acs vT vR vV vC vA K p K.kids.length c (dw ts K) _ w hw f b (fun k h=>oR o h) (fun W j=>by
   have:=(hw.below j).typed K ⟨p,c,rfl⟩ l.kids;rw[f]at this
   exact this) (hex (Or.inl f))
 by_cases m:K.kind=9
 ·have e:ii d ts vars cs K=gr cs K:=by unfold ii;rw[m];rfl
  rw[e];exact A6 F d M ts rs vars nm sal nv cs acs vT vR vV vC vA K p K.kids.length c w hw m b n l.num
 by_cases a:K.kind=10
 ·have e:ii d ts vars cs K=mm (dl (bD vars d) K.kids):=by unfold ii;rw[a];rfl
  rw[e];exact Dw F d M ts rs vars nm sal nv cs acs vT vR vV vC vA K p K.kids.length c _ w hw a b (hex (Or.inr a))
 ·have e:ii d ts vars cs K=.ok ⟨4,0,0,[]⟩:=by
   unfold ii;have v:(K.kind==8)=false:=by simpa using f
   have x:(K.kind==9)=false:=by simpa using m
   have q:(K.kind==10)=false:=by simpa using a
   rw[v,x,q];rfl
  rw[e];exact yY F d M ts rs vars nm sal nv cs acs vT vR vV vC vA K p K.kids.length c w hw ⟨f,m,a⟩ b
