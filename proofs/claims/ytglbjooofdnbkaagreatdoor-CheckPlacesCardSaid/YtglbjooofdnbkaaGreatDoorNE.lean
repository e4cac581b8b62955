/- Several texts joined, each with its own sentence and conditions ahead of it: MkH, MkI, MkJ, MkK. -/
import Derived.Test.YtglbjooofdnbkaaGreatDoorND
import Derived.Maps.Own
import Derived.Maps.Views
namespace Go.Proofs.YtglbjooofdnbkaaGreatDoor
set_option maxHeartbeats 4000000
set_option maxRecDepth 100000
open Go.RowKit Go.Maps
def opsL:List (List UInt8×Int):=[([111,114],10),([97,110,100],9),([60,61],8),([60],7),([33,61],6),([61],5),([42],3),([45],2),([43],1)]
def putL {H:Type}:List (List UInt8×Int)→DataW H
 | []=>.map []
 | p::r=>(putL r).put (.string p.1) (.lit (.int .u8 p.2))
def lookL:List (List UInt8×Int)→List UInt8→Int
 | [],_=>0
 | p::r,t=>if t=p.1 then p.2 else lookL r t
theorem putL_map {H:Type}:∀l:List (List UInt8×Int),IsMap (putL (H:=H) l)
 | []=>⟨[],rfl⟩
 | p::r=>by
  obtain⟨es,h⟩:=putL_map (H:=H) r
  exact⟨_,by rw[putL,h];rfl⟩
theorem putL_at {H:Type}(t:List UInt8):∀l:List (List UInt8×Int),(putL (H:=H) l).atKey (.string t) (.lit (.int .u8 0))=.lit (.int .u8 (lookL l t))
 | []=>rfl
 | p::r=>by
  by_cases h:t=p.1
  ·rw[putL,h,atKey_put_same (putL_map r) (by trivial),lookL,if_pos rfl]
  ·rw[putL,atKey_put_other (fun e=>h (by injection e)),lookL,if_neg h,putL_at t r]
theorem keyedStr:Keyed Tryz.prog 9:=string_keyed Tryz.underlying9
theorem opPut_step {H:Type}{w:World}{b n:Nat}{l:List (List UInt8×Int)}(h:w.ownsMap Tryz.prog 9 (plainElem (H:=H) Tryz.prog 55) b n (putL l))(hn:n<20)(k:ByteArray)(c:Int)(hk:k.size<20)(hc:(Lit.int .u8 c).wf=true) :
  ∃w',(Instr.mapUpdate 186 (.map (some b)) (.string k) (.int .u8 c)).run Tryz.prog w=.ok () w'∧w'.ownsMap Tryz.prog 9 (plainElem (H:=H) Tryz.prog 55) b (n+1) (putL ((k.data.toList,c)::l))∧w.grownBy w' (some b):=
 h.update keyedStr Tryz.underlying186 (by unfold maxLen;omega) (WideMaps.keyOf_string_mk Tryz.underlying9 (by unfold maxLen;omega)) (plainElem_int Tryz.underlying55 hc)
theorem zeroOp (w:World):(zeroValue 55).run Tryz.prog w=.ok (.int .u8 0) w:=by kernel_rfl
theorem ops_look (t:List UInt8)(h1:t≠[62])(h2:t≠[62,61]):opM t 2=(lookL opsL t,false):=by
 have e1:(t==[62])=false:=by simpa using h1
 have e2:(t==[62,61])=false:=by simpa using h2
 unfold opM
 simp only[e1,e2]
 simp only[opsL,lookL]
 by_cases c1:t=[43]
 ·subst c1;rfl
 by_cases c2:t=[45]
 ·subst c2;rfl
 by_cases c3:t=[42]
 ·subst c3;rfl
 by_cases c4:t=[61]
 ·subst c4;rfl
 by_cases c5:t=[33,61]
 ·subst c5;rfl
 by_cases c6:t=[60]
 ·subst c6;rfl
 by_cases c7:t=[60,61]
 ·subst c7;rfl
 by_cases c8:t=[97,110,100]
 ·subst c8;rfl
 by_cases c9:t=[111,114]
 ·subst c9;rfl
 simp[c1,c2,c3,c4,c5,c6,c7,c8,c9]
theorem ops_any (t:ByteArray)(ht:t.size≤maxLen)(w:World):Calls Tryz.prog 88 #[.string t] w fun e w'=>e=.returned (.tuple #[.int .u8 (opM t.data.toList 2).1,.bool (opM t.data.toList 2).2])∧Below w.heap.size w w':=by
 have hmm:=@run_makeMap Tryz.prog
 have h0:(w.alloc (.map #[] 0)).ownsMap Tryz.prog 9 (plainElem (H:=Unit) Tryz.prog 55) w.heap.size 0 (putL []):=World.ownsMap_made _ _ _ _
 obtain⟨w1,r1,o1,g1⟩:=opPut_step h0 (by omega) ⟨#[43]⟩ 1 (by decide) (by decide)
 obtain⟨w2,r2,o2,g2⟩:=opPut_step o1 (by omega) ⟨#[45]⟩ 2 (by decide) (by decide)
 obtain⟨w3,r3,o3,g3⟩:=opPut_step o2 (by omega) ⟨#[42]⟩ 3 (by decide) (by decide)
 obtain⟨w4,r4,o4,g4⟩:=opPut_step o3 (by omega) ⟨#[61]⟩ 5 (by decide) (by decide)
 obtain⟨w5,r5,o5,g5⟩:=opPut_step o4 (by omega) ⟨#[33,61]⟩ 6 (by decide) (by decide)
 obtain⟨w6,r6,o6,g6⟩:=opPut_step o5 (by omega) ⟨#[60]⟩ 7 (by decide) (by decide)
 obtain⟨w7,r7,o7,g7⟩:=opPut_step o6 (by omega) ⟨#[60,61]⟩ 8 (by decide) (by decide)
 obtain⟨w8,r8,o8,g8⟩:=opPut_step o7 (by omega) ⟨#[97,110,100]⟩ 9 (by decide) (by decide)
 obtain⟨w9,r9,o9,g9⟩:=opPut_step o8 (by omega) ⟨#[111,114]⟩ 10 (by decide) (by decide)
 obtain⟨c,hr,hat,hwc⟩:=o9.lookup_int keyedStr Tryz.underlying186 Tryz.underlying55 (zeroOp w9) (WideMaps.keyOf_string_mk Tryz.underlying9 ht)
 have hc:c=lookL opsL t.data.toList:=by
  have e:=putL_at (H:=Unit) t.data.toList opsL
  have e2:=hat.symm.trans e
  injection e2 with e3
  injection e3
 have hb:Below w.heap.size w w9:=by
  have b0:Below w.heap.size w (w.alloc (.map #[] 0)):=(Below.refl _ _).alloc (Nat.le_refl _) _
  have st:∀{a b:World},Below w.heap.size w a→a.grownBy b (some w.heap.size)→Below w.heap.size w b:=fun h g=>h.grown g h.size (fun j hj=>by cases hj;exact Nat.le_refl _)
  exact st (st (st (st (st (st (st (st (st b0 g1) g2) g3) g4) g5) g6) g7) g8) g9
 go_enter Tryz.func88,Tryz.ntmps88
 go_wp2
 ·have e:t.data.toList=[62]:=by rw[←ByteArray.toList_eq];rename_i h;simpa using h
  rw[e]
  exact⟨rfl,_,results_tmp2 rfl _ _ _,rfl,Below.refl _ _⟩
 ·have e:t.data.toList=[62,61]:=by rw[←ByteArray.toList_eq];rename_i h;simpa using h
  rw[e]
  exact⟨rfl,_,results_tmp2 rfl _ _ _,rfl,Below.refl _ _⟩
 ·have n1:t.data.toList≠[62]:=by rw[←ByteArray.toList_eq];rename_i h _;simpa using h
  have n2:t.data.toList≠[62,61]:=by rw[←ByteArray.toList_eq];rename_i h;simpa using h
  rw[ops_look _ n1 n2,←hc]
  exact⟨rfl,_,results_tmp2 rfl _ _ _,rfl,hb⟩
theorem wpList_ap {E S:TypeId}{sz bytes:Nat}(hE:Elem E S sz bytes){w:World}{ops:Array Oper}{rest:List Oper}{o:Oper}{a:Act}{Q:Exit→Act→World→Prop}(hgd:o.guard=none)(s x:Operand)
  (ho:o.op=.call { callee:=.builtin .append,args:=#[s,x],argTypes:=#[S,S] }) {p:Option Addr} {n c g9:Nat} {xs z:List Value} (hs:a.eval s=.slice p n c) (hx:a.eval x=.slice (some ⟨g9,0,none⟩) 1 1)
  (hown:w.ownsRow 0 E sz (.slice p n c) n xs) (hz:w.heap[g9]? = some (.cells z.toArray E (0,0))) (hzl:z.length=sz) (h1:∀u∈z,u.oneCell'=true) (hn:n≤100000)
  (h:∀g cap w',((Value.slice p n c).ownBlock=some g∨w.heap.size≤g)→Chg (fun b=>(Value.slice p n c).ownBlock=some b) w w'→w'.ownsRow 0 E sz (.slice (some ⟨g,0,none⟩) (n+1) cap) (n+1) (xs++z) →
   wpList Tryz.prog ops Q rest (a.put o.dst (.slice (some ⟨g,0,none⟩) (n+1) cap)) w'):wpList Tryz.prog ops Q (o::rest) a w:=by
 obtain⟨i0,zz,hi0,hz0,hz1,hz2,hz3⟩:=hE.info
 have hsm:=hE.small
 have hps:=hE.pos
 have hnews:∀j u,z[j]? = some u→w.cell? ((⟨g9,0,none⟩:Addr).add j)=some u:=fun j u hj=>by
  have e:(⟨g9,0,none⟩:Addr).add j=⟨g9,j,none⟩:=by
   unfold Addr.add
   by_cases h0:j=0
   ·subst h0;rfl
   ·rw[if_neg h0];simp
  rw[e,cell_of_row _ _ _ _ _ _ hz]
  simpa using hj
 have hby:(n+1)*bytes≤140737488355328:=by
  have:=Nat.mul_le_mul (show n+1≤100001 by omega) hsm.2
  omega
 refine wpList_append_both w hgd s x S ho 0 E i0 zz sz bytes hE.und hi0 hz0 hz1 hz2 hz3 hps (.slice p n c) n xs hs hown ⟨g9,0,none⟩ 1 1 z hx (by omega) hnews h1 (by unfold maxLen;omega) hby (Nat.zero_le _) (by decide) ?_
 intro v' w' hown' hcase
 rcases hcase with ⟨g,cap,e1,e2,e3⟩|⟨cap,e1,e2⟩
 ·subst e2
  have ho:(Value.slice p n c).ownBlock=some g:=by rw[e1];rfl
  refine h g cap w' (Or.inl ho) ?_ hown'
  exact⟨e3.os,e3.tape,e3.output,e3.size,fun b hb hne=>e3.block b hb (fun e=>hne (ho.trans e.symm))⟩
 ·subst e1
  exact h _ cap w' (Or.inr (Nat.le_refl _)) (Chg.of_below e2) hown'
theorem elemExpr:Elem 58 56 7 80:=Elem.of (z:=.agg #[.int .u8 0,.int .u8 0,.int .i64 0,.string ByteArray.empty,.int .i64 0,.int .u8 0,.slice none 0 0]) Tryz.underlying56 (by kernel_rfl) (by kernel_rfl) (by decide) (by decide)
theorem KidsAt.slice {w:World}{B:Nat}:∀{d:Nat}{ks:List Tree}{sl:Value},KidsAt w B d ks sl→∃p c,sl=.slice p ks.length c
 | 0,_,_,h=>by
  obtain⟨rfl,p,c,rfl⟩:=h
  exact⟨p,c,rfl⟩
 | _+1,_,_,h=>by
  rcases h with ⟨rfl,p,c,rfl⟩|⟨b,off,cap,_,_,_,_,rfl,_⟩
  ·exact⟨p,c,rfl⟩
  ·exact⟨_,_,rfl⟩
def Spare:Nat→Tree→Prop
 | 0,T=>T.text.size≤72007
 | d+1,T=>T.text.size≤72007∧T.kids.length≤20000∧∀k∈T.kids,Spare d k
theorem Spare.text:∀{d:Nat}{T:Tree},Spare d T→T.text.size≤72007
 | 0,_,h=>h
 | _+1,_,h=>h.1
structure VarW (M:Nat) (vars:List ByteArray) (vV:Value) (w:World):Prop where
 m:w.cell? ⟨M,2,none⟩=some vV
 lt:M<w.heap.size
 v:Rd.str.row w (fun b=>b<w.heap.size) vars vV
theorem VarW.below {M:Nat}{vars:List ByteArray}{vV:Value}{w w':World}(h:VarW M vars vV w)(hb:Below w.heap.size w w'):VarW M vars vV w':=
 ⟨(hb.cell (p:=⟨M,2,none⟩) h.lt).trans h.m,Nat.lt_of_lt_of_le h.lt hb.size,Rd.row_sub (fun _ hb2=>Nat.lt_of_lt_of_le hb2 hb.size) (Rd.row_below h.v (fun _ hb2=>hb2) hb)⟩
def Since2 (w w':World) (b:Nat):Prop:=w.heap.size≤b∧b<w'.heap.size
def ExprOut (d:Nat) (r:Except Flt CExpr) (w:World) (e:Ending) (w':World):Prop:=Below w.heap.size w w'∧match r with
 | .ok E=>∃s,e=.returned (.agg #[.int .u8 E.kind,.int .u8 E.val.kind,.int .i64 E.val.num,.string E.val.text,.int .i64 E.var,.int .u8 E.op,s])∧ExprFits E∧ekidsAt w' (Since2 w w') d E.kids s
 | .error er=>e=faultP er.1 er.2
def ExprsOut (d:Nat) (r:Except Flt (List CExpr)) (w:World) (e:Ending) (w':World):Prop:=Below w.heap.size w w'∧match r with
 | .ok es=>∃v,e=.returned v∧RowIn w' (fun b=>Since2 w w' b∧v.ownBlock≠some b) 58 (exprRd d) es v∧∀g,v.ownBlock=some g→w.heap.size≤g
 | .error er=>e=faultP er.1 er.2
theorem listE_next {α β:Type}{f:α→Except Flt β}{l:List α}{k:Nat}{ys:List β}{x:α}(hx:l[k]? = some x)(h:listE f (l.take k)=.ok ys):listE f (l.take (k+1))=match f x with | .error e=>.error e | .ok y=>.ok (ys++[y]):=foldE_take hx h
theorem listE_stop {α β:Type}{f:α→Except Flt β}{l:List α}{k:Nat}{e:Flt}(h:listE f (l.take k)=.error e):listE f l=.error e:=by
 unfold listE at *
 conv=>lhs;rw[←List.take_append_drop k l]
 rw[foldE_append,h]
theorem Chg.to_below {F:Nat→Prop}{B:Nat}{w w1 w2:World}(h:Below B w w1)(hC:Chg F w1 w2)(hF:∀b,F b→B≤b)(hB:B≤w1.heap.size):Below B w w2:=
 h.trans ⟨hC.os,hC.tape,hC.output,hC.size,fun b hb=>hC.block b (by omega) (fun hf=>by have:=hF b hf;omega)⟩
theorem exprs_grow {d:Nat}{w wr W1 W2 W3 W4:World}{es:List CExpr}{E:CExpr}{p:Option Addr}{k c g cap:Nat}{s:Value}{us:List Value}(hk:es.length=k)
  (hb:Below w.heap.size w wr) (hs0:wr.heap.size≤W1.heap.size) (hb3:Below wr.heap.size wr W3) (hb23:Below W2.heap.size W2 W3)
  (hc:(exprRd d).cells wr (fun b=>Since2 w wr b∧(Value.slice p k c).ownBlock≠some b) es us) (hown:wr.ownsRow 0 58 7 (.slice p k c) k us) (hge:∀g,(Value.slice p k c).ownBlock=some g→w.heap.size≤g)
  (hfit:ExprFits E) (hk2:ekidsAt W2 (Since2 W1 W2) d E.kids s)
  (hg:(Value.slice p k c).ownBlock=some g∨W3.heap.size≤g) (hC:Chg (fun b=>(Value.slice p k c).ownBlock=some b) W3 W4) (hrow:W4.ownsRow 0 58 7 (.slice (some ⟨g,0,none⟩) (k+1) cap) (k+1) (us++exprC E s)) :
  Below w.heap.size w W4∧RowIn W4 (fun b=>Since2 w W4 b∧(Value.slice (some ⟨g,0,none⟩) (k+1) cap).ownBlock≠some b) 58 (exprRd d) (es++[E]) (.slice (some ⟨g,0,none⟩) (k+1) cap)∧∀g',(Value.slice (some ⟨g,0,none⟩) (k+1) cap).ownBlock=some g'→w.heap.size≤g':=by
 have hs2:=hb23.size
 have hs3:=hC.size
 have hw3:Below w.heap.size w W3:=hb.trans (hb3.mono hb.size)
 have hx:(exprRd d).at_ W2 (Since2 W1 W2) E (exprC E s):=expr_at.2 ⟨hfit,s,rfl,hk2⟩
 have hgg:∀g',(Value.slice p k c).ownBlock=some g'→g'<wr.heap.size:=fun g' h=>(own_block hown g' h).2
 let F:Nat→Prop:=fun b=>(Since2 w wr b∧(Value.slice p k c).ownBlock≠some b)∨Since2 W1 W2 b
 have hF:∀b,F b→w.heap.size≤b∧b<W3.heap.size∧(Value.slice p k c).ownBlock≠some b:=by
  rintro b (⟨⟨h1,h2⟩,h3⟩|⟨h1,h2⟩)
  ·exact⟨h1,by have:=hb3.size;omega,h3⟩
  ·exact⟨by have:=hb.size;omega,by omega,fun e=>by have:=hgg b e;omega⟩
 have hc3:(exprRd d).cells W3 F es us:=Rd.cells_sub (fun b h=>Or.inl h) (Rd.cells_keep (fun b h o ho=>(hb3.block b h.1.2).trans ho) hc)
 have hx3:(exprRd d).at_ W3 F E (exprC E s):=(exprRd d).sub (fun b h=>Or.inr h) ((exprRd d).keep (fun b h o ho=>(hb23.block b h.2).trans ho) hx)
 have hc4:(exprRd d).cells W4 F (es++[E]) (us++exprC E s):=Rd.cells_keep (fun b h o ho=>(hC.block b (hF b h).2.1 (hF b h).2.2).trans ho) (Rd.cells_snoc hc3 hx3)
 refine⟨Chg.to_below hw3 hC (fun b h=>hge b h) hw3.size,⟨us++exprC E s,?_,Rd.cells_sub (fun b h=>⟨⟨(hF b h).1,by have:=(hF b h).2.1;omega⟩,fun e=>?_⟩) hc4⟩,fun g' e=>?_⟩
 ·rw[exprRd_n,List.length_append,hk];exact hrow
 ·injection e with e
  have e:g=b:=e
  subst e
  rcases hg with h|h
  ·exact (hF g (by assumption)).2.2 h
  ·have:=(hF g (by assumption)).2.1;omega
 ·injection e with e
  have e:g=g':=e
  subst e
  rcases hg with h|h
  ·exact hge g h
  ·have:=hw3.size;omega
def ExprsRel (w:World) (d:Nat) (f:Tree→Except Flt CExpr) (Ts:List Tree) (n:Nat) (v i:Value) (W:World):Prop:=
 ∃k es,k≤n∧i=.int .i64 (k:Int)∧listE f (Ts.take k)=.ok es∧es.length=k∧Below w.heap.size w W∧RowIn W (fun b=>Since2 w W b∧v.ownBlock≠some b) 58 (exprRd d) es v∧∀g,v.ownBlock=some g→w.heap.size≤g
theorem exprs_any (d M:Nat)(vars:List ByteArray)(vV:Value)(f:Tree→Except Flt CExpr)(Ts:List Tree)(sl:Value)(w:World)(hv:VarW M vars vV w)(hks:KidsAt w w.heap.size (d+1) Ts sl)(hn2:Ts.length≤20000)
  (hone:∀T∈Ts,∀(s:Value) (W:World),VarW M vars vV W→Fits T→KidsAt W W.heap.size d T.kids s→Calls Tryz.prog 60 #[.pointer (some ⟨M,0,none⟩),.agg #[.int .u8 T.kind,.string T.text,.int .i64 T.num,.int .i64 T.place,s]] W (ExprOut d (f T) W)) :
  Calls Tryz.prog 61 #[.pointer (some ⟨M,0,none⟩),sl] w (ExprsOut d (listE f Ts) w):=by
 obtain⟨n,hn⟩:∃n,Ts.length=n:=⟨_,rfl⟩
 obtain⟨p,c,hsl⟩:∃p c,sl=.slice p n c:=by
  rcases hks with ⟨rfl,sp,cap,rfl⟩|⟨b,off,cap,h1,h2,h3,h4,rfl,h6⟩
  ·exact⟨sp,cap,by rw[←hn];rfl⟩
  ·exact⟨_,_,by rw[hn]⟩
 subst hsl
 have HK:=Hd hks
 have HV:=Hd hv
 have HO:=Hd hone
 rw[hn] at hn2
 have HN:=Hd hn
 clear hks hv hone hn
 go_enter Tryz.func61,Tryz.ntmps61
 go_wp2
 go_loopw [5,10] (ExprsRel w d f Ts n) (fun _ i _=>n-(intOf i).toNat)
 case atStart=>exact⟨0,[],Nat.zero_le _,rfl,rfl,rfl,Below.refl _ _,RowIn.nil,fun g h=>by cases h⟩
 case round =>
  obtain⟨k,es,hk,rfl,hl,hel,hb,hrow,hge⟩:=hrel
  obtain⟨p5,c5,hv5⟩:=hrow.shape
  rw[hel] at hv5
  subst hv5
  have hk0:(0:Int)≤k:=by omega
  have HB:=Hd hb
  have HL:=Hd hl
  have HE:=Hd hel
  have HG:=Hd hge
  have HR:=Hd hrow
  clear hb hl hel hge hrow
  by_cases hlt:k<n
  ·have hk1:(k:Int)<n:=by omega
   obtain⟨T,hT⟩:∃T,Ts[k]? = some T:=⟨_,List.getElem?_eq_getElem (by rw[HN.out];exact hlt)⟩
   have hks:=HK.out.below HB.out
   rcases hks with ⟨rfl,_⟩|⟨b,off,cap,h1,h2,h3,h4,he,h6⟩
   ·simp at hT
   rw[HN.out] at he
   injection he with e1 _ e3
   subst e1;subst e3
   obtain⟨hfit,s,c0,c1,c2,c3,c4,hkk⟩:=h6 k T hT
   obtain⟨ps,cs,rfl⟩:=hkk.slice
   have HF:=Hd hfit
   have HNx:=Hd (listE_next hT HL.out)
   have hba:Below wr.heap.size wr (wr.alloc (.cells #[.int .u8 T.kind,.string T.text,.int .i64 T.num,.int .i64 T.place,.slice ps T.kids.length cs] 25)):=(Below.refl _ wr).alloc (Nat.le_refl _) _
   have HA:=Hd hba
   have HC:=Hd (HO.out T (List.mem_of_getElem? hT) (.slice ps T.kids.length cs) (wr.alloc (.cells #[.int .u8 T.kind,.string T.text,.int .i64 T.num,.int .i64 T.place,.slice ps T.kids.length cs] 25)) ((HV.out.below HB.out).below hba) hfit ((hkk.below (hba.mono HB.out.size)).up (Nat.le_trans HB.out.size hba.size)))
   have hx1:=heap_alloc_new wr (.cells #[.int .u8 T.kind,.string T.text,.int .i64 T.num,.int .i64 T.place,.slice ps T.kids.length cs] 25)
   clear hfit hkk h6 h1 h2 h3 h4 hba hT
   go_wp2_with fail
   refine HC.out.mono ?_
   rintro e W2 ⟨hb2,he⟩
   have HB3:=Hd (HA.out.trans (hb2.mono HA.out.size))
   clear hb2 c0 c1 c2 c3 c4 hx1
   cases hf:f T with
   | error er =>
    rw[hf] at he
    have he:e=faultP er.1 er.2:=he
    subst he
    have HX:Hid (listE f Ts=.error er):=listE_stop (k:=k+1) (by rw[HNx.out,hf])
    refine⟨rfl,HB.out.trans (HB3.out.mono HB.out.size),?_⟩
    rw[HX.out]
    rfl
   | ok E =>
    rw[hf] at he
    obtain⟨s2,rfl,hfit2,hk2⟩:=he
    have HNy:Hid (listE f (Ts.take (k+1))=.ok (es++[E])):=by show _=_;rw[HNx.out,hf]
    have HF2:=Hd hfit2
    have HK2:=Hd hk2
    obtain⟨us,hown,hcells⟩:=HR.out
    rw[HE.out,exprRd_n] at hown
    have HC9:=Hd hcells
    have hb23:Below W2.heap.size W2 (W2.alloc (.cells #[.int .u8 E.kind,.int .u8 E.val.kind,.int .i64 E.val.num,.string E.val.text,.int .i64 E.var,.int .u8 E.op,s2] 58)):=(Below.refl _ W2).alloc (Nat.le_refl _) _
    have HB23:=Hd hb23
    have HO9:=Hd hown
    have HO3:=Hd (owns_below hown (HB3.out.trans (hb23.mono HB3.out.size)))
    obtain⟨pe,ce,hs2e⟩:=ekids_shape hk2
    clear hfit2 hk2 hf hown hcells hb23
    subst hs2e
    go_wp2_with (at_builtin;go_must (refine wpList_ap elemExpr rfl (.tmp 14) (.tmp 18) rfl (p:=p5) (n:=k) (c:=c5) (z:=exprC E (.slice pe E.kids.length ce)) rfl rfl HO3.out (heap_alloc_new W2 _) rfl (by simp[Value.oneCell',exprC]) (by omega) ?_);intro g cap W4 hg hC hrow4)
    obtain⟨hB4,hR4,hG4⟩:=exprs_grow HE.out HB.out HA.out.size (HB3.out.trans (HB23.out.mono HB3.out.size)) HB23.out HC9.out HO9.out HG.out HF2.out HK2.out hg hC hrow4
    have HP:Hid (ExprsRel w d f Ts n (.slice (some ⟨g,0,none⟩) (k+1) cap) (.int .i64 ((k+1:Nat):Int)) W4):=⟨k+1,es++[E],by omega,rfl,HNy.out,by rw[List.length_append,HE.out];rfl,hB4,hR4,hG4⟩
    clear hg hC hrow4 hB4 hR4 hG4
    go_wp2_with fail
    refine⟨HP.out,?_⟩
    simp[intOf];omega
  ·have HX:Hid (listE f Ts=.ok es):=by
    show _=_
    rw[←HL.out,List.take_of_length_le (by rw[HN.out];omega)]
   go_wp2_with fail
   go_ret
   refine⟨HB.out,?_⟩
   rw[HX.out]
   exact⟨_,rfl,HR.out,HG.out⟩
def st7 (W:World) (g o:Nat) (a b c d e f h:Value):World:=((((((W.setCell ⟨g,o+0,none⟩ a).setCell ⟨g,o+1,none⟩ b).setCell ⟨g,o+2,none⟩ c).setCell ⟨g,o+3,none⟩ d).setCell ⟨g,o+4,none⟩ e).setCell ⟨g,o+5,none⟩ f).setCell ⟨g,o+6,none⟩ h
theorem rev2_walk (a b:CExpr)(p1 p2:Option Addr)(n1 n2 c1 c2 g cap:Nat)(cur:Array Value)(w:World)(hg:w.heap[g]? = some (.cells cur 58 (0,0)))
  (h0:∀i u,(exprC a (.slice p1 n1 c1))[i]? = some u→w.cell? ⟨g,i,none⟩=some u) (h1:∀i u,(exprC b (.slice p2 n2 c2))[i]? = some u→w.cell? ⟨g,7+i,none⟩=some u) :
  Calls Tryz.prog 89 #[.slice (some ⟨g,0,none⟩) 2 cap] w fun e w'=>e=.returned (.tuple #[])∧w'=(st7 (st7 w g 0 (.int .u8 b.kind) (.int .u8 b.val.kind) (.int .i64 b.val.num) (.string b.val.text) (.int .i64 b.var) (.int .u8 b.op) (.slice p2 n2 c2)) g 7 (.int .u8 a.kind) (.int .u8 a.val.kind) (.int .i64 a.val.num) (.string a.val.text) (.int .i64 a.var) (.int .u8 a.op) (.slice p1 n1 c1)).drew:=by
 have a0:=h0 0 _ rfl
 have a1:=h0 1 _ rfl
 have a2:=h0 2 _ rfl
 have a3:=h0 3 _ rfl
 have a4:=h0 4 _ rfl
 have a5:=h0 5 _ rfl
 have a6:=h0 6 _ rfl
 have b0:w.cell? ⟨g,7,none⟩=_:=h1 0 _ rfl
 have b1:w.cell? ⟨g,8,none⟩=_:=h1 1 _ rfl
 have b2:w.cell? ⟨g,9,none⟩=_:=h1 2 _ rfl
 have b3:w.cell? ⟨g,10,none⟩=_:=h1 3 _ rfl
 have b4:w.cell? ⟨g,11,none⟩=_:=h1 4 _ rfl
 have b5:w.cell? ⟨g,12,none⟩=_:=h1 5 _ rfl
 have b6:w.cell? ⟨g,13,none⟩=_:=h1 6 _ rfl
 have f0:=frozen_of hg
 clear h0 h1 hg
 go_enter Tryz.func89,Tryz.ntmps89
 go_wp2_with fail
 refine wp_loop_rounds 2 ?_
 rw[rounds_succ]
 go_wp2_with fail
 go_region
 go_wp2_with fail
 clear a0 a1 a2 a3 a4 a5 a6 b0 b1 b2 b3 b4 b5 b6 f0
 obtain⟨W9,hW9⟩:∃W9,W9=(st7 (st7 w g 0 (.int .u8 b.kind) (.int .u8 b.val.kind) (.int .i64 b.val.num) (.string b.val.text) (.int .i64 b.var) (.int .u8 b.op) (.slice p2 n2 c2)) g 7 (.int .u8 a.kind) (.int .u8 a.val.kind) (.int .i64 a.val.num) (.string a.val.text) (.int .i64 a.var) (.int .u8 a.op) (.slice p1 n1 c1)).drew:=⟨_,rfl⟩
 change Code.rounds _ _ _ _ _ (st7 (st7 w g 0 (.int .u8 b.kind) (.int .u8 b.val.kind) (.int .i64 b.val.num) (.string b.val.text) (.int .i64 b.var) (.int .u8 b.op) (.slice p2 n2 c2)) g 7 (.int .u8 a.kind) (.int .u8 a.val.kind) (.int .i64 a.val.num) (.string a.val.text) (.int .i64 a.var) (.int .u8 a.op) (.slice p1 n1 c1)).drew
 rw[←hW9]
 have HW9:=Hd hW9
 clear hW9
 rw[rounds_succ]
 go_wp2_with fail
 go_end0
 exact⟨rfl,HW9.out⟩
theorem heap_setL {w:World}{g:Nat}{l:List Value}{t:TypeId}(h:w.heap[g]? = some (.cells l.toArray t (0,0)))(i:Nat)(u:Value):(w.setCell ⟨g,i,none⟩ u).heap[g]? = some (.cells (l.set i u).toArray t (0,0)):=by
 rw[heap_set h i u,List.setIfInBounds_toArray]
theorem st7_list {W:World}{g o:Nat}{l:List Value}{t:TypeId}(hl:W.heap[g]? = some (.cells l.toArray t (0,0)))(a b c d e f h:Value) :
  (st7 W g o a b c d e f h).heap[g]? = some (.cells (((((((l.set (o+0) a).set (o+1) b).set (o+2) c).set (o+3) d).set (o+4) e).set (o+5) f).set (o+6) h).toArray t (0,0)):=by
 unfold st7
 exact heap_setL (heap_setL (heap_setL (heap_setL (heap_setL (heap_setL (heap_setL hl _ _) _ _) _ _) _ _) _ _) _ _) _ _
theorem st7_at {W:World}{g:Nat}{l0 l1 rest:List Value}{t:TypeId}(hl:W.heap[g]? = some (.cells (l0++l1++rest).toArray t (0,0)))(h0:l0.length=7)(h1:l1.length=7)(a b c d e f u a' b' c' d' e' f' u':Value) :
  (st7 (st7 W g 0 a b c d e f u) g 7 a' b' c' d' e' f' u').drew.heap[g]? = some (.cells ([a,b,c,d,e,f,u]++[a',b',c',d',e',f',u']++rest).toArray t (0,0)):=by
 have h9:=st7_list (o:=7) (st7_list (o:=0) hl a b c d e f u) a' b' c' d' e' f' u'
 have hd:∀X:World,X.drew.heap=X.heap:=fun _=>rfl
 rw[hd,h9]
 match l0,h0,l1,h1 with
 | [_,_,_,_,_,_,_],_,[_,_,_,_,_,_,_],_=>simp[List.set_cons_succ,List.set_cons_zero]
theorem st7_chg {W:World}{g o:Nat}(a b c d e f h:Value):Chg (fun x=>x=g) W (st7 W g o a b c d e f h):=by
 have step:∀{V:World},Chg (fun x=>x=g) W V→∀(i:Nat) (u:Value),Chg (fun x=>x=g) W (V.setCell ⟨g,i,none⟩ u):=fun hV i u=>hV.setCell (p:=⟨g,i,none⟩) (Or.inl rfl) u
 unfold st7
 exact step (step (step (step (step (step (step (Chg.refl _ W) _ a) _ b) _ c) _ d) _ e) _ f) _ h
theorem rev2_row {W:World}{A B rest:List Value}{g cap:Nat}(hA:A.length=7)(hB:B.length=7)(h:W.heap[g]? = some (.cells (A++B++rest).toArray 58 (0,0)))(h2:2≤cap)(h3:cap≤maxLen)(h4:(A++B++rest).length=cap*7) :
  W.ownsRow 0 58 7 (.slice (some ⟨g,0,none⟩) 2 cap) 2 (A++B):=
 ⟨by rw[List.length_append,hA,hB],Or.inr ⟨g,cap,_,rfl,Nat.zero_le _,h,h2,h3,by rw[List.size_toArray];exact h4,List.take_left' (by rw[List.length_append,hA,hB])⟩⟩
theorem rev2_own (a b:CExpr)(p1 p2:Option Addr)(n1 n2 c1 c2 g cap:Nat)(w:World)(hown:w.ownsRow 0 58 7 (.slice (some ⟨g,0,none⟩) 2 cap) 2 (exprC a (.slice p1 n1 c1)++exprC b (.slice p2 n2 c2))) :
  Calls Tryz.prog 89 #[.slice (some ⟨g,0,none⟩) 2 cap] w fun e w'=>e=.returned (.tuple #[])∧Chg (fun x=>x=g) w w'∧w'.ownsRow 0 58 7 (.slice (some ⟨g,0,none⟩) 2 cap) 2 (exprC b (.slice p2 n2 c2)++exprC a (.slice p1 n1 c1)):=by
 obtain⟨_,⟨h,_⟩|⟨g',cap',cur,h,_,hg,h2,h3,h4,h5⟩⟩:=hown
 ·cases h
 injection h with e1 _ e3
 injection e1 with e1
 injection e1 with e1
 subst e1;subst e3
 obtain⟨rest,hr⟩:∃rest,cur=(exprC a (.slice p1 n1 c1)++exprC b (.slice p2 n2 c2)++rest).toArray:=⟨cur.toList.drop (2*7),by rw[←h5,List.take_append_drop]⟩
 subst hr
 refine (rev2_walk a b p1 p2 n1 n2 c1 c2 g cap _ w hg (fun i u hu=>?_) (fun i u hu=>?_)).mono ?_
 ·rw[cell_of_row _ _ _ _ _ _ hg]
  have hi:i<7:=(List.getElem?_eq_some_iff.1 hu).1
  rw[List.getElem?_toArray,List.append_assoc,List.getElem?_append_left (by exact hi)]
  exact hu
 ·rw[cell_of_row _ _ _ _ _ _ hg]
  have hi:i<7:=(List.getElem?_eq_some_iff.1 hu).1
  rw[List.getElem?_toArray,List.append_assoc,List.getElem?_append_right (by show 7≤7+i;omega),List.getElem?_append_left (by show 7+i-7<7;omega)]
  have e:7+i-(exprC a (.slice p1 n1 c1)).length=i:=by show 7+i-7=i;omega
  rw[e]
  exact hu
 ·rintro e w' ⟨rfl,rfl⟩
  have hg':(st7 (st7 w g 0 (.int .u8 b.kind) (.int .u8 b.val.kind) (.int .i64 b.val.num) (.string b.val.text) (.int .i64 b.var) (.int .u8 b.op) (.slice p2 n2 c2)) g 7 (.int .u8 a.kind) (.int .u8 a.val.kind) (.int .i64 a.val.num) (.string a.val.text) (.int .i64 a.var) (.int .u8 a.op) (.slice p1 n1 c1)).drew.heap[g]? = some (.cells (exprC b (.slice p2 n2 c2)++exprC a (.slice p1 n1 c1)++rest).toArray 58 (0,0)):=
   st7_at hg rfl rfl (.int .u8 b.kind) (.int .u8 b.val.kind) (.int .i64 b.val.num) (.string b.val.text) (.int .i64 b.var) (.int .u8 b.op) (.slice p2 n2 c2) (.int .u8 a.kind) (.int .u8 a.val.kind) (.int .i64 a.val.num) (.string a.val.text) (.int .i64 a.var) (.int .u8 a.op) (.slice p1 n1 c1)
  have hc':=((st7_chg (W:=w) (g:=g) (o:=0) (.int .u8 b.kind) (.int .u8 b.val.kind) (.int .i64 b.val.num) (.string b.val.text) (.int .i64 b.var) (.int .u8 b.op) (.slice p2 n2 c2)).trans (st7_chg (g:=g) (o:=7) (.int .u8 a.kind) (.int .u8 a.val.kind) (.int .i64 a.val.num) (.string a.val.text) (.int .i64 a.var) (.int .u8 a.op) (.slice p1 n1 c1))).trans (Chg.of_below ((Below.refl _ _).drew))
  exact⟨rfl,hc',rev2_row rfl rfl hg' h2 h3 (by rw[←h4];rfl)⟩
theorem cells7 {w:World}{T:Nat}{a b c d e f h:Value}{t:TypeId}(hT:w.heap[T]? = some (.cells #[a,b,c,d,e,f,h] t (0,0))) :
  w.cell? ⟨T,0,none⟩=some a∧w.cell? ⟨T,1,none⟩=some b∧w.cell? ⟨T,2,none⟩=some c∧w.cell? ⟨T,3,none⟩=some d∧w.cell? ⟨T,4,none⟩=some e∧w.cell? ⟨T,5,none⟩=some f∧w.cell? ⟨T,6,none⟩=some h:=by
 simp[World.cell?,hT]
theorem st7_set {W:World}{g:Nat}{x0 x1 x2 x3 x4 x5 x6:Value}{t:TypeId}(hl:W.heap[g]? = some (.cells #[x0,x1,x2,x3,x4,x5,x6] t (0,0)))(a b c d e f h:Value):(st7 W g 0 a b c d e f h).heap[g]? = some (.cells #[a,b,c,d,e,f,h] t (0,0)):=by
 have h9:=st7_list (o:=0) (l:=[x0,x1,x2,x3,x4,x5,x6]) hl a b c d e f h
 rw[h9]
 simp
theorem expr_fin (W:World)(Rp:Ending→World→Prop)(T:Nat)(a b c d e f h:Value)(hT:W.heap[T]? = some (.cells #[a,b,c,d,e,f,h] 58 (0,0)))
  (tmps:Array Value) (h2:tmps.getD 4 undef=.pointer (some ⟨T,0,none⟩)) (hR:Rp (.returned (.agg #[a,b,c,d,e,f,h])) W):bodyPost Tryz.prog Tryz.f60 Rp .ret ⟨tmps,[]⟩ W:=by
 obtain⟨c0,c1,c2,c3,c4,c5,c6⟩:=cells7 hT
 have h4':tmps[4]?.getD undef=.pointer (some ⟨T,0,none⟩):=by simpa using h2
 refine bodyPost_ret (v:=.agg #[a,b,c,d,e,f,h]) ?_ rfl hR
 simp[results,Tryz.results60,go_sem,h4',c0,c1,c2,c3,c4,c5,c6]
theorem numI_bd (t:ByteArray):I64 (numI t):=by
 have h:=number_le (strip t.data.toList)
 unfold maxI at h
 unfold numI I64
 dsimp only
 split<;>omega
theorem const_fits (T:Tree)(hs:T.text.size≤72007):ValFits (constM T):=by
 have u2:U8 2:=⟨by decide,by decide⟩
 have u1:U8 1:=⟨by decide,by decide⟩
 have i0:I64 0:=⟨by decide,by decide⟩
 unfold constM
 split
 ·exact⟨u2,i0,by show T.text.size≤maxLen;unfold maxLen;omega⟩
 ·exact⟨u1,numI_bd _,Nat.zero_le _⟩
theorem opM_u8 (t:List UInt8)(k:Nat):U8 (opM t k).1:=by
 have h:∀(b:Bool) (x y:Int×Bool),U8 x.1→U8 y.1→U8 (if b then x else y).1:=fun b x y hx hy=>by cases b;exact hy;exact hx
 have hl:∀(n:Nat) (b:Bool),n<20→U8 ((n:Int),b).1:=fun n b hn=>⟨by show (0:Int)≤n;omega,by show (n:Int)<256;omega⟩
 unfold opM
 refine h _ _ _ (h _ _ _ (hl 7 _ (by decide)) (h _ _ _ (hl 8 _ (by decide)) (h _ _ _ (hl 1 _ (by decide)) (h _ _ _ (hl 2 _ (by decide)) (h _ _ _ (hl 3 _ (by decide)) (h _ _ _ (hl 5 _ (by decide)) (h _ _ _ (hl 6 _ (by decide)) (h _ _ _ (hl 7 _ (by decide)) (h _ _ _ (hl 8 _ (by decide)) (h _ _ _ (hl 9 _ (by decide)) (h _ _ _ (hl 10 _ (by decide)) (hl 0 _ (by decide))))))))))))) (h _ _ _ (hl 4 _ (by decide)) (hl 11 _ (by decide)))
theorem below_st7 {B:Nat}{w W:World}{g:Nat}(hb:Below B w W)(hg:B≤g)(a b c d e f h:Value):Below B w (st7 W g 0 a b c d e f h):=by
 unfold st7
 exact ((((((hb.setCell hg a).setCell hg b).setCell hg c).setCell hg d).setCell hg e).setCell hg f).setCell hg h
theorem expr_const (d M:Nat)(vars:List ByteArray)(T:Tree)(p:Option Addr)(n c:Nat)(w:World)(hk:T.kind=14∨T.kind=15)(hs:T.text.size≤72007) :
  Calls Tryz.prog 60 #[.pointer (some ⟨M,0,none⟩),.agg #[.int .u8 T.kind,.string T.text,.int .i64 T.num,.int .i64 T.place,.slice p n c]] w (ExprOut d (mkExpr vars d T) w):=by
 have HR:Hid (mkExpr vars d T=.ok (.mk 1 (constM T) 0 0 [])):=by
  show _=_
  cases d<;>(unfold mkExpr;rcases hk with h|h<;>rw[h]<;>rfl)
 obtain⟨hx0,hx1,_⟩:=two_new' w (.cells #[.int .u8 T.kind,.string T.text,.int .i64 T.num,.int .i64 T.place,.slice p n c] 25) (.cells #[.int .u8 0,.int .u8 0,.int .i64 0,.string ⟨#[]⟩,.int .i64 0,.int .u8 0,.slice none 0 0] 58)
 have hb1:Below w.heap.size w ((w.alloc (.cells #[.int .u8 T.kind,.string T.text,.int .i64 T.num,.int .i64 T.place,.slice p n c] 25)).alloc (.cells #[.int .u8 0,.int .u8 0,.int .i64 0,.string ⟨#[]⟩,.int .i64 0,.int .u8 0,.slice none 0 0] 58)):=((Below.refl _ w).alloc (Nat.le_refl _) _).alloc (by simp) _
 have HC:Hid (Calls Tryz.prog 87 #[.agg #[.int .u8 T.kind,.string T.text,.int .i64 T.num,.int .i64 T.place,.slice p n c]] ((w.alloc (.cells #[.int .u8 T.kind,.string T.text,.int .i64 T.num,.int .i64 T.place,.slice p n c] 25)).alloc (.cells #[.int .u8 0,.int .u8 0,.int .i64 0,.string ⟨#[]⟩,.int .i64 0,.int .u8 0,.slice none 0 0] 58)) fun e w'=>e=.returned (.agg #[.int .u8 (constM T).kind,.int .i64 (constM T).num,.string (constM T).text])∧Below ((w.alloc (.cells #[.int .u8 T.kind,.string T.text,.int .i64 T.num,.int .i64 T.place,.slice p n c] 25)).alloc (.cells #[.int .u8 0,.int .u8 0,.int .i64 0,.string ⟨#[]⟩,.int .i64 0,.int .u8 0,.slice none 0 0] 58)).heap.size ((w.alloc (.cells #[.int .u8 T.kind,.string T.text,.int .i64 T.num,.int .i64 T.place,.slice p n c] 25)).alloc (.cells #[.int .u8 0,.int .u8 0,.int .i64 0,.string ⟨#[]⟩,.int .i64 0,.int .u8 0,.slice none 0 0] 58)) w'):=const_any T (.slice p n c) _ hk hs
 have HX1:=Hd hx1
 have HB1:=Hd hb1
 have HF:=Hd (const_fits T hs)
 clear hx0 hx1 hb1
 rcases hk with hk|hk
 all_goals
  rw[hk] at HC HX1 HB1 ⊢
  go_enter Tryz.func60,Tryz.ntmps60
  go_wp2_with fail
  refine HC.out.mono ?_
  rintro e w2 ⟨rfl,hb2⟩
  have hx2:=heap_below hb2 HX1.out (Array.getElem?_eq_some_iff.1 HX1.out).1
  have HB2:=Hd (HB1.out.trans (hb2.mono HB1.out.size))
  have HXf:=Hd (st7_set hx2 (.int .u8 1) (.int .u8 (constM T).kind) (.int .i64 (constM T).num) (.string (constM T).text) (.int .i64 0) (.int .u8 0) (.slice none 0 0))
  have HP:Hid (ExprOut d (mkExpr vars d T) w (.returned (.agg #[.int .u8 1,.int .u8 (constM T).kind,.int .i64 (constM T).num,.string (constM T).text,.int .i64 0,.int .u8 0,.slice none 0 0])) (st7 w2 (w.heap.size+1) 0 (.int .u8 1) (.int .u8 (constM T).kind) (.int .i64 (constM T).num) (.string (constM T).text) (.int .i64 0) (.int .u8 0) (.slice none 0 0))):=by
   refine⟨below_st7 HB2.out (Nat.le_succ _) _ _ _ _ _ _ _,?_⟩
   rw[HR.out]
   refine⟨.slice none 0 0,rfl,⟨⟨by show (0:Int)≤1;decide,by show (1:Int)<256;decide⟩,HF.out,⟨by show (-9223372036854775808:Int)≤0;decide,by show (0:Int)<9223372036854775808;decide⟩,⟨by show (0:Int)≤0;decide,by show (0:Int)<256;decide⟩⟩,?_⟩
   cases d with
   | zero=>exact⟨rfl,none,0,rfl⟩
   | succ d=>exact Or.inl ⟨rfl,none,0,rfl⟩
  obtain⟨c0,c1,c2,c3,c4,c5,c6⟩:=cells7 hx2
  have f0:=frozen5 hx2
  clear hx2 hb2
  go_wp2_with fail
  exact expr_fin _ _ (w.heap.size+1) _ _ _ _ _ _ _ HXf.out _ rfl HP.out
theorem expr_var (d M:Nat)(vars:List ByteArray)(vV:Value)(T:Tree)(p:Option Addr)(n c:Nat)(w:World)(hv:VarW M vars vV w)(hk:T.kind=13) :
  Calls Tryz.prog 60 #[.pointer (some ⟨M,0,none⟩),.agg #[.int .u8 T.kind,.string T.text,.int .i64 T.num,.int .i64 T.place,.slice p n c]] w (ExprOut d (mkExpr vars d T) w):=by
 have HR:Hid (mkExpr vars d T=match idxOf T.text vars with|some k=>.ok (.mk 2 .zero k 0 [])|none=>.error (213,T.place)):=by
  show _=_
  cases d<;>(unfold mkExpr;rw[hk];rfl)
 rw[hk]
 have hmx:=Rd.row_len hv.v
 obtain⟨pV,cV,hvV⟩:=Rd.row_shape hv.v
 subst hvV
 obtain⟨w1,hw1⟩:∃w1,w1=(w.alloc (.cells #[.int .u8 13,.string T.text,.int .i64 T.num,.int .i64 T.place,.slice p n c] 25)).alloc (.cells #[.int .u8 0,.int .u8 0,.int .i64 0,.string ⟨#[]⟩,.int .i64 0,.int .u8 0,.slice none 0 0] 58):=⟨_,rfl⟩
 obtain⟨hx0,hx1,_⟩:=two_new' w (.cells #[.int .u8 13,.string T.text,.int .i64 T.num,.int .i64 T.place,.slice p n c] 25) (.cells #[.int .u8 0,.int .u8 0,.int .i64 0,.string ⟨#[]⟩,.int .i64 0,.int .u8 0,.slice none 0 0] 58)
 have hb1:Below w.heap.size w w1:=by rw[hw1];exact ((Below.refl _ w).alloc (Nat.le_refl _) _).alloc (by simp) _
 rw[←hw1] at hx0 hx1
 have HX0:=Hd hx0
 have HX1:=Hd hx1
 have HB1:=Hd hb1
 have hv1:=hv.below hb1
 have HVw:=Hd hv.v
 have HI:=Hd (fun (x:Wb w1)=>index_any vars T.text (.slice pV vars.length cV) _ x.1 (hv1.below x.2).v)
 obtain⟨nv,hnv⟩:∃nv,vars.length=nv:=⟨_,rfl⟩
 have hm:=hv1.m
 rw[hnv] at HI hm hmx
 obtain⟨e0,e1,e2,e3,e4⟩:=cells5 hx0
 clear hx0 hx1 hb1 hv hv1 hnv
 go_enter Tryz.func60,Tryz.ntmps60
 go_upto_region 6 with fail
 change Code.wp _ _ _ _ ((w.alloc (.cells #[.int .u8 13,.string T.text,.int .i64 T.num,.int .i64 T.place,.slice p n c] 25)).alloc (.cells #[.int .u8 0,.int .u8 0,.int .i64 0,.string ⟨#[]⟩,.int .i64 0,.int .u8 0,.slice none 0 0] 58))
 rw[show (w.alloc (.cells #[.int .u8 13,.string T.text,.int .i64 T.num,.int .i64 T.place,.slice p n c] 25)).alloc (.cells #[.int .u8 0,.int .u8 0,.int .i64 0,.string ⟨#[]⟩,.int .i64 0,.int .u8 0,.slice none 0 0] 58)=w1 from hw1.symm]
 clear hw1
 have X1:=fun x:Wb w1=>x.cell e1
 have M2:=fun x:Wb w1=>x.cell hm
 refine wp_region_below (by kernel_rfl) (by kernel_rfl) ?_
 repeat (go_big_quiet_step ((go_at_call 86;exact Calls.below_of (HI.out _))))
 refine wpQuiet_nil ?_
 intro W2 hw'
 have hb2:=wb_below hw'
 have HB2:=Hd hb2
 clear hw' hb2 X1 M2 HI e0 e1 e2 e3 e4 hm
 have hx2:=heap_below HB2.out HX0.out (Array.getElem?_eq_some_iff.1 HX0.out).1
 have HX2:=Hd (heap_below HB2.out HX1.out (Array.getElem?_eq_some_iff.1 HX1.out).1)
 obtain⟨e0,e1,e2,e3,e4⟩:=cells5 hx2
 clear hx2
 cases hix:idxOf T.text vars with
 | some k =>
  rw[hix] at HR
  rw[show idxI (some k)=(k:Int) from rfl]
  have hk0:¬(k:Int)<0:=by omega
  have HNn:=Hd (none_any [(false,213)] 13 T.text T.num T.place (.slice p n c) W2.heap.size 1 1 (W2.alloc (.cells #[.bool false,.int .i64 213] 97)) rfl (by omega) (heap_alloc_new W2 _))
  have HB3:Hid (Below w.heap.size w (W2.alloc (.cells #[.bool false,.int .i64 213] 97))):=(HB1.out.trans (HB2.out.mono HB1.out.size)).alloc (Nat.le_trans HB1.out.size HB2.out.size) _
  have HX3:Hid ((W2.alloc (.cells #[.bool false,.int .i64 213] 97)).heap[w.heap.size+1]? = _):=heap_below ((Below.refl W2.heap.size W2).alloc (Nat.le_refl _) _) HX2.out (Array.getElem?_eq_some_iff.1 HX2.out).1
  have hk9:I64 (k:Int):=by
   have hlt:=(idxB_ltD T.text vars 0 k hix).2
   have h2:=Rd.row_len HVw.out
   unfold maxLen at h2
   unfold I64
   omega
  have HK9:=Hd hk9
  clear hix hk9
  go_wp2_with fail
  refine HNn.out.mono ?_
  rintro e w5 ⟨hb5,he⟩
  have he:e=.returned (.tuple #[]):=he
  subst he
  have hx5:=heap_below hb5 HX3.out (Array.getElem?_eq_some_iff.1 HX3.out).1
  have HB5:=Hd (HB3.out.trans (hb5.mono HB3.out.size))
  have HXf:=Hd (st7_set hx5 (.int .u8 2) (.int .u8 0) (.int .i64 0) (.string ⟨#[]⟩) (.int .i64 (k:Int)) (.int .u8 0) (.slice none 0 0))
  have HP:Hid (ExprOut d (mkExpr vars d T) w (.returned (.agg #[.int .u8 2,.int .u8 0,.int .i64 0,.string ⟨#[]⟩,.int .i64 (k:Int),.int .u8 0,.slice none 0 0])) (st7 w5 (w.heap.size+1) 0 (.int .u8 2) (.int .u8 0) (.int .i64 0) (.string ⟨#[]⟩) (.int .i64 (k:Int)) (.int .u8 0) (.slice none 0 0))):=by
   refine⟨below_st7 HB5.out (Nat.le_succ _) _ _ _ _ _ _ _,?_⟩
   rw[HR.out]
   refine⟨.slice none 0 0,rfl,⟨⟨by show (0:Int)≤2;decide,by show (2:Int)<256;decide⟩,⟨⟨by show (0:Int)≤0;decide,by show (0:Int)<256;decide⟩,⟨by show (-9223372036854775808:Int)≤0;decide,by show (0:Int)<9223372036854775808;decide⟩,Nat.zero_le _⟩,HK9.out,⟨by show (0:Int)≤0;decide,by show (0:Int)<256;decide⟩⟩,?_⟩
   cases d with
   | zero=>exact⟨rfl,none,0,rfl⟩
   | succ d=>exact Or.inl ⟨rfl,none,0,rfl⟩
  obtain⟨c0,c1,c2,c3,c4,c5,c6⟩:=cells7 hx5
  have f0:=frozen5 hx5
  clear hx5 hb5 HNn e0 e1 e2 e3 e4
  go_wp2_with fail
  exact expr_fin _ _ (w.heap.size+1) _ _ _ _ _ _ _ HXf.out _ rfl HP.out
 | none =>
  rw[hix] at HR
  clear hix
  rw[show idxI none=(-1:Int) from rfl]
  have HNn:=Hd (none_any [(true,213)] 13 T.text T.num T.place (.slice p n c) W2.heap.size 1 1 (W2.alloc (.cells #[.bool true,.int .i64 213] 97)) rfl (by omega) (heap_alloc_new W2 _))
  have HB3:Hid (Below w.heap.size w (W2.alloc (.cells #[.bool true,.int .i64 213] 97))):=(HB1.out.trans (HB2.out.mono HB1.out.size)).alloc (Nat.le_trans HB1.out.size HB2.out.size) _
  go_wp2_with fail
  refine HNn.out.mono ?_
  rintro e w5 ⟨hb5,he⟩
  have he:e=faultP 213 T.place:=he
  subst he
  refine⟨rfl,HB3.out.trans (hb5.mono HB3.out.size),?_⟩
  rw[HR.out]
  rfl
end Go.Proofs.YtglbjooofdnbkaaGreatDoor
