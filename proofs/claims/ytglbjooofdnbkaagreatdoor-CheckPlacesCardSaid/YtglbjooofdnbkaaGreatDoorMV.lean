/- Several texts joined, each with its own sentence and conditions ahead of it: ParsB, ParsC, ParsD, ParsE. -/
import Derived.Test.YtglbjooofdnbkaaGreatDoorMVP
import Derived.Test.YtglbjooofdnbkaaGreatDoorMT
import Derived.Deep.Cut
import Derived.Deep.MidRow
namespace Go.Proofs.YtglbjooofdnbkaaGreatDoor
set_option maxHeartbeats 4000000
set_option maxRecDepth 100000
open Go.RowKit
abbrev PS:=Nat×Bool
structure TsOk (ts:List Tok):Prop where
 each:∀t∈ts,t.1<256∧t.2.1.size≤16384∧t.2.2≤16384
 last:∀k t,ts[k]? = some t→¬k+1<ts.length→t.1=7
def tokM (ts:List Tok) (k:Nat):Tok:=ts.getD k (7,⟨#[]⟩,0)
theorem tokM_at {ts:List Tok}{k:Nat}(h:k<ts.length):ts[k]? = some (tokM ts k):=by
 unfold tokM
 rw[List.getD_eq_getElem?_getD,List.getElem?_eq_getElem h];rfl
theorem tokM_ok {ts:List Tok}(h:TsOk ts)(k:Nat):(tokM ts k).1<256∧(tokM ts k).2.1.size≤16384∧(tokM ts k).2.2≤16384:=by
 by_cases hk:k<ts.length
 ·exact h.each _ (List.mem_of_getElem? (tokM_at hk))
 ·unfold tokM
  rw[List.getD_eq_getElem?_getD,List.getElem?_eq_none (by omega)]
  exact⟨by show 7<256;omega,by show (0:Nat)≤16384;omega,by show (0:Nat)≤16384;omega⟩
def NodeRes (w:World) (P L cap:Nat) (ts:List Tok) (r:Tree×PS) (e:Ending) (w':World):Prop:=
 ∃(d:Nat) (s:Value),e=.returned (.agg #[.int .u8 r.1.kind,.string r.1.text,.int .i64 r.1.num,.int .i64 r.1.place,s])∧Turns w P L cap ts r.2.1 r.2.2 w'∧OwnAt w' d r.1.kids s (Between w.heap.size w'.heap.size)∧Fits r.1
def set5 (W:World) (b:Nat) (v0 v1 v2 v3 v4:Value):World:=((((W.setCell ⟨b,0,none⟩ v0).setCell ⟨b,1,none⟩ v1).setCell ⟨b,2,none⟩ v2).setCell ⟨b,3,none⟩ v3).setCell ⟨b,4,none⟩ v4
theorem set5_size (W:World)(b:Nat)(v0 v1 v2 v3 v4:Value):(set5 W b v0 v1 v2 v3 v4).heap.size=W.heap.size:=by simp[set5,World.setCell]
theorem set5_other {W:World}{b g:Nat}(h:g≠b)(v0 v1 v2 v3 v4:Value):(set5 W b v0 v1 v2 v3 v4).heap[g]? = W.heap[g]?:=by
 unfold set5
 exact (Below.heap_setCell _ _ _ g h).trans ((Below.heap_setCell _ _ _ g h).trans ((Below.heap_setCell _ _ _ g h).trans ((Below.heap_setCell _ _ _ g h).trans (Below.heap_setCell _ _ _ g h))))
section
variable {w W W':World} {P L cap:Nat} {ts:List Tok} {k:Nat} {bad:Bool}
theorem Turns.set5 (h:Turns w P L cap ts k bad W)(hP:P<w.heap.size)(hL:L<w.heap.size){b:Nat}(hb:w.heap.size≤b)(v0 v1 v2 v3 v4:Value):Turns w P L cap ts k bad (set5 W b v0 v1 v2 v3 v4):=
 ((((h.setCell hP hL hb 0 v0).setCell hP hL hb 1 v1).setCell hP hL hb 2 v2).setCell hP hL hb 3 v3).setCell hP hL hb 4 v4
theorem NodeRes.stored {r:Tree×PS}{s:Value}{d B b:Nat}(hP:P<w.heap.size)(hL:L<w.heap.size)(hT:Turns w P L cap ts r.2.1 r.2.2 W)(ho:OwnAt W d r.1.kids s (Between B W.heap.size))(hf:Fits r.1)
  (hb:w.heap.size≤b) (hB:b<B) (v0 v1 v2 v3 v4:Value):NodeRes w P L cap ts r (.returned (.agg #[.int .u8 r.1.kind,.string r.1.text,.int .i64 r.1.num,.int .i64 r.1.place,s])) (YtglbjooofdnbkaaGreatDoor.set5 W b v0 v1 v2 v3 v4):=by
 refine⟨d,s,rfl,hT.set5 hP hL hb _ _ _ _ _,?_,hf⟩
 refine (ho.keep fun x o hx h=>(set5_other (by have:=hx.1;omega) _ _ _ _ _).trans h).sub fun x hx=>?_
 have:=hx.1
 exact⟨by omega,by rw[set5_size];exact hx.2⟩
end
theorem own_nil (W:World)(F:Nat→Prop):OwnAt W 0 [] (.slice none 0 0) F:=⟨rfl,Or.inl rfl⟩
def ofM (ts:List Tok) (σ:PS) (tok kind:Nat):Tree×PS:=
 (.mk kind (tokM ts σ.1).2.1 0 (tokM ts σ.1).2.2 [],nextK ts.length σ.1 (σ.2||(tokM ts σ.1).1 != tok),(σ.2||(tokM ts σ.1).1 != tok))
theorem ofM_fits {ts:List Tok}(h:TsOk ts)(σ:PS)(tok kind:Nat)(hk:kind<256):Fits (ofM ts σ tok kind).1:=by
 obtain⟨_,h2,h3⟩:=tokM_ok h σ.1
 exact⟨hk,by show (tokM ts σ.1).2.1.size≤maxLen;unfold maxLen;omega,by show (-9223372036854775808:Int)≤0;omega,by show (0:Int)<9223372036854775808;omega,by show (-9223372036854775808:Int)≤(tokM ts σ.1).2.2;omega,by show ((tokM ts σ.1).2.2:Int)<9223372036854775808;omega⟩
theorem pof_res {w:World}{P L cap:Nat}{ts:List Tok}(hts:TsOk ts){σ:PS}(h:PAt w P L cap ts σ.1 σ.2)(tok kind:Nat)(hk:kind<256) :
  Calls Tryz.prog 102 #[.pointer (some ⟨P,0,none⟩),.int .u8 tok,.int .u8 kind] w (NodeRes w P L cap ts (ofM ts σ tok kind)):=
 (pof_any h (tokM_at h.k) tok kind).mono fun _e _ ⟨he,ht⟩=>⟨0,.slice none 0 0,he,ht,own_nil _ _,ofM_fits hts σ tok kind hk⟩
theorem pname_any {w:World}{P L cap:Nat}{ts:List Tok}(hts:TsOk ts){σ:PS}(h:PAt w P L cap ts σ.1 σ.2)(kind:Nat)(hk:kind<256) :
  Calls Tryz.prog 75 #[.pointer (some ⟨P,0,none⟩),.int .u8 kind] w (NodeRes w P L cap ts (ofM ts σ 2 kind)):=by
 have hb0:Below w.heap.size w (w.alloc (.cells #[.int .u8 0,.string ⟨#[]⟩,.int .i64 0,.int .i64 0,.slice none 0 0] 25)):=(Below.refl _ w).alloc (Nat.le_refl _) _
 have HC:=Hd (pof_res hts (h.below hb0) 2 kind hk)
 have H0:=Hd (h.turns hb0)
 have hP:=h.lt.1
 have HL:=Hd h.lt.2
 have HX:=Hd (heap_alloc_new w (.cells #[.int .u8 0,.string ⟨#[]⟩,.int .i64 0,.int .i64 0,.slice none 0 0] 25))
 clear h hb0
 generalize ofM ts σ 2 kind=r at *
 go_enter Tryz.func75,Tryz.ntmps75
 go_wp2_with fail
 refine Calls.mono HC.out ?_
 rintro e w1 ⟨d,s,rfl,hT,ho,hf⟩
 obtain⟨p,c,rfl⟩:=ho.shape
 have x1:=hT.box HX.out hP (Nat.le_refl _)
 have HX1:=Hd x1
 obtain⟨a0,a1,a2,a3,a4⟩:=cells5 x1
 have z0:=frozen5 x1 0
 have z1:=frozen5 x1 1
 have z2:=frozen5 x1 2
 have z3:=frozen5 x1 3
 have z4:=frozen5 x1 4
 have HT:=Hd (H0.out.trans hT)
 have HO:=Hd ho
 have HF:=Hd hf
 clear x1 hT ho hf
 go_wp2_with fail
 exact ret_node Tryz.results75 rfl (heap_set5 HX1.out _ _ _ _ _) rfl (NodeRes.stored hP HL.out HT.out HO.out HF.out (Nat.le_refl _) (by simp) _ _ _ _ _)
def isM (ts:List Tok) (σ:PS) (texts:List ByteArray):Bool:=!σ.2&&isT (tokM ts σ.1) texts
def nextM (ts:List Tok) (σ:PS):PS:=(nextK ts.length σ.1 σ.2,σ.2)
def skipM (ts:List Tok) (σ:PS) (texts:List ByteArray):PS:=if isM ts σ texts=true then nextM ts σ else σ
def wantM (ts:List Tok) (σ:PS) (x:ByteArray):PS:=(wantK ts σ.1 σ.2 (tokM ts σ.1) x,wantB σ.2 (tokM ts σ.1) x)
def atM (ts:List Tok) (σ:PS):Int:=(tokM ts σ.1).2.2
def txM (ts:List Tok) (σ:PS):ByteArray:=(tokM ts σ.1).2.1
def kdM (ts:List Tok) (σ:PS):Nat:=(tokM ts σ.1).1
theorem skipM_place (ts:List Tok)(σ:PS)(texts:List ByteArray):(skipM ts σ texts).1=skipK ts σ.1 σ.2 (tokM ts σ.1) texts∧(skipM ts σ texts).2=σ.2:=by
 unfold skipM skipK isM
 split
 ·exact⟨rfl,rfl⟩
 ·exact⟨rfl,rfl⟩
def zeroT:Tree:=.mk 0 ⟨#[]⟩ 0 0 []
def tMinus:ByteArray:=⟨#[45]⟩
def tNot:ByteArray:=⟨#[110,111,116]⟩
def tOpen:ByteArray:=⟨#[40]⟩
def tShut:ByteArray:=⟨#[41]⟩
def lvl6:Nat→List ByteArray
 | 0=>[⟨#[111,114]⟩,⟨#[]⟩,⟨#[]⟩,⟨#[]⟩,⟨#[]⟩,⟨#[]⟩]
 | 1=>[⟨#[97,110,100]⟩,⟨#[]⟩,⟨#[]⟩,⟨#[]⟩,⟨#[]⟩,⟨#[]⟩]
 | 2=>[⟨#[61]⟩,⟨#[33,61]⟩,⟨#[60]⟩,⟨#[60,61]⟩,⟨#[62]⟩,⟨#[62,61]⟩]
 | 3=>[⟨#[43]⟩,⟨#[45]⟩,⟨#[]⟩,⟨#[]⟩,⟨#[]⟩,⟨#[]⟩]
 | _=>[⟨#[42]⟩,⟨#[]⟩,⟨#[]⟩,⟨#[]⟩,⟨#[]⟩,⟨#[]⟩]
def loopM (ts:List Tok) (ex:PS→Tree×PS) (lvl:Nat) (pl:Int):Nat→Tree→PS→Tree×PS
 | 0,T,σ=>(T,σ)
 | g+1,T,σ =>
  if isM ts σ (lvl6 lvl)=true then
   let r:=ex (nextM ts σ)
   if lvl=2 then (.mk 16 (txM ts σ) 0 pl [T,r.1],r.2) else loopM ts ex lvl pl g (.mk 16 (txM ts σ) 0 pl [T,r.1]) r.2
  else (T,σ)
def exM (ts:List Tok):Nat→Nat→PS→Tree×PS
 | 0,_,σ=>(zeroT,σ)
 | f+1,lvl,σ =>
  if σ.2=true then (zeroT,σ)
  else if lvl=5 then
   if isM ts σ [tMinus,tNot]=true then (.mk 16 (txM ts σ) 0 (atM ts σ) [(exM ts f 5 (nextM ts σ)).1],(exM ts f 5 (nextM ts σ)).2)
   else if isM ts σ [tOpen]=true then ((exM ts f 0 (nextM ts σ)).1,wantM ts (exM ts f 0 (nextM ts σ)).2 tShut)
   else if kdM ts σ=5 then ofM ts σ 5 15
   else if kdM ts σ=3 then ofM ts σ 3 13
   else ofM ts σ 4 14
  else loopM ts (exM ts f (lvl+1)) lvl (atM ts σ) ts.length (exM ts f (lvl+1) σ).1 (exM ts f (lvl+1) σ).2
theorem nextM_ge (ts:List Tok)(σ:PS):σ.1≤(nextM ts σ).1∧(nextM ts σ).2=σ.2:=⟨nextK_ge,rfl⟩
theorem wantM_ge (ts:List Tok)(σ:PS)(x:ByteArray):σ.1≤(wantM ts σ x).1:=by
 unfold wantM wantK skipK;dsimp only;split
 ·exact nextK_ge
 ·exact Nat.le_refl _
theorem ofM_ge (ts:List Tok)(σ:PS)(tok kind:Nat):σ.1≤(ofM ts σ tok kind).2.1:=nextK_ge
theorem loopM_ge {ts:List Tok}{ex:PS→Tree×PS}(hex:∀σ,σ.1≤(ex σ).2.1){lvl:Nat}{pl:Int}:∀(g:Nat)(T:Tree)(σ:PS),σ.1≤(loopM ts ex lvl pl g T σ).2.1:=by
 intro g
 induction g with
 | zero=>intro T σ;exact Nat.le_refl _
 | succ g ih =>
  intro T σ
  unfold loopM
  have h1:=(nextM_ge ts σ).1
  have h2:=hex (nextM ts σ)
  split
  ·dsimp only
   split
   ·exact Nat.le_trans h1 h2
   ·exact Nat.le_trans (Nat.le_trans h1 h2) (ih _ _)
  ·exact Nat.le_refl _
theorem exM_ge (ts:List Tok):∀(f lvl:Nat)(σ:PS),σ.1≤(exM ts f lvl σ).2.1:=by
 intro f
 induction f with
 | zero=>intro lvl σ;exact Nat.le_refl _
 | succ f ih =>
  intro lvl σ
  unfold exM
  have h1:=(nextM_ge ts σ).1
  (repeat' split)
  ·exact Nat.le_refl _
  ·exact Nat.le_trans h1 (ih 5 _)
  ·exact Nat.le_trans (Nat.le_trans h1 (ih 0 _)) (wantM_ge _ _ _)
  ·exact ofM_ge _ _ _ _
  ·exact ofM_ge _ _ _ _
  ·exact ofM_ge _ _ _ _
  ·exact Nat.le_trans (ih (lvl+1) σ) (loopM_ge (fun σ=>ih (lvl+1) σ) _ _ _)
theorem next_on {ts:List Tok}(h:TsOk ts){σ:PS}(hk:σ.1<ts.length){texts:List ByteArray}(hi:isM ts σ texts=true):(nextM ts σ).1=σ.1+1∧σ.2=false∧σ.1+1<ts.length:=by
 unfold isM at hi
 rw[Bool.and_eq_true] at hi
 have hb:σ.2=false:=by have:=hi.1;cases h2:σ.2<;>simp[h2] at this ⊢
 have hlt:σ.1+1<ts.length:=by
  by_cases hlt:σ.1+1<ts.length
  ·exact hlt
  ·exfalso
   have h7:=h.last σ.1 _ (tokM_at hk) hlt
   have:=hi.2
   unfold isT at this
   rw[h7] at this
   simp at this
 exact⟨by unfold nextM;rw[hb];exact nextK_on hlt,hb,hlt⟩
theorem pskip_res {w:World}{P L cap:Nat}{ts:List Tok}{σ:PS}(h:PAt w P L cap ts σ.1 σ.2)(B off n c:Nat)(texts:List ByteArray)(hB:TextsAt w B off texts)(hn:texts.length=n)(hn2:n≤100) :
  Calls Tryz.prog 74 #[.pointer (some ⟨P,0,none⟩),.slice (some ⟨B,off,none⟩) n c] w fun e w'=>e=.returned (.bool (isM ts σ texts))∧Turns w P L cap ts (skipM ts σ texts).1 (skipM ts σ texts).2 w':=
 (pskip_any h (tokM_at h.k) B off n c texts hB hn hn2).mono fun _ _ ⟨he,ht⟩=>⟨he,by rw[(skipM_place ts σ texts).1,(skipM_place ts σ texts).2];exact ht⟩
theorem pwant_res {w:World}{P L cap:Nat}{ts:List Tok}{σ:PS}(h:PAt w P L cap ts σ.1 σ.2)(x:ByteArray) :
  Calls Tryz.prog 78 #[.pointer (some ⟨P,0,none⟩),.string x] w fun e w'=>e=.returned (.tuple #[])∧Turns w P L cap ts (wantM ts σ x).1 (wantM ts σ x).2 w':=
 pwant_any h (tokM_at h.k) x
theorem pnow_res {w:World}{P L cap:Nat}{ts:List Tok}{σ:PS}(h:PAt w P L cap ts σ.1 σ.2) :
  Calls Tryz.prog 44 #[.pointer (some ⟨P,0,none⟩)] w fun e w'=>e=.returned (.agg #[.int .u8 (kdM ts σ),.string (txM ts σ),.int .i64 (atM ts σ)])∧Below w.heap.size w w':=
 pnow_any h (tokM_at h.k)
theorem textsAt_two {w:World}(o:Obj)(l:List ByteArray):TextsAt ((w.alloc o).alloc (.cells (l.map Value.string).toArray 9)) (w.heap.size+1) 0 l:=by
 have h:=textsAt_new (w:=w.alloc o) l
 rw[World.size_alloc] at h
 exact h
theorem fits_mk {kind:Nat}{tx:ByteArray}{pl:Int}{ks:List Tree}(hk:kind<256)(ht:tx.size≤16384)(h0:0≤pl)(h1:pl≤16384):Fits (.mk kind tx 0 pl ks):=
 ⟨hk,by show tx.size≤maxLen;unfold maxLen;omega,by show (-9223372036854775808:Int)≤0;omega,by show (0:Int)<9223372036854775808;omega,by show (-9223372036854775808:Int)≤pl;omega,by show pl<9223372036854775808;omega⟩
def GotN (L0:Nat) (T:Tree) (W:World) (xs:List Value):Prop:=∃(d:Nat) (s:Value),xs=[s]∧OwnAt W d T.kids s (Between L0 W.heap.size)∧Fits T
def GotL (L0:Nat) (T:Tree) (W:World) (xs:List Value):Prop:=∃(d g N:Nat) (s:Value),xs=[.int .i64 g]∧W.heap[g]? = some (.cells (nodeCells T s).toArray 25 (0,0))∧OwnAt W d T.kids s (Between L0 N)∧Fits T∧L0≤N∧N≤g
theorem GotN.grown {L0 Q:Nat}{T:Tree}{W W':World}{xs:List Value}(h:GotN L0 T W xs)(hQ:Q<L0)(hg:W.grownBy W' (some Q)):GotN L0 T W' xs:=by
 obtain⟨d,s,h1,h2,h3⟩:=h
 exact⟨d,s,h1,(h2.keep fun b o hb ho=>grownBy_keep hg ho (by have:=hb.1;omega)).sub (fun b hb=>⟨hb.1,Nat.lt_of_lt_of_le hb.2 hg.size⟩),h3⟩
theorem GotL.grown {L0 Q:Nat}{T:Tree}{W W':World}{xs:List Value}(h:GotL L0 T W xs)(hQ:Q<L0)(hg:W.grownBy W' (some Q)):GotL L0 T W' xs:=by
 obtain⟨d,g,N,s,h1,h2,h3,h4,h5,h6⟩:=h
 exact⟨d,g,N,s,h1,grownBy_keep hg h2 (by omega),h3.keep fun b o hb ho=>grownBy_keep hg ho (by have:=hb.1;omega),h4,h5,h6⟩
theorem GotL.own {L0:Nat}{T:Tree}{W:World}{xs:List Value}(h:GotL L0 T W xs):∃(d g:Nat),xs=[.int .i64 g]∧OwnAt W (d+1) [T] (.slice (some ⟨g,0,none⟩) 1 1) (Between L0 W.heap.size):=by
 obtain⟨d,g,N,s,h1,h2,h3,h4,h5,h6⟩:=h
 have hgl:=(Array.getElem?_eq_some_iff.1 h2).1
 refine⟨d,g,h1,Or.inr ⟨g,1,(nodeCells T s).toArray,fun i b=>i=0∧Between L0 N b,by simp,⟨by omega,hgl⟩,Nat.le_refl _,by unfold maxLen;omega,rfl,h2,rfl,fun i T' hT'=>?_,fun i b hb=>⟨⟨hb.2.1,by have:=hb.2.2;omega⟩,by have:=hb.2.2;omega⟩,fun i j b hij hi hj=>hij (hi.1.trans hj.1.symm)⟩⟩
 cases i with
 | zero =>
  simp at hT'
  subst hT'
  exact⟨h4,s,fun m u hu=>by simpa using hu,h3.sub fun b hb=>⟨rfl,hb⟩⟩
 | succ i=>simp at hT'
def ExOk (ts:List Tok) (f:Nat):Prop:=∀(lvl:Nat) (σ:PS) (w:World) (P L cap:Nat),lvl≤5→PAt w P L cap ts σ.1 σ.2→(ts.length-σ.1)*7+(6-lvl)≤f →
 Calls Tryz.prog 143 #[.pointer (some ⟨P,0,none⟩),.int .i64 lvl] w (NodeRes w P L cap ts (exM ts f lvl σ))
def OneOk (ts:List Tok) (f:Nat):Prop:=∀(σ:PS) (w:World) (P L cap:Nat),σ.2=false→PAt w P L cap ts σ.1 σ.2→(ts.length-σ.1)*7+1≤f →
 Calls Tryz.prog 151 #[.pointer (some ⟨P,0,none⟩)] w (NodeRes w P L cap ts (exM ts f 5 σ))
theorem pexpr_any {ts:List Tok}{f:Nat}(hE:ExOk ts f)(σ:PS)(w:World)(P L cap:Nat)(h:PAt w P L cap ts σ.1 σ.2)(hf:(ts.length-σ.1)*7+6≤f) :
  Calls Tryz.prog 130 #[.pointer (some ⟨P,0,none⟩)] w (NodeRes w P L cap ts (exM ts f 0 σ)):=by
 have hb0:Below w.heap.size w (w.alloc (.cells #[.int .u8 0,.string ⟨#[]⟩,.int .i64 0,.int .i64 0,.slice none 0 0] 25)):=(Below.refl _ w).alloc (Nat.le_refl _) _
 have HC:=Hd (hE 0 σ _ P L cap (by omega) (h.below hb0) hf)
 have H0:=Hd (h.turns hb0)
 have hP:=h.lt.1
 have HL:=Hd h.lt.2
 have HX:=Hd (heap_alloc_new w (.cells #[.int .u8 0,.string ⟨#[]⟩,.int .i64 0,.int .i64 0,.slice none 0 0] 25))
 clear h hb0 hE hf
 generalize exM ts f 0 σ=r at *
 go_enter Tryz.func130,Tryz.ntmps130
 go_wp2_with fail
 refine Calls.mono HC.out ?_
 rintro e w1 ⟨d,s,rfl,hT,ho,hf⟩
 obtain⟨p,c,rfl⟩:=ho.shape
 have x1:=hT.box HX.out hP (Nat.le_refl _)
 have HX1:=Hd x1
 obtain⟨a0,a1,a2,a3,a4⟩:=cells5 x1
 have z0:=frozen5 x1 0
 have z1:=frozen5 x1 1
 have z2:=frozen5 x1 2
 have z3:=frozen5 x1 3
 have z4:=frozen5 x1 4
 have HT:=Hd (H0.out.trans hT)
 have HO:=Hd ho
 have HF:=Hd hf
 clear x1 hT ho hf
 go_wp2_with fail
 exact ret_node Tryz.results130 rfl (heap_set5 HX1.out _ _ _ _ _) rfl (NodeRes.stored hP HL.out HT.out HO.out HF.out (Nat.le_refl _) (by simp) _ _ _ _ _)
theorem pone_of {ts:List Tok}(hts:TsOk ts){f:Nat}(h1:OneOk ts f)(hE:ExOk ts f):OneOk ts (f+1):=by
 intro σ w P L cap hb h hf
 have hb0:Below w.heap.size w (w.alloc (.cells #[.int .u8 0,.string ⟨#[]⟩,.int .i64 0,.int .i64 0,.slice none 0 0] 25)):=(Below.refl _ w).alloc (Nat.le_refl _) _
 have HC:=Hd (pnow_res (h.below hb0))
 have H0:=Hd (h.turns hb0)
 have hP:=h.lt.1
 have HL:=Hd h.lt.2
 have HX:=Hd (heap_alloc_new w (.cells #[.int .u8 0,.string ⟨#[]⟩,.int .i64 0,.int .i64 0,.slice none 0 0] 25))
 have HK:=Hd h.k
 have HTS:=Hd hts
 have HOne:=Hd h1
 have HEx:=Hd hE
 have HFu:=Hd hf
 have hR:exM ts (f+1) 5 σ=(if isM ts σ [tMinus,tNot]=true then (.mk 16 (txM ts σ) 0 (atM ts σ) [(exM ts f 5 (nextM ts σ)).1],(exM ts f 5 (nextM ts σ)).2)
   else if isM ts σ [tOpen]=true then ((exM ts f 0 (nextM ts σ)).1,wantM ts (exM ts f 0 (nextM ts σ)).2 tShut)
   else if kdM ts σ=5 then ofM ts σ 5 15
   else if kdM ts σ=3 then ofM ts σ 3 13
   else ofM ts σ 4 14):=by
  conv=>lhs;unfold exM
  rw[if_neg (by rw[hb];decide),if_pos rfl]
 obtain⟨R,hRR⟩:∃R,exM ts (f+1) 5 σ=R:=⟨_,rfl⟩
 rw[hRR]
 rw[hRR] at hR
 have HR:=Hd hR
 have HBad:=Hd hb
 clear h hb0 hts h1 hE hf hRR hR hb
 obtain⟨kd,hkd⟩:∃kd,kdM ts σ=kd:=⟨_,rfl⟩
 obtain⟨tx,htx⟩:∃tx,txM ts σ=tx:=⟨_,rfl⟩
 obtain⟨at_,hat⟩:∃a,atM ts σ=a:=⟨_,rfl⟩
 rw[hkd,htx,hat] at HC HR
 have HTok:Hid (tx.size≤16384∧0≤at_∧at_≤16384):=by
  show _∧_
  obtain⟨_,g2,g3⟩:=tokM_ok HTS.out σ.1
  rw[←htx,←hat]
  refine⟨g2,?_,?_⟩
  ·unfold atM;omega
  ·unfold atM;omega
 clear htx hat
 have HKd:=Hd hkd
 clear hkd
 go_enter Tryz.func151,Tryz.ntmps151
 go_wp2_with fail
 refine Calls.mono HC.out ?_
 rintro e w1 ⟨rfl,hb1⟩
 have HT1:=Hd (H0.out.of_below hb1)
 have x0:=heap_below hb1 HX.out (by simp)
 have HX1:=Hd x0
 have hl1:w.heap.size<w1.heap.size:=(Array.getElem?_eq_some_iff.1 x0).1
 clear hb1 x0
 have hTA:=HT1.out.alloc (.cells #[.int .u8 kd,.string tx,.int .i64 at_] 119)
 have HTA:=Hd hTA
 have HXL:=Hd (heap_alloc_new w1 (.cells #[.int .u8 kd,.string tx,.int .i64 at_] 119))
 have HXA:=Hd ((Below.heap_alloc w1 (.cells #[.int .u8 kd,.string tx,.int .i64 at_] 119) _ (Array.getElem?_eq_some_iff.1 HX1.out).1).trans HX1.out)
 have HTB:=Hd (hTA.alloc (.cells #[.string tMinus,.string tNot] 9))
 have HS:=Hd (pskip_res HTB.out.2 (w1.heap.size+1) 0 2 2 [tMinus,tNot] (textsAt_two _ [tMinus,tNot]) rfl (by omega))
 have hszA:(w1.alloc (.cells #[.int .u8 kd,.string tx,.int .i64 at_] 119)).heap.size=w1.heap.size+1:=World.size_alloc _ _
 have HXB:=Hd ((Below.heap_alloc (w1.alloc (.cells #[.int .u8 kd,.string tx,.int .i64 at_] 119)) (.cells #[.string tMinus,.string tNot] 9) w.heap.size (by rw[hszA];omega)).trans HXA.out)
 have HXM:=Hd ((Below.heap_alloc (w1.alloc (.cells #[.int .u8 kd,.string tx,.int .i64 at_] 119)) (.cells #[.string tMinus,.string tNot] 9) w1.heap.size (by rw[hszA];omega)).trans HXL.out)
 clear hTA hszA
 go_wp2_with fail
 refine Calls.mono HS.out ?_
 rintro e w2 ⟨rfl,ht2⟩
 have HT2:=Hd (HTB.out.trans ht2)
 have HX2:=Hd (ht2.box HXB.out hP (Nat.le_refl _))
 have HM2:=Hd (ht2.box HXM.out hP (Nat.le_of_lt hl1))
 clear ht2
 by_cases hm:isM ts σ [tMinus,tNot]=true
 ·have hR:=HR.out
  rw[if_pos hm] at hR
  have hsk:skipM ts σ [tMinus,tNot]=nextM ts σ:=by unfold skipM;rw[if_pos hm]
  obtain⟨q1,q2,q3⟩:=next_on HTS.out HK.out hm
  rw[hsk] at HT2
  rw[hm]
  have HCall:=Hd (HOne.out (nextM ts σ) w2.drew P L cap (by rw[(nextM_ge ts σ).2];exact q2) HT2.out.2.drew (by rw[q1];have:=HFu.out;omega))
  have hR1:R.1=.mk 16 tx 0 at_ [(exM ts f 5 (nextM ts σ)).1]:=by rw[hR]
  have hR2:R.2=(exM ts f 5 (nextM ts σ)).2:=by rw[hR]
  generalize exM ts f 5 (nextM ts σ)=r at *
  generalize nextM ts σ=σ1 at *
  have HR1:=Hd hR1
  have HR2:=Hd hR2
  clear hR HR hsk q1 q2 q3 hm hR1 hR2 HKd
  obtain⟨c0,c1,c2,_,_,_⟩:=cells3 HM2.out
  go_wp2_with fail
  have hw1P:w1.heap.size≠P:=by omega
  have C0:=fun x:RE.Gr w2 P=>x.cell c0 hw1P
  have C1:=fun x:RE.Gr w2 P=>x.cell c1 hw1P
  have C2:=fun x:RE.Gr w2 P=>x.cell c2 hw1P
  have hP2:P<w2.heap.size:=HT2.out.2.lt.1
  clear c0 c1 c2
  refine RE.wp_region_eff (by kernel_rfl) 8 [5,6] [5,6] (fun s W=>if s=0 then W=w2.drew else Turns w2 P L cap ts r.2.1 r.2.2 W) (fun W W'=>W.grownBy W' (some P))
   (fun i xs=>if i=5 then .agg #[.int .u8 r.1.kind,.string r.1.text,.int .i64 r.1.num,.int .i64 r.1.place,xs.getD 0 undef] else .slice (some ⟨RE.natOf xs,0,none⟩) 1 1)
   (fun i W xs=>if i=5 then GotN w2.heap.size r.1 W xs else GotL w2.heap.size r.1 W xs) (by kernel_rfl) (fun i h1 h2=>by rw[h1] at h2;cases h2) ?_ rfl ?_
  ·intro k W W' xs h _ hg
   split at h
   ·rw[if_pos (by assumption)];exact h.grown hP2 hg
   ·rw[if_neg (by assumption)];exact h.grown hP2 hg
  simp only[List.take_succ_cons,List.take_zero,List.drop_succ_cons,List.drop_zero,List.length_cons,List.length_nil,Nat.reduceAdd]
  have hcl:∀(n s:Nat) (W:World),s≤n→(if s=0 then W=w2.drew else Turns w2 P L cap ts r.2.1 r.2.2 W)→∃x:RE.Gr w2 P,W=x.1:=fun n s W _ h=>by
   split at h
   ·exact⟨⟨W,by rw[h];exact grown_drewN (World.grownBy.refl w2 _) 1⟩,rfl⟩
   ·exact⟨⟨W,h.1⟩,rfl⟩
  have HCl:=Hd hcl
  clear hcl
  repeat (refine RE.wpE_read (fun W=>∃x:RE.Gr w2 P,W=x.1) (HCl.out _) rfl rfl rfl rfl ?_;go_big_quiet_step (fail);refine wpQuiet_nil ?_)
  refine RE.wpE_turn rfl rfl ?_ (fun xs5=>?_)
  ·intro W _ hS _
   obtain rfl:W=w2.drew:=hS rfl
   refine RE.upon_call 151 _ _ rfl (enters_of Tryz.func151 (by kernel_rfl) rfl) #[.pointer (some ⟨P,0,none⟩)] (by simp[Act.eval]) (HCall.out.mono ?_)
   rintro e W' ⟨d,s,rfl,hT,ho,hf⟩
   exact⟨_,rfl,[s],rfl,hT.of_drew,hT.1,⟨d,s,rfl,ho,hf⟩⟩
  simp only[Act.put,List.setIfInBounds_toArray,List.set_cons_zero,List.set_cons_succ]
  refine RE.wpE_turn rfl rfl ?_ (fun xs6=>?_)
  ·intro W _ hS hφ
   have hT:Turns w2 P L cap ts r.2.1 r.2.2 W:=hS rfl
   obtain⟨d,s,rfl,ho,hf⟩:GotN w2.heap.size r.1 W xs5:=hφ 5 xs5 (by kernel_rfl) rfl
   obtain⟨p,c,rfl⟩:=ho.shape
   refine RE.Upon.told (v:=.slice (some ⟨W.heap.size,0,none⟩) 1 1) (w':=W.alloc (.cells (nodeCells r.1 (.slice p r.1.kids.length c)).toArray 25)) ?_ ⟨[.int .i64 W.heap.size],rfl,hT.alloc _,?_,?_⟩
   ·unfold RE.Upon
    go_simp
    rfl
   ·exact grown_of_below ((Below.refl _ W).alloc (Nat.le_refl _) _) _
   ·refine⟨d,W.heap.size,W.heap.size,_,rfl,heap_alloc_new W _,?_,hf,hT.1.size,Nat.le_refl _⟩
    exact ho.below (fun b hb=>hb.2) ((Below.refl _ W).alloc (Nat.le_refl _) _)
  simp only[Act.put,List.setIfInBounds_toArray,List.set_cons_zero,List.set_cons_succ]
  repeat (refine RE.wpE_read (fun W=>∃x:RE.Gr w2 P,W=x.1) (HCl.out _) rfl rfl rfl rfl ?_;go_big_quiet_step (fail);refine wpQuiet_nil ?_)
  refine RE.wpE_nil ?_
  intro W3 hS hE
  have hT3:Turns w2 P L cap ts r.2.1 r.2.2 W3:=hS
  obtain⟨d,g,rfl,ho⟩:=(show GotL w2.heap.size r.1 W3 xs6 from hE 6 xs6 rfl).own
  have HO:=Hd ho
  have HT3:=Hd (HT2.out.trans hT3)
  have y0:=hT3.box HX2.out hP (Nat.le_refl _)
  have HY0:=Hd y0
  obtain⟨a0,a1,a2,a3,a4⟩:=cells5 y0
  have z0:=frozen5 y0 0
  have z1:=frozen5 y0 1
  have z2:=frozen5 y0 2
  have z3:=frozen5 y0 3
  have z4:=frozen5 y0 4
  have hb2:w.heap.size<w2.heap.size:=(Array.getElem?_eq_some_iff.1 HX2.out).1
  obtain⟨RT,Rσ⟩:=R
  obtain rfl:RT=_:=HR1.out
  obtain rfl:Rσ=_:=HR2.out
  clear C0 C1 C2 hE hS ho hT3 y0
  go_wp2_with fail
  refine ret_node Tryz.results151 rfl (heap_set5 HY0.out _ _ _ _ _) rfl ?_
  exact NodeRes.stored (r:=(.mk 16 tx 0 at_ [r.1],r.2)) hP HL.out HT3.out HO.out (fits_mk (by omega) HTok.out.1 HTok.out.2.1 HTok.out.2.2) (Nat.le_refl _) hb2 _ _ _ _ _
 ·have hR:=HR.out
  rw[if_neg hm] at hR
  have HR':=Hd hR
  have hsk:skipM ts σ [tMinus,tNot]=σ:=by unfold skipM;rw[if_neg hm]
  rw[hsk] at HT2
  have hm':isM ts σ [tMinus,tNot]=false:=by simpa using hm
  rw[hm']
  clear hsk hm hm' hR HR
  have hTC:=HT2.out.alloc (.cells #[.string tOpen] 9)
  have HTC:=Hd hTC
  have HXC:=Hd ((Below.heap_alloc w2 (.cells #[.string tOpen] 9) _ (Array.getElem?_eq_some_iff.1 HX2.out).1).trans HX2.out)
  have HMC:=Hd ((Below.heap_alloc w2 (.cells #[.string tOpen] 9) _ (Array.getElem?_eq_some_iff.1 HM2.out).1).trans HM2.out)
  have HS2:=Hd (pskip_res hTC.2 w2.heap.size 0 1 1 [tOpen] (textsAt_new [tOpen]) rfl (by omega))
  clear hTC
  go_wp2_with fail
  refine Calls.mono HS2.out ?_
  rintro e w3 ⟨rfl,ht3⟩
  have HT3:=Hd (HTC.out.trans ht3)
  have HX3:=Hd (ht3.box HXC.out hP (Nat.le_refl _))
  have HM3:=Hd (ht3.box HMC.out hP (Nat.le_of_lt hl1))
  clear ht3
  by_cases hm:isM ts σ [tOpen]=true
  ·have hR:=HR'.out
   rw[if_pos hm] at hR
   have hsk:skipM ts σ [tOpen]=nextM ts σ:=by unfold skipM;rw[if_pos hm]
   obtain⟨q1,q2,q3⟩:=next_on HTS.out HK.out hm
   rw[hsk] at HT3
   rw[hm]
   have HCall:=Hd (pexpr_any HEx.out (nextM ts σ) w3 P L cap HT3.out.2 (by rw[q1];have:=HFu.out;omega))
   have hR1:R.1=(exM ts f 0 (nextM ts σ)).1:=by rw[hR]
   have hR2:R.2=wantM ts (exM ts f 0 (nextM ts σ)).2 tShut:=by rw[hR]
   generalize exM ts f 0 (nextM ts σ)=r at *
   have HR1:=Hd hR1
   have HR2:=Hd hR2
   clear hR HR' hsk q1 q2 q3 hm hR1 hR2 HKd
   go_wp2_with fail
   refine Calls.mono HCall.out ?_
   rintro e w4 ⟨d,s,rfl,hT4,ho,hf⟩
   obtain⟨p,c,rfl⟩:=ho.shape
   have HT4:=Hd (HT3.out.trans hT4)
   have HX4:=Hd (hT4.box HX3.out hP (Nat.le_refl _))
   have hTD:=HT4.out.alloc (.cells #[.int .u8 r.1.kind,.string r.1.text,.int .i64 r.1.num,.int .i64 r.1.place,.slice p r.1.kids.length c] 25)
   have HTD:=Hd hTD
   have HN4:=Hd (heap_alloc_new w4 (.cells #[.int .u8 r.1.kind,.string r.1.text,.int .i64 r.1.num,.int .i64 r.1.place,.slice p r.1.kids.length c] 25))
   have HXD:=Hd ((Below.heap_alloc w4 (.cells #[.int .u8 r.1.kind,.string r.1.text,.int .i64 r.1.num,.int .i64 r.1.place,.slice p r.1.kids.length c] 25) _ (Array.getElem?_eq_some_iff.1 HX4.out).1).trans HX4.out)
   have HOD:=Hd (ho.below (fun b hb=>hb.2) ((Below.refl _ w4).alloc (Nat.le_refl _) (.cells #[.int .u8 r.1.kind,.string r.1.text,.int .i64 r.1.num,.int .i64 r.1.place,.slice p r.1.kids.length c] 25)))
   have HW:=Hd (pwant_res hTD.2 tShut)
   have HF:=Hd hf
   have hb34:w.heap.size<w3.heap.size:=(Array.getElem?_eq_some_iff.1 HX3.out).1
   have hb44:w3.heap.size≤w4.heap.size:=hT4.1.size
   clear hTD hT4 ho hf
   go_wp2_with fail
   refine Calls.mono HW.out ?_
   rintro e w5 ⟨rfl,ht5⟩
   have HT5:=Hd (HTD.out.trans ht5)
   have y0:=ht5.box HXD.out hP (Nat.le_refl _)
   have HY0:=Hd y0
   obtain⟨a0,a1,a2,a3,a4⟩:=cells5 y0
   have z0:=frozen5 y0 0
   have z1:=frozen5 y0 1
   have z2:=frozen5 y0 2
   have z3:=frozen5 y0 3
   have z4:=frozen5 y0 4
   obtain⟨m0,m1,m2,m3,m4⟩:=cells5 (ht5.box HN4.out hP (by omega))
   have hO5:OwnAt w5 d r.1.kids (.slice p r.1.kids.length c) (Between w3.heap.size w5.heap.size):=
    (HOD.out.keep fun b o hb ho=>grownBy_keep ht5.1 ho (by have:=hb.1;omega)).sub fun b hb=>⟨hb.1,Nat.lt_of_lt_of_le hb.2 (by have:=ht5.1.size;rw[World.size_alloc] at this;omega)⟩
   have HO5:=Hd hO5
   obtain⟨RT,Rσ⟩:=R
   obtain rfl:RT=_:=HR1.out
   obtain rfl:Rσ=_:=HR2.out
   clear ht5 y0 hO5
   go_wp2_with fail
   refine ret_node Tryz.results151 rfl (heap_set5 HY0.out _ _ _ _ _) rfl ?_
   exact NodeRes.stored (r:=(r.1,wantM ts r.2 tShut)) hP HL.out HT5.out HO5.out HF.out (Nat.le_refl _) hb34 _ _ _ _ _
  have hR:=HR'.out
  rw[if_neg hm] at hR
  have hsk:skipM ts σ [tOpen]=σ:=by unfold skipM;rw[if_neg hm]
  rw[hsk] at HT3
  have hm':isM ts σ [tOpen]=false:=by simpa using hm
  rw[hm']
  clear hsk hm hm' HR' HKd
  by_cases hk5:kd=5
  ·subst hk5
   rw[if_pos rfl] at hR
   subst hR
   have hT4:=HT3.out
   have HO4:=Hd (pof_res HTS.out (w:=w3.drew) hT4.2.drew 5 15 (by omega))
   obtain⟨c0,_,_,_,_,_⟩:=cells3 HM3.out
   have hw1P:w1.heap.size≠P:=by omega
   have C0:=fun x:RE.Gr w3 P=>x.cell c0 hw1P
   have hP3:P<w3.heap.size:=hT4.2.lt.1
   have hcl:∀(n s:Nat) (W:World),s≤n→(if s=0 then W=w3.drew else Turns w3 P L cap ts (ofM ts σ 5 15).2.1 (ofM ts σ 5 15).2.2 W)→∃x:RE.Gr w3 P,W=x.1:=fun n s W _ h=>by
    split at h
    ·exact⟨⟨W,by rw[h];exact grown_drewN (World.grownBy.refl w3 _) 1⟩,rfl⟩
    ·exact⟨⟨W,h.1⟩,rfl⟩
   have HCl:=Hd hcl
   have HFit:=Hd (ofM_fits HTS.out σ 5 15 (by omega))
   have hkk:(ofM ts σ 5 15).1.kids=[]:=rfl
   have HKK:=Hd hkk
   generalize ofM ts σ 5 15=r at *
   clear hcl hT4 hkk
   go_wp2_with fail
   clear c0
   refine RE.wp_region_eff (by kernel_rfl) 6 [5] [5] (fun s W=>if s=0 then W=w3.drew else Turns w3 P L cap ts r.2.1 r.2.2 W) (fun W W'=>W.grownBy W' (some P))
    (fun i xs=>.agg #[.int .u8 r.1.kind,.string r.1.text,.int .i64 r.1.num,.int .i64 r.1.place,xs.getD 0 undef])
    (fun i W xs=>GotN w3.heap.size r.1 W xs) (by kernel_rfl) (fun i h1 h2=>by rw[h1] at h2;cases h2) (fun k W W' xs h _ hg=>h.grown hP3 hg) rfl ?_
   simp only[List.take_succ_cons,List.take_zero,List.drop_succ_cons,List.drop_zero,List.length_cons,List.length_nil,Nat.reduceAdd]
   repeat (refine RE.wpE_read (fun W=>∃x:RE.Gr w3 P,W=x.1) (HCl.out _) rfl rfl rfl rfl ?_;go_big_quiet_step (fail);refine wpQuiet_nil ?_)
   refine RE.wpE_turn rfl rfl ?_ (fun xs5=>?_)
   ·intro W _ hS _
    obtain rfl:W=w3.drew:=hS rfl
    refine RE.upon_call 102 _ _ rfl (enters_of Tryz.func102 (by kernel_rfl) rfl) #[.pointer (some ⟨P,0,none⟩),.int .u8 5,.int .u8 15] (by simp[Act.eval]) (HO4.out.mono ?_)
    rintro e W' ⟨d,s,rfl,hT,ho,hf⟩
    exact⟨_,rfl,[s],rfl,hT.of_drew,hT.1,⟨d,s,rfl,ho,hf⟩⟩
   simp only[Act.put,List.setIfInBounds_toArray,List.set_cons_zero,List.set_cons_succ]
   refine RE.wpE_nil ?_
   intro W4 hS hE
   have hT5:Turns w3 P L cap ts r.2.1 r.2.2 W4:=hS
   obtain⟨d,s,rfl,ho,hf⟩:=(show GotN w3.heap.size r.1 W4 xs5 from hE 5 xs5 rfl)
   obtain⟨p,c,rfl⟩:=ho.shape
   have HO:=Hd ho
   have HT5:=Hd (HT3.out.trans hT5)
   have y0:=hT5.box HX3.out hP (Nat.le_refl _)
   have HY0:=Hd y0
   obtain⟨a0,a1,a2,a3,a4⟩:=cells5 y0
   have z0:=frozen5 y0 0
   have z1:=frozen5 y0 1
   have z2:=frozen5 y0 2
   have z3:=frozen5 y0 3
   have z4:=frozen5 y0 4
   have hb3:w.heap.size<w3.heap.size:=(Array.getElem?_eq_some_iff.1 HX3.out).1
   clear C0 hE hS ho hT5 y0 hf
   go_wp2_with fail
   refine ret_node Tryz.results151 rfl (heap_set5 HY0.out _ _ _ _ _) rfl ?_
   exact NodeRes.stored hP HL.out HT5.out HO.out HFit.out (Nat.le_refl _) hb3 _ _ _ _ _
  rw[if_neg hk5] at hR
  have hk5':((kd:Int)==5)=false:=by simp;omega
  by_cases hk3:kd=3
  ·subst hk3
   rw[if_pos rfl] at hR
   subst hR
   have hT4:=HT3.out
   have HO4:=Hd (pof_res HTS.out (w:=w3.drew) hT4.2.drew 3 13 (by omega))
   obtain⟨c0,_,_,_,_,_⟩:=cells3 HM3.out
   have hw1P:w1.heap.size≠P:=by omega
   have C0:=fun x:RE.Gr w3 P=>x.cell c0 hw1P
   have hP3:P<w3.heap.size:=hT4.2.lt.1
   have hcl:∀(n s:Nat) (W:World),s≤n→(if s=0 then W=w3.drew else Turns w3 P L cap ts (ofM ts σ 3 13).2.1 (ofM ts σ 3 13).2.2 W)→∃x:RE.Gr w3 P,W=x.1:=fun n s W _ h=>by
    split at h
    ·exact⟨⟨W,by rw[h];exact grown_drewN (World.grownBy.refl w3 _) 1⟩,rfl⟩
    ·exact⟨⟨W,h.1⟩,rfl⟩
   have HCl:=Hd hcl
   have HFit:=Hd (ofM_fits HTS.out σ 3 13 (by omega))
   have hkk:(ofM ts σ 3 13).1.kids=[]:=rfl
   have HKK:=Hd hkk
   generalize ofM ts σ 3 13=r at *
   clear hcl hT4 hkk
   go_wp2_with fail
   clear c0
   refine RE.wp_region_eff (by kernel_rfl) 6 [5] [5] (fun s W=>if s=0 then W=w3.drew else Turns w3 P L cap ts r.2.1 r.2.2 W) (fun W W'=>W.grownBy W' (some P))
    (fun i xs=>.agg #[.int .u8 r.1.kind,.string r.1.text,.int .i64 r.1.num,.int .i64 r.1.place,xs.getD 0 undef])
    (fun i W xs=>GotN w3.heap.size r.1 W xs) (by kernel_rfl) (fun i h1 h2=>by rw[h1] at h2;cases h2) (fun k W W' xs h _ hg=>h.grown hP3 hg) rfl ?_
   simp only[List.take_succ_cons,List.take_zero,List.drop_succ_cons,List.drop_zero,List.length_cons,List.length_nil,Nat.reduceAdd]
   repeat (refine RE.wpE_read (fun W=>∃x:RE.Gr w3 P,W=x.1) (HCl.out _) rfl rfl rfl rfl ?_;go_big_quiet_step (fail);refine wpQuiet_nil ?_)
   refine RE.wpE_turn rfl rfl ?_ (fun xs5=>?_)
   ·intro W _ hS _
    obtain rfl:W=w3.drew:=hS rfl
    refine RE.upon_call 102 _ _ rfl (enters_of Tryz.func102 (by kernel_rfl) rfl) #[.pointer (some ⟨P,0,none⟩),.int .u8 3,.int .u8 13] (by simp[Act.eval]) (HO4.out.mono ?_)
    rintro e W' ⟨d,s,rfl,hT,ho,hf⟩
    exact⟨_,rfl,[s],rfl,hT.of_drew,hT.1,⟨d,s,rfl,ho,hf⟩⟩
   simp only[Act.put,List.setIfInBounds_toArray,List.set_cons_zero,List.set_cons_succ]
   refine RE.wpE_nil ?_
   intro W4 hS hE
   have hT5:Turns w3 P L cap ts r.2.1 r.2.2 W4:=hS
   obtain⟨d,s,rfl,ho,hf⟩:=(show GotN w3.heap.size r.1 W4 xs5 from hE 5 xs5 rfl)
   obtain⟨p,c,rfl⟩:=ho.shape
   have HO:=Hd ho
   have HT5:=Hd (HT3.out.trans hT5)
   have y0:=hT5.box HX3.out hP (Nat.le_refl _)
   have HY0:=Hd y0
   obtain⟨a0,a1,a2,a3,a4⟩:=cells5 y0
   have z0:=frozen5 y0 0
   have z1:=frozen5 y0 1
   have z2:=frozen5 y0 2
   have z3:=frozen5 y0 3
   have z4:=frozen5 y0 4
   have hb3:w.heap.size<w3.heap.size:=(Array.getElem?_eq_some_iff.1 HX3.out).1
   clear C0 hE hS ho hT5 y0 hf
   go_wp2_with fail
   refine ret_node Tryz.results151 rfl (heap_set5 HY0.out _ _ _ _ _) rfl ?_
   exact NodeRes.stored hP HL.out HT5.out HO.out HFit.out (Nat.le_refl _) hb3 _ _ _ _ _
  rw[if_neg hk3] at hR
  have hk3':((kd:Int)==3)=false:=by simp;omega
  subst hR
  have HO4:=Hd (pof_res HTS.out HT3.out.2 4 14 (by omega))
  obtain⟨c0,_,_,_,_,_⟩:=cells3 HM3.out
  generalize ofM ts σ 4 14=r at *
  clear hk5 hk3
  go_wp2_with fail
  refine Calls.mono HO4.out ?_
  rintro e w4 ⟨d,s,rfl,hT4,ho,hf⟩
  obtain⟨p,c,rfl⟩:=ho.shape
  have HT4:=Hd (HT3.out.trans hT4)
  have y0:=hT4.box HX3.out hP (Nat.le_refl _)
  have HY0:=Hd y0
  obtain⟨a0,a1,a2,a3,a4⟩:=cells5 y0
  have z0:=frozen5 y0 0
  have z1:=frozen5 y0 1
  have z2:=frozen5 y0 2
  have z3:=frozen5 y0 3
  have z4:=frozen5 y0 4
  have HO:=Hd ho
  have HF:=Hd hf
  have hb3:w.heap.size<w3.heap.size:=(Array.getElem?_eq_some_iff.1 HX3.out).1
  clear hT4 y0 ho hf c0
  go_wp2_with fail
  refine ret_node Tryz.results151 rfl (heap_set5 HY0.out _ _ _ _ _) rfl ?_
  exact NodeRes.stored hP HL.out HT4.out HO.out HF.out (Nat.le_refl _) hb3 _ _ _ _ _
theorem scells_heap {g:Nat}{t:TypeId}:∀(vs:List Value)(o:Nat)(w:World)(cs:Array Value),w.heap[g]? = some (.cells cs t (0,0))→o+vs.length≤cs.size →
  ∃cs':Array Value,(w.setCells g o vs).heap[g]? = some (.cells cs' t (0,0))∧cs'.size=cs.size∧(∀i v,vs[i]? = some v→cs'[o+i]? = some v)∧∀k,k<o∨o+vs.length≤k→cs'[k]? = cs[k]?:=by
 intro vs
 induction vs with
 | nil=>intro o w cs h _;exact⟨cs,h,rfl,fun i v hv=>by simp at hv,fun _ _=>rfl⟩
 | cons x r ih =>
  intro o w cs h hl
  simp only[List.length_cons] at hl
  obtain⟨cs',h1,h2,h3,h4⟩:=ih (o+1) _ _ (heap_set h o x) (by simpa using (by omega))
  refine⟨cs',h1,by simpa using h2,fun i v hv=>?_,fun k hk=>?_⟩
  ·cases i with
   | zero =>
    simp at hv
    subst hv
    rw[Nat.add_zero,h4 o (Or.inl (by omega)),Array.getElem?_setIfInBounds_self,if_pos (by omega)]
   | succ i =>
    have:=h3 i v (by simpa using hv)
    rw[show o+1+i=o+(i+1) by omega] at this
    exact this
  ·simp only[List.length_cons] at hk
   rw[h4 k (by omega),Array.getElem?_setIfInBounds_ne (by omega)]
theorem scells_below {B g:Nat}(hg:B≤g){W:World}:∀(vs:List Value)(o:Nat)(w:World),Below B W w→Below B W (w.setCells g o vs):=by
 intro vs
 induction vs with
 | nil=>intro o w h;exact h
 | cons x r ih=>intro o w h;exact ih (o+1) _ (h.setCell (p:=⟨g,o,none⟩) hg x)
theorem scells_whole {g:Nat}{t:TypeId}{vs:List Value}{w:World}{cs:Array Value}(h:w.heap[g]? = some (.cells cs t (0,0)))(hl:vs.length=cs.size):(w.setCells g 0 vs).heap[g]? = some (.cells vs.toArray t (0,0)):=by
 obtain⟨cs',h1,h2,h3,_⟩:=scells_heap vs 0 w cs h (by omega)
 have:cs'=vs.toArray:=by
  apply Array.ext_getElem?
  intro i
  by_cases hi:i<vs.length
  ·have:=h3 i vs[i] (by simp)
   rw[Nat.zero_add] at this
   rw[this];simp
  ·rw[Array.getElem?_eq_none (by omega)]
   simp;omega
 rw[h1,this]
theorem there_whole {g:Nat}{t:TypeId}{w:World}{cs:Array Value}(h:w.heap[g]? = some (.cells cs t (0,0))){n:Nat}(hn:n=cs.size):w.there g 0 n:=fun j hj=>by
 refine⟨?_,by simp[World.frozen?,h]⟩
 rw[cell_of_row _ _ _ _ _ _ h,Array.getElem?_eq_getElem (by omega)]
 rfl
theorem range_whole {g:Nat}{t:TypeId}{w:World}{vs:List Value}(h:w.heap[g]? = some (.cells vs.toArray t (0,0))):w.rangeAt g 0 vs:=fun j v hv=>by
 rw[cell_of_row _ _ _ _ _ _ h,Nat.zero_add]
 simpa using hv
def lv30:List ByteArray:=lvl6 0++lvl6 1++lvl6 2++lvl6 3++lvl6 4
def blank30:Array Value:=Array.replicate 30 (.string ⟨#[]⟩)
theorem lv30_one:(lv30.map Value.string).toArray.all (·.oneCell')=true:=by
 refine all_oneCell_toArray fun v hv=>?_
 obtain⟨s,_,rfl⟩:=List.mem_map.1 hv
 rfl
theorem ret_mid {fn:Func}{R:Ending→World→Prop}{a:Act}{W:World}{slot T:Nat}{ty:TypeId}{u:Value}(hr:fn.results=#[.cell slot ty])(hs:a.tmps.getD slot undef=.pointer (some ⟨T,0,none⟩))
  (hl:(loadVar ty ⟨T,0,none⟩).run Tryz.prog W=.ok u W) (hd:a.defers=[]) (hR:R (.returned u) W):bodyPost Tryz.prog fn R .ret a W:=by
 have hs':a.tmps[slot]?.getD undef=.pointer (some ⟨T,0,none⟩):=by simpa using hs
 refine bodyPost_ret (v:=u) ?_ hd hR
 simp[results,hr,hs',asAddr,hl]
theorem plevels_any (w:World):Calls Tryz.prog 150 #[] w fun e w'=>e=.returned (.agg (lv30.map Value.string).toArray)∧Below w.heap.size w w':=by
 go_enter Tryz.func150,Tryz.ntmps150
 go_upto_region 1 with fail
 iterate 19 (go_step)
 have HN:=heap_alloc_new w (.cells blank30 226)
 have HB:=(Below.refl _ w).alloc (Nat.le_refl _) (.cells blank30 226)
 change wpList _ _ _ _ _ (w.alloc (.cells blank30 226))
 generalize w.alloc (.cells blank30 226)=w1 at *
 refine wpList_store_mid rfl 226 _ _ rfl w.heap.size 0 (lv30.map Value.string).toArray rfl rfl (there_whole HN rfl) (by kernel_rfl) lv30_one ?_
 have HN2:=scells_whole (vs:=lv30.map Value.string) HN rfl
 have HB2:=scells_below (Nat.le_refl _) (lv30.map Value.string) 0 w1 HB
 change wpList _ _ _ _ _ (w1.setCells w.heap.size 0 (lv30.map Value.string))
 generalize w1.setCells w.heap.size 0 (lv30.map Value.string)=w2 at *
 clear HN HB w1
 generalize hlv:(lv30.map Value.string)=vs
 rw[hlv] at HN2
 have hlen:vs.length=30:=by rw[←hlv];rfl
 go_wp2_with fail
 have hload:=run_loadVar_mid (P:=Tryz.prog) w2 w.heap.size 0 226 vs (.array 5 225) (range_whole HN2) (by kernel_rfl) rfl (by rw[hlen];kernel_rfl)
 exact ret_mid Tryz.results150 rfl hload rfl ⟨by rw[hlv],HB2⟩
end Go.Proofs.YtglbjooofdnbkaaGreatDoor
