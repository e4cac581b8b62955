/- Several texts joined, each with its own sentence and conditions ahead of it: ScanM, ScanN, TreeS. -/
import Derived.Test.YtglbjooofdnbkaaGreatDoorMC
import Derived.Test.YtglbjooofdnbkaaGreatDoorMG
namespace Go.Proofs.YtglbjooofdnbkaaGreatDoor
set_option maxHeartbeats 1000000
set_option maxRecDepth 100000
open Go.RowKit
theorem lexCells_at (l:List Tok)(i:Nat)(t:Tok)(h:l[i]? = some t):(lexCells l)[3*i]? = some (.int .u8 t.1)∧(lexCells l)[3*i+1]? = some (.string t.2.1)∧(lexCells l)[3*i+2]? = some (.int .i64 t.2.2):=by
 induction l generalizing i with
 | nil=>simp at h
 | cons a r ih =>
  have e:lexCells (a::r)=tokCells a++lexCells r:=rfl
  have h3:(tokCells a).length=3:=rfl
  cases i with
  | zero =>
   obtain rfl:a=t:=by simpa using h
   rw[e]
   exact⟨rfl,rfl,rfl⟩
  | succ i =>
   have h':r[i]? = some t:=by simpa using h
   obtain⟨a1,a2,a3⟩:=ih i h'
   rw[e]
   refine⟨?_,?_,?_⟩
   ·rw[List.getElem?_append_right (by omega),h3,show 3*(i+1)-3=3*i from by omega];exact a1
   ·rw[List.getElem?_append_right (by omega),h3,show 3*(i+1)+1-3=3*i+1 from by omega];exact a2
   ·rw[List.getElem?_append_right (by omega),h3,show 3*(i+1)+2-3=3*i+2 from by omega];exact a3
theorem lexRow {w:World}{B n:Nat}{v:Value}{l:List Tok}(h:w.ownsRow B 119 3 v n (lexCells l))(hn:0<n) :
  ∃g cap,v=.slice (some ⟨g,0,none⟩) n cap∧g<w.heap.size∧B≤g∧∀i t,l[i]? = some t→w.cell? ⟨g,i*3,none⟩=some (.int .u8 t.1)∧w.cell? ⟨g,i*3+1,none⟩=some (.string t.2.1)∧w.cell? ⟨g,i*3+2,none⟩=some (.int .i64 t.2.2):=by
 obtain⟨g,cap,rfl,hB,hlt⟩:∃g cap,v=.slice (some ⟨g,0,none⟩) n cap∧B≤g∧g<w.heap.size:=by
  rcases h.2 with ⟨_,rfl⟩|⟨g,cap,cur,rfl,hg,hh,_⟩
  ·omega
  ·exact⟨g,cap,rfl,hg,(Array.getElem?_eq_some_iff.1 hh).1⟩
 refine⟨g,cap,rfl,hlt,hB,fun i t ht=>?_⟩
 obtain⟨a1,a2,a3⟩:=lexCells_at l i t ht
 have hc:=h.cells (g:=g) rfl
 have e:∀j,((⟨g,0,none⟩:Addr).add j)=⟨g,j,none⟩:=fun j=>by
  unfold Addr.add
  by_cases h0:j=0
  ·rw[if_pos h0,h0]
  ·rw[if_neg h0];simp
 have b1:=hc _ _ a1
 have b2:=hc _ _ a2
 have b3:=hc _ _ a3
 rw[e] at b1 b2 b3
 rw[Nat.mul_comm 3 i] at b1 b2 b3
 exact⟨b1,b2,b3⟩
theorem tokens_at (s:ByteArray)(w:World)(hs:s.size≤16384)(ht:AsciiTab w)(o:List Tok×Option (Nat×Nat))(ho:toksFrom s 0=o) :
  Calls Tryz.prog 43 #[.string s] w fun e W=>Below w.heap.size w W ∧
   ((o.2=none∧∃v,e=.returned (.tuple #[v,.agg #[.int .i64 0,.int .i64 0]])∧W.ownsRow w.heap.size 119 3 v (o.1.length+1) (lexCells (o.1++[(7,⟨#[]⟩,s.size)]))) ∨
    ∃er pl,o.2=some (er,pl)∧e=.returned (.tuple #[.slice none 0 0,.agg #[.int .i64 er,.int .i64 pl]])):=by
 subst ho
 exact tokens_any s w hs ht
theorem toks_err' (s:ByteArray):∀(f k er pl:Nat),(toks f s k).2=some (er,pl)→er≠0:=by
 intro f
 induction f with
 | zero=>intro k er pl h;cases h
 | succ f ih =>
  intro k er pl h
  unfold toks at h
  split at h
  ·split at h
   ·exact ih _ _ _ h
   ·rename_i h0
    injection h with h
    injection h with h1 h2
    subst h1
    exact h0
  ·cases h
theorem toksFrom_err' (s:ByteArray)(k er pl:Nat)(h:(toksFrom s k).2=some (er,pl)):er≠0:=toks_err' s _ k er pl h
def QuotePost (t:ByteArray) (w:World) (e:Ending) (w':World):Prop:=
 Below w.heap.size w w'∧∃p n c er at',e=.returned (.tuple #[.slice p n c,.agg #[.int .i64 er,.int .i64 at']])∧(0:Int)≤er ∧
  ((er≠0∧oneTok t=false)∨(er=0∧n≠2∧oneTok t=false)∨(er=0∧n=2∧∃g tx,p=some ⟨g,0,none⟩∧g<w'.heap.size∧w'.cell? ⟨g,1,none⟩=some (.string tx)∧oneTok t=(tx.toList==t.toList)))
theorem quote_any (t:ByteArray)(w:World)(ht:AsciiTab w):Calls Tryz.prog 43 #[.string (quoteT t)] w (QuotePost t w):=by
 by_cases hs:(quoteT t).size≤16384
 ·refine (tokens_at (quoteT t) w hs ht _ rfl).mono ?_
  rintro e W ⟨hb,(⟨hf,v,rfl,hrow⟩|⟨er,pl,hf,rfl⟩)⟩
  ·obtain⟨g,cap,rfl,hg,_,hc⟩:=lexRow hrow (by omega)
   refine⟨hb,_,_,_,_,_,rfl,by omega,?_⟩
   right
   by_cases hl:(toksFrom (quoteT t) 0).1.length=1
   ·right
    refine⟨rfl,by omega,?_⟩
    generalize hto:toksFrom (quoteT t) 0=o at *
    obtain⟨l,f⟩:=o
    dsimp only at hf hl hc
    match l,hl with
    | [x],_ =>
     refine⟨g,x.2.1,rfl,hg,(hc 0 x rfl).2.1,?_⟩
     unfold oneTok
     rw[hto]
     dsimp only
     rw[hf]
     simp[ByteArray.toList_eq]
   ·left
    refine⟨rfl,by omega,?_⟩
    unfold oneTok
    rw[Bool.and_eq_false_iff]
    right
    rw[beq_eq_false_iff_ne]
    intro h
    have:=congrArg List.length h
    rw[List.length_map] at this
    exact hl this
  ·refine⟨hb,_,_,_,_,_,rfl,by omega,Or.inl ⟨by have:=toksFrom_err' _ _ _ _ hf;omega,?_⟩⟩
   unfold oneTok
   rw[hf];rfl
 ·refine (tokens_long (quoteT t) w (by omega)).mono ?_
  rintro e W ⟨rfl,hb⟩
  refine⟨hb,_,_,_,_,_,rfl,by omega,Or.inl ⟨by omega,?_⟩⟩
  rw[oneTok_named,named_short _ (by rw[quoteT_size] at hs;omega)]
theorem cells2' {w:World}{T:Nat}{a b:Value}{t:TypeId}(h:w.heap[T]? = some (.cells #[a,b] t (0,0))) :
  w.cell? ⟨T,0,none⟩=some a∧w.cell? ⟨T,1,none⟩=some b∧w.frozen? ⟨T,0,none⟩=false∧w.frozen? ⟨T,1,none⟩=false:=by
 simp[World.cell?,World.frozen?,h]
theorem quoteT_app (t:ByteArray):quoteT t=(⟨#[39]⟩:ByteArray)++t:=by
 apply ByteArray.ext
 apply Array.toList_inj.1
 rw[quoteT_list,ByteArray.data_append,Array.toList_append]
 rfl
theorem lookNamed_any (kd:Nat)(t:ByteArray)(nm pl:Int)(p:Option Addr)(n c:Nat)(word:Bool)(w:World)(ht:AsciiTab w)(hts:t.size≤72007) :
  Calls Tryz.prog 52 #[.agg #[.int .u8 kd,.string t,.int .i64 nm,.int .i64 pl,.slice p n c],.bool word] w (BoolPost (namedF t.data.toList&&(word||!wordB t.data.toList)) w):=by
 have hb0:Below w.heap.size w (w.alloc (.cells #[.int .u8 kd,.string t,.int .i64 nm,.int .i64 pl,.slice p n c] 69)):=(Below.refl _ w).alloc (Nat.le_refl _) _
 have h0:=heap_alloc_new w (.cells #[.int .u8 kd,.string t,.int .i64 nm,.int .i64 pl,.slice p n c] 69)
 have hs0:w.heap.size<(w.alloc (.cells #[.int .u8 kd,.string t,.int .i64 nm,.int .i64 pl,.slice p n c] 69)).heap.size:=by simp
 have hq:=quote_any t _ (ht.below hb0)
 rw[quoteT_app] at hq
 have HQ:=Hd hq
 clear hq
 have HT0:=Hd (ht.below hb0)
 have H0:=Hd h0
 have HB0:=Hd hb0
 have HS0:=Hd hs0
 clear ht h0 hb0 hs0
 go_enter Tryz.func52,Tryz.ntmps52
 go_wp2_with fail
 refine Calls.mono HQ.out ?_
 rintro e w1 ⟨hb1,p',n',c',er,at',rfl,her,hcase⟩
 have HCase:=Hd hcase
 have H1:=Hd (heap_below hb1 H0.out HS0.out)
 have HB1:=Hd (HB0.out.trans (hb1.mono HB0.out.size))
 have HT1:=Hd (HT0.out.below hb1)
 clear hcase hb1 HQ HT0
 go_wp2_with fail
 have hbx:=(Below.refl _ w1).alloc (Nat.le_refl _) (.cells #[.int .i64 er,.int .i64 at'] 35)
 have hl1:w.heap.size<w1.heap.size:=(Array.getElem?_eq_some_iff.1 H1.out).1
 have H2:=Hd (heap_below hbx H1.out hl1)
 have F2:=Hd (heap_alloc_new w1 (.cells #[.int .i64 er,.int .i64 at'] 35))
 have HB2:=Hd (HB1.out.trans (hbx.mono HB1.out.size))
 have HT2:=Hd (HT1.out.below hbx)
 have HG2:=Hd (fun g tx (h1:g<w1.heap.size) (h2:w1.cell? ⟨g,1,none⟩=some (.string tx))=>(hbx.cell (p:=⟨g,1,none⟩) h1).trans h2)
 generalize w1.alloc (.cells #[.int .i64 er,.int .i64 at'] 35)=w2 at *
 obtain⟨f0,f1,_,_⟩:=cells2' F2.out
 obtain⟨b0,b1,b2,b3,b4⟩:=cells5 H2.out
 have E0:=fun x:Wb w2=>x.cell f0
 have T1:=fun x:Wb w2=>x.cell b1
 clear hbx f1 b0 b2 b3 b4
 rcases HCase.out with ⟨h1,h2⟩|⟨h1,h2,h3⟩|⟨h1,h2,g,tx,rfl,hg,hc,h3⟩
 ·have he:(er==0)=false:=by simpa using h1
  have HO:=Hd h2
  clear h1 h2 HCase f0 b1
  refine wp_region_below (by kernel_rfl) (by kernel_rfl) ?_
  repeat (go_big_quiet_step (fail))
  refine wpQuiet_nil ?_
  intro W2 hw'
  have HBB:=Hd (HB2.out.trans ((wb_below hw').mono HB2.out.size))
  clear hw' E0 T1
  go_wp2_with fail
  go_ret
  exact⟨ret_bool (by rw[←oneTok_named,HO.out];rfl),HBB.out⟩
 ·have he:(er==0)=true:=by simpa using h1
  have hn2:((n':Int)==2)=false:=by simp;omega
  have HO:=Hd h3
  clear h1 h2 h3 HCase f0 b1
  refine wp_region_below (by kernel_rfl) (by kernel_rfl) ?_
  repeat (go_big_quiet_step (fail))
  refine wpQuiet_nil ?_
  intro W2 hw'
  have HBB:=Hd (HB2.out.trans ((wb_below hw').mono HB2.out.size))
  clear hw' E0 T1
  go_wp2_with fail
  go_ret
  exact⟨ret_bool (by rw[←oneTok_named,HO.out];rfl),HBB.out⟩
 ·subst h1
  subst h2
  have gc:=HG2.out g tx hg hc
  have G1:=fun x:Wb w2=>x.cell gc
  cases htx:(tx.toList==t.toList)
  ·rw[htx] at h3
   have HO:=Hd h3
   clear h3 HCase f0 b1 hc gc
   refine wp_region_below (by kernel_rfl) (by kernel_rfl) ?_
   repeat (go_big_quiet_step (fail))
   refine wpQuiet_nil ?_
   intro W2 hw'
   have HBB:=Hd (HB2.out.trans ((wb_below hw').mono HB2.out.size))
   clear hw' E0 T1 G1
   go_wp2_with fail
   go_ret
   exact⟨ret_bool (by rw[←oneTok_named,HO.out];rfl),HBB.out⟩
  ·rw[htx] at h3
   have HO:=Hd h3
   clear h3 HCase
   cases word
   ·clear E0 T1 G1
    have hl2:w.heap.size<w2.heap.size:=(Array.getElem?_eq_some_iff.1 H2.out).1
    have hl3:w1.heap.size<w2.heap.size:=(Array.getElem?_eq_some_iff.1 F2.out).1
    have hl4:g<w2.heap.size:=by omega
    clear HG2 HB0 HS0 H0 H1 HB1 HT1 H2 F2 hl1 hg hts her
    go_region_held3 (fun w'=>w'.cell? ⟨w.heap.size,1,none⟩=some (.string t)∧w'.cell? ⟨w1.heap.size,0,none⟩=some (.int .i64 0)∧w'.cell? ⟨g,1,none⟩=some (.string tx))
     (first
      | (exact⟨by assumption,by assumption,by assumption⟩)
      | (exact⟨(World.cell?_alloc_lt w2 _ ⟨w.heap.size,1,none⟩ hl2).trans b1,(World.cell?_alloc_lt w2 _ ⟨w1.heap.size,0,none⟩ hl3).trans f0,(World.cell?_alloc_lt w2 _ ⟨g,1,none⟩ hl4).trans gc⟩))
     (first
      | (go_at_call 84;refine (words_any _ (HT2.out.below (Below.refl _ _).drew)).mono ?_;rintro e w6 ⟨rfl,rfl⟩)
      | (go_at_call 83;refine (contains_words _ _ t _ (by exact heap_alloc_new w2 _)).mono ?_;rintro e w6 ⟨rfl,rfl⟩))
    have hb6:Below w2.heap.size w2 (w2.alloc (.cells (wordsL.map Value.string).toArray 9)).drew:=((Below.refl _ w2).alloc (Nat.le_refl _) _).drew
    have HBB:=Hd (HB2.out.trans (hb6.mono HB2.out.size))
    clear hb6 b1 f0 gc hc
    go_wp2_with fail
    go_ret
    exact⟨ret_bool (by rw[←oneTok_named,HO.out];rfl),HBB.out⟩
   ·clear f0 b1 hc gc
    refine wp_region_below (by kernel_rfl) (by kernel_rfl) ?_
    repeat (go_big_quiet_step (fail))
    refine wpQuiet_nil ?_
    intro W2 hw'
    have HBB:=Hd (HB2.out.trans ((wb_below hw').mono HB2.out.size))
    clear hw' E0 T1 G1
    go_wp2_with fail
    go_ret
    exact⟨ret_bool (by rw[←oneTok_named,HO.out];rfl),HBB.out⟩
end Go.Proofs.YtglbjooofdnbkaaGreatDoor
