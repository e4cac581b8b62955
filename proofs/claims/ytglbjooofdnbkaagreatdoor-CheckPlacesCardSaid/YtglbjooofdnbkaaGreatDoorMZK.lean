/- Several texts joined, each with its own sentence and conditions ahead of it: SimA, SlimP, CutA, RightA, ParsP. -/
import Derived.Test.YtglbjooofdnbkaaGreatDoorMX
import Derived.Test.YtglbjooofdnbkaaGreatDoorME
import Derived.Test.YtglbjooofdnbkaaGreatDoorMDD
import Derived.Test.YtglbjooofdnbkaaGreatDoorMXN
import Derived.Test.YtglbjooofdnbkaaGreatDoorMJ
import Derived.RegionTactic
namespace Go.Proofs.YtglbjooofdnbkaaGreatDoor
set_option maxHeartbeats 4000000
set_option maxRecDepth 100000
open Go.RowKit
section
variable {ts us:List Tok} {o d m:Nat} {e:Bool}
end
theorem loopM_succ (ts:List Tok)(ex:PS→Tree×PS)(lvl:Nat)(pl:Int)(g:Nat)(T:Tree)(σ:PS) :
  loopM ts ex lvl pl (g+1) T σ=if isM ts σ (lvl6 lvl)=true then (if lvl=2 then (.mk 16 (txM ts σ) 0 pl [T,(ex (nextM ts σ)).1],(ex (nextM ts σ)).2) else loopM ts ex lvl pl g (.mk 16 (txM ts σ) 0 pl [T,(ex (nextM ts σ)).1]) (ex (nextM ts σ)).2) else (T,σ):=rfl
theorem exM_lt {ts:List Tok}:∀(f lvl:Nat)(σ:PS),σ.1<ts.length→(exM ts f lvl σ).2.1<ts.length:=by
 intro f
 have hn:∀σ:PS,σ.1<ts.length→(nextM ts σ).1<ts.length:=fun σ h=>nextK_lt h
 have hw:∀(σ:PS) (x:ByteArray),σ.1<ts.length→(wantM ts σ x).1<ts.length:=fun σ x h=>by
  unfold wantM wantK skipK;dsimp only;split
  ·exact nextK_lt h
  ·exact h
 have ho:∀(σ:PS) (a b:Nat),σ.1<ts.length→(ofM ts σ a b).2.1<ts.length:=fun σ a b h=>nextK_lt h
 induction f with
 | zero=>intro lvl σ h;exact h
 | succ f ih =>
  intro lvl σ h
  unfold exM
  (repeat' split)
  ·exact h
  ·exact ih _ _ (hn _ h)
  ·exact hw _ _ (ih _ _ (hn _ h))
  ·exact ho _ _ _ h
  ·exact ho _ _ _ h
  ·exact ho _ _ _ h
  ·have:∀(g:Nat) (T:Tree) (σ:PS) (pl:Int),σ.1<ts.length→(loopM ts (exM ts f (lvl+1)) lvl pl g T σ).2.1<ts.length:=by
    intro g
    induction g with
    | zero=>intro T σ pl h;exact h
    | succ g ihg =>
     intro T σ pl h
     unfold loopM
     split
     ·dsimp only
      split
      ·exact ih _ _ (hn _ h)
      ·exact ihg _ _ _ (ih _ _ (hn _ h))
     ·exact h
   exact this _ _ _ _ (ih _ _ h)
theorem next_lt {ts:List Tok}{σ:PS}(h:σ.1<ts.length):(nextM ts σ).1<ts.length:=nextK_lt h
theorem want_in {ts:List Tok}{σ:PS}(h:σ.1<ts.length)(x:ByteArray):(wantM ts σ x).1<ts.length:=by
 unfold wantM wantK skipK
 dsimp only
 split
 ·exact nextK_lt h
 ·exact h
theorem of_in {ts:List Tok}{σ:PS}(h:σ.1<ts.length)(a b:Nat):(ofM ts σ a b).2.1<ts.length:=nextK_lt h
theorem want_ok {ts:List Tok}{σ:PS}{x:ByteArray}(h:(wantM ts σ x).2=false):σ.2=false:=by
 cases hs:σ.2
 ·rfl
 ·rw[wantM_bad hs] at h;cases h
theorem want_step {ts:List Tok}(hts:TsOk ts){σ:PS}(hσ:σ.1<ts.length){x:ByteArray}(h:(wantM ts σ x).2=false):(wantM ts σ x).1=σ.1+1:=by
 have h0:=want_ok h
 have hi:isM ts σ [x]=true:=by
  have:(!(!σ.2&&isT (tokM ts σ.1) [x]))=false:=h
  unfold isM
  simpa using this
 obtain⟨q1,_,_⟩:=next_on hts hσ hi
 rw[←q1]
 show skipK ts σ.1 σ.2 (tokM ts σ.1) [x]=_
 rw[←(skipM_place ts σ [x]).1]
 unfold skipM
 rw[if_pos hi]
theorem rowLoop_succ (ts:List Tok)(one:PS→Tree×PS)(g:Nat)(ks:List Tree)(σ:PS) :
  rowLoop ts one (g+1) ks σ=if isM ts σ [tComma]=true then rowLoop ts one g (ks++[(one (nextM ts σ)).1]) (one (nextM ts σ)).2 else (ks,σ):=rfl
theorem upTo_succ (ts:List Tok)(one:PS→Tree×PS)(stop:ByteArray)(g:Nat)(ks:List Tree)(σ:PS) :
  upTo ts one stop (g+1) ks σ=if σ.2=true then (ks,σ) else if isM ts σ [stop]=true then (ks,σ) else upTo ts one stop g (ks++[(one σ).1]) (one σ).2:=rfl
section
variable {ts us:List Tok} {o d m:Nat} {one one':PS→Tree×PS}
theorem rowLoop_lt (hlt:∀σ:PS,σ.1<ts.length→(one σ).2.1<ts.length):∀(g:Nat)(ks:List Tree)(σ:PS),σ.1<ts.length→(rowLoop ts one g ks σ).2.1<ts.length:=by
 intro g
 induction g with
 | zero=>intro ks σ h;exact h
 | succ g ih =>
  intro ks σ h
  rw[rowLoop_succ]
  split
  ·exact ih _ _ (hlt _ (next_lt h))
  ·exact h
theorem upTo_lt (hlt:∀σ:PS,σ.1<ts.length→(one σ).2.1<ts.length)(stop:ByteArray):∀(g:Nat)(ks:List Tree)(σ:PS),σ.1<ts.length→(upTo ts one stop g ks σ).2.1<ts.length:=by
 intro g
 induction g with
 | zero=>intro ks σ h;exact h
 | succ g ih =>
  intro ks σ h
  rw[upTo_succ]
  split
  ·exact h
  ·split
   ·exact h
   ·exact ih _ _ (hlt _ h)
theorem upTo_bad (stop:ByteArray){σ:PS}(h:σ.2=true)(g:Nat)(ks:List Tree):upTo ts one stop g ks σ=(ks,σ):=by
 cases g with
 | zero=>rfl
 | succ g=>rw[upTo_succ,if_pos h]
theorem rowM_lt (hlt:∀σ:PS,σ.1<ts.length→(one σ).2.1<ts.length){σ:PS}(hσ:σ.1<ts.length):(rowM ts one σ).2.1<ts.length:=rowLoop_lt hlt _ _ _ (hlt _ hσ)
theorem listM_lt (hlt:∀σ:PS,σ.1<ts.length→(one σ).2.1<ts.length){σ:PS}(hσ:σ.1<ts.length):(listM ts one σ).2.1<ts.length:=by
 unfold listM
 split
 ·exact next_lt (want_in hσ _)
 ·exact want_in (rowM_lt hlt (want_in hσ _)) _
theorem numM_lt {σ:PS}(h:σ.1<ts.length):(numM ts σ).2.1<ts.length:=by
 unfold numM
 split
 ·exact next_lt h
 ·exact h
theorem actM_lt {σ:PS}(h:σ.1<ts.length):(actM ts σ).2.1<ts.length:=by
 have hx:∀σ:PS,σ.1<ts.length→(exprM ts σ).2.1<ts.length:=fun σ h=>exM_lt _ _ _ h
 unfold actM
 (repeat' split)
 ·exact want_in (listM_lt hx (of_in (next_lt h) _ _)) _
 ·exact want_in (numM_lt (next_lt h)) _
 ·exact want_in (rowM_lt hx (next_lt h)) _
 ·exact want_in (want_in h _) _
theorem salM_lt {σ:PS}(h:σ.1<ts.length):(salM ts σ).2.1<ts.length:=by
 unfold salM
 (repeat' split)
 ·exact numM_lt (next_lt (next_lt h))
 ·exact numM_lt (next_lt h)
 ·exact h
theorem salM_bad {σ:PS}(h:σ.2=true):(salM ts σ).2.2=true:=by
 unfold salM
 rw[if_neg (by rw[isM_bad h];decide)]
 exact h
end
theorem ruleM_bad {ts:List Tok}{a:Int}{σ:PS}(h:σ.2=true):(ruleM ts a σ).2.2=true:=by
 unfold ruleM
 dsimp only
 have h1:(wantM ts (salM ts (ofM ts σ 2 4).2).2 tLeft).2=true:=wantM_bad (salM_bad (ofM_bad h 2 4)) _
 rw[upTo_bad tTo h1]
 dsimp only
 rw[upTo_bad tRight (wantM_bad h1 _)]
 exact wantM_bad (wantM_bad h1 _) _
theorem argM_lt {ts:List Tok}{σ:PS}(h:σ.1<ts.length):(argM ts σ).2.1<ts.length:=by
 unfold argM
 (repeat' split)
 ·exact next_lt h
 ·exact of_in (next_lt h) 4 14
 ·exact of_in h _ _
 ·exact of_in h _ _
 ·exact of_in h _ _
theorem condM_lt {ts:List Tok}{σ:PS}(h:σ.1<ts.length):(condM ts (argM ts) σ).2.1<ts.length:=by
 unfold condM
 (repeat' split)
 ·exact want_in (exM_lt _ _ _ (next_lt h)) _
 ·exact want_in (listM_lt (fun _ h=>argM_lt h) (of_in (next_lt h) _ _)) _
 ·exact want_in (listM_lt (fun _ h=>argM_lt h) (of_in h _ _)) _
theorem ruleM_lt {ts:List Tok}{a:Int}{σ:PS}(h:σ.1<ts.length):(ruleM ts a σ).2.1<ts.length:=by
 unfold ruleM
 exact want_in (upTo_lt (fun _ h=>actM_lt h) _ _ _ _ (want_in (upTo_lt (fun _ h=>condM_lt h) _ _ _ _ (want_in (salM_lt (of_in h 2 4)) _)) _)) _
theorem declM_lt {ts:List Tok}{σ:PS}(h:σ.1<ts.length):(declM ts (ruleM ts) σ).2.1<ts.length:=by
 unfold declM
 split
 ·exact want_in (listM_lt (fun _ h=>of_in h 2 3) (of_in (next_lt h) _ _)) _
 ·exact ruleM_lt (want_in h _)
theorem declM_on {ts:List Tok}(hts:TsOk ts){σ:PS}(hσ:σ.1<ts.length):(declM ts (ruleM ts) σ).2.2=true∨σ.1<(declM ts (ruleM ts) σ).2.1:=by
 unfold declM
 by_cases h1:isM ts σ [tFact]=true
 ·rw[if_pos h1]
  right
  obtain⟨q1,_,_⟩:=next_on hts hσ h1
  have h2:=ofM_ge ts (nextM ts σ) 2 2
  have h3:=listM_ge (ts:=ts) (fun σ=>ofM_ge ts σ 2 3) (ofM ts (nextM ts σ) 2 2).2
  have h4:=wantM_ge ts (listM ts (fun σ=>ofM ts σ 2 3) (ofM ts (nextM ts σ) 2 2).2).2 tSemi
  dsimp only
  omega
 ·rw[if_neg h1]
  cases h2:(wantM ts σ tRule).2 with
  | true=>exact Or.inl (ruleM_bad h2)
  | false =>
   right
   have h3:=want_step hts hσ h2
   have h4:=ruleM_ge ts (atM ts σ) (wantM ts σ tRule)
   omega
def progL (ts:List Tok):Nat→List Tree→PS→List Tree×PS
 | 0,ks,σ=>(ks,σ)
 | g+1,ks,σ=>if σ.2=true then (ks,σ) else if kdM ts σ=7 then (ks,σ) else progL ts g (ks++[(declM ts (ruleM ts) σ).1]) (declM ts (ruleM ts) σ).2
def progD (ts:List Tok):List Tree×PS:=progL ts (ts.length+1) [] (0,false)
theorem progL_succ (ts:List Tok)(g:Nat)(ks:List Tree)(σ:PS):progL ts (g+1) ks σ=if σ.2=true then (ks,σ) else if kdM ts σ=7 then (ks,σ) else progL ts g (ks++[(declM ts (ruleM ts) σ).1]) (declM ts (ruleM ts) σ).2:=rfl
def Trim:Nat→Tree→Prop
 | 0,T=>T.text.size≤16390∧(0≤T.place∧T.place≤16384)
 | d+1,T=>T.text.size≤16390∧(0≤T.place∧T.place≤16384)∧T.kids.length≤16390∧∀k∈T.kids,Trim d k
theorem Trim.slim:∀{d:Nat}{T:Tree},Trim d T→Slim d T:=by
 intro d
 induction d with
 | zero=>intro T h;exact (show T.text.size≤72007 by have:=h.1;omega)
 | succ d ih=>intro T h;exact⟨by have:=h.1;omega,by have:=h.2.2.1;omega,fun k hk=>ih (h.2.2.2 k hk)⟩
theorem slim_mk {k:Nat}{t:ByteArray}{n p:Int}{l:List Tree}(ht:t.size≤16390)(hp:0≤p∧p≤16384)(hl:l.length≤16390)(h:∀x∈l,∀d,Trim d x):∀d,Trim d (.mk k t n p l):=by
 intro d
 cases d with
 | zero=>exact⟨ht,hp⟩
 | succ d=>exact⟨ht,hp,hl,fun x hx=>h x hx d⟩
section
variable {ts:List Tok}
theorem atM_in (hts:TsOk ts)(σ:PS):0≤atM ts σ∧atM ts σ≤16384:=by
 have:=(tokM_ok hts σ.1).2.2
 unfold atM
 omega
theorem txM_size (hts:TsOk ts)(σ:PS):(txM ts σ).size≤16384:=(tokM_ok hts σ.1).2.1
theorem ofM_slim (hts:TsOk ts)(σ:PS)(a b:Nat):∀d,Trim d (ofM ts σ a b).1:=slim_mk (by have:=(tokM_ok hts σ.1).2.1;omega) (atM_in hts σ) (by simp) (fun x hx=>by cases hx)
theorem zero_slim:∀d,Trim d zeroT:=slim_mk (show (0:Nat)≤16390 by omega) (by omega) (by simp) (fun x hx=>by cases hx)
theorem loopM_slim (hts:TsOk ts){ex:PS→Tree×PS}(hex:∀σ,∀d,Trim d (ex σ).1)(lvl:Nat)(pl:Int)(hpl:0≤pl∧pl≤16384):∀(g:Nat)(T:Tree)(σ:PS),(∀d,Trim d T)→∀d,Trim d (loopM ts ex lvl pl g T σ).1:=by
 intro g
 induction g with
 | zero=>intro T σ h;exact h
 | succ g ih =>
  intro T σ h
  rw[loopM_succ]
  have h2:∀d,Trim d (.mk 16 (txM ts σ) 0 pl [T,(ex (nextM ts σ)).1]):=slim_mk (by have:=txM_size hts σ;omega) hpl (by simp) (fun x hx=>by
   rcases List.mem_cons.1 hx with rfl|hx
   ·exact h
   ·rw[List.mem_singleton] at hx;subst hx;exact hex _)
  split
  ·split
   ·exact h2
   ·exact ih _ _ h2
  ·exact h
theorem exM_slim (hts:TsOk ts):∀(f lvl:Nat)(σ:PS),∀d,Trim d (exM ts f lvl σ).1:=by
 intro f
 induction f with
 | zero=>intro lvl σ;exact zero_slim
 | succ f ih =>
  intro lvl σ
  unfold exM
  (repeat' split)
  ·exact zero_slim
  ·exact slim_mk (by have:=txM_size hts σ;omega) (atM_in hts σ) (by simp) (fun x hx=>by rw[List.mem_singleton] at hx;subst hx;exact ih _ _)
  ·exact ih _ _
  ·exact ofM_slim hts _ _ _
  ·exact ofM_slim hts _ _ _
  ·exact ofM_slim hts _ _ _
  ·exact loopM_slim hts (fun σ=>ih _ σ) _ _ (atM_in hts σ) _ _ _ (ih _ _)
def SlimL (l:List Tree):Prop:=l.length≤16390∧∀x∈l,∀d,Trim d x
theorem slim_push {ks:List Tree}{t:Tree}(h:∀x∈ks,∀d,Trim d x)(ht:∀d,Trim d t):∀x∈ks++[t],∀d,Trim d x:=fun x hx=>by
 rcases List.mem_append.1 hx with hx|hx
 ·exact h x hx
 ·rw[List.mem_singleton] at hx;subst hx;exact ht
theorem rowLoop_slim (hts:TsOk ts)(hn:ts.length≤16385){one:PS→Tree×PS}(hone:∀σ,∀d,Trim d (one σ).1)(hge:∀σ,σ.1≤(one σ).2.1)(hlt:∀σ:PS,σ.1<ts.length→(one σ).2.1<ts.length) :
  ∀(g:Nat) (ks:List Tree) (σ:PS),σ.1<ts.length→ks.length≤σ.1+1→(∀x∈ks,∀d,Trim d x)→SlimL (rowLoop ts one g ks σ).1:=by
 intro g
 induction g with
 | zero=>intro ks σ hσ hl h;exact⟨by show ks.length≤_;omega,h⟩
 | succ g ih =>
  intro ks σ hσ hl h
  rw[rowLoop_succ]
  by_cases hi:isM ts σ [tComma]=true
  ·rw[if_pos hi]
   obtain⟨q1,q2,q3⟩:=next_on hts hσ hi
   have h1:=hge (nextM ts σ)
   exact ih _ _ (hlt _ (by omega)) (by rw[List.length_append,List.length_singleton];omega) (slim_push h (hone _))
  ·rw[if_neg hi]
   exact⟨by show ks.length≤_;omega,h⟩
theorem rowM_slim (hts:TsOk ts)(hn:ts.length≤16385){one:PS→Tree×PS}(hone:∀σ,∀d,Trim d (one σ).1)(hge:∀σ,σ.1≤(one σ).2.1)(hlt:∀σ:PS,σ.1<ts.length→(one σ).2.1<ts.length){σ:PS}(hσ:σ.1<ts.length):SlimL (rowM ts one σ).1:=
 rowLoop_slim hts hn hone hge hlt _ _ _ (hlt _ hσ) (by simp) (fun x hx=>by rw[List.mem_singleton] at hx;subst hx;exact hone _)
theorem listM_slim (hts:TsOk ts)(hn:ts.length≤16385){one:PS→Tree×PS}(hone:∀σ,∀d,Trim d (one σ).1)(hge:∀σ,σ.1≤(one σ).2.1)(hlt:∀σ:PS,σ.1<ts.length→(one σ).2.1<ts.length){σ:PS}(hσ:σ.1<ts.length):SlimL (listM ts one σ).1:=by
 unfold listM
 split
 ·exact⟨by simp,fun x hx=>by cases hx⟩
 ·exact rowM_slim hts hn hone hge hlt (want_in hσ _)
theorem upTo_slim (hn:ts.length≤16385){one:PS→Tree×PS}(hone:∀σ:PS,σ.1<ts.length→∀d,Trim d (one σ).1)(hge:∀σ,σ.1≤(one σ).2.1)(hlt:∀σ:PS,σ.1<ts.length→(one σ).2.1<ts.length)(hon:∀σ:PS,σ.1<ts.length→(one σ).2.2=true∨σ.1<(one σ).2.1)(stop:ByteArray) :
  ∀(g:Nat) (ks:List Tree) (σ:PS),σ.1<ts.length→ks.length≤σ.1+(if σ.2=true then 1 else 0)→(∀x∈ks,∀d,Trim d x)→SlimL (upTo ts one stop g ks σ).1∧(upTo ts one stop g ks σ).1.length≤(upTo ts one stop g ks σ).2.1+(if (upTo ts one stop g ks σ).2.2=true then 1 else 0):=by
 intro g
 induction g with
 | zero =>
  intro ks σ hσ hl h
  refine⟨⟨?_,h⟩,hl⟩
  show ks.length≤_
  split at hl<;>omega
 | succ g ih =>
  intro ks σ hσ hl h
  have done:SlimL ks:=⟨by split at hl<;>omega,h⟩
  rw[upTo_succ]
  by_cases hb:σ.2=true
  ·rw[if_pos hb];exact⟨done,hl⟩
  ·rw[if_neg hb]
   by_cases hi:isM ts σ [stop]=true
   ·rw[if_pos hi];exact⟨done,hl⟩
   ·rw[if_neg hi]
    rw[if_neg hb] at hl
    have h1:=hge σ
    refine ih _ _ (hlt _ hσ) ?_ (slim_push h (hone _ hσ))
    rw[List.length_append,List.length_singleton]
    rcases hon σ hσ with h|h
    ·rw[if_pos h];omega
    ·split<;>omega
theorem argM_slim (hts:TsOk ts)(σ:PS):∀d,Trim d (argM ts σ).1:=by
 unfold argM
 (repeat' split)
 ·exact slim_mk (show (0:Nat)≤16390 by omega) (atM_in hts σ) (by simp) (fun x hx=>by cases hx)
 ·refine slim_mk ?_ (atM_in hts σ) (by simp) (fun x hx=>by cases hx)
  have h1:=txM_size hts (nextM ts σ)
  have h2:(tMinus++txM ts (nextM ts σ)).size=1+(txM ts (nextM ts σ)).size:=by rw[ByteArray.size_append];rfl
  omega
 ·exact ofM_slim hts _ _ _
 ·exact ofM_slim hts _ _ _
 ·exact ofM_slim hts _ _ _
theorem ofM_text (hts:TsOk ts)(σ:PS)(a b:Nat):(ofM ts σ a b).1.text.size≤16390:=by
 have:=(tokM_ok hts σ.1).2.1
 show (tokM ts σ.1).2.1.size≤_
 omega
theorem condM_slim (hts:TsOk ts)(hn:ts.length≤16385){σ:PS}(hσ:σ.1<ts.length):∀d,Trim d (condM ts (argM ts) σ).1:=by
 have hl:∀{ρ:PS},ρ.1<ts.length→SlimL (listM ts (argM ts) ρ).1:=fun h=>listM_slim hts hn (argM_slim hts) (argM_ge ts) (fun _ h=>argM_lt h) h
 unfold condM
 (repeat' split)
 ·exact slim_mk (show (0:Nat)≤16390 by omega) (atM_in hts σ) (by simp) (fun x hx=>by rw[List.mem_singleton] at hx;subst hx;exact exM_slim hts _ _ _)
 ·exact slim_mk (ofM_text hts _ _ _) (atM_in hts σ) (hl (of_in (next_lt hσ) 2 6)).1 (hl (of_in (next_lt hσ) 2 6)).2
 ·exact slim_mk (ofM_text hts _ _ _) (atM_in hts σ) (hl (of_in hσ 2 5)).1 (hl (of_in hσ 2 5)).2
theorem actM_slim (hts:TsOk ts)(hn:ts.length≤16385){σ:PS}(hσ:σ.1<ts.length):∀d,Trim d (actM ts σ).1:=by
 have hx:∀σ:PS,σ.1<ts.length→(exprM ts σ).2.1<ts.length:=fun σ h=>exM_lt _ _ _ h
 have hl:∀{ρ:PS},ρ.1<ts.length→SlimL (listM ts (exprM ts) ρ).1:=fun h=>listM_slim hts hn (fun σ=>exM_slim hts _ _ σ) (exprM_ge ts) hx h
 have hr:∀{ρ:PS},ρ.1<ts.length→SlimL (rowM ts (exprM ts) ρ).1:=fun h=>rowM_slim hts hn (fun σ=>exM_slim hts _ _ σ) (exprM_ge ts) hx h
 unfold actM
 (repeat' split)
 ·exact slim_mk (ofM_text hts _ _ _) (atM_in hts σ) (hl (of_in (next_lt hσ) 2 8)).1 (hl (of_in (next_lt hσ) 2 8)).2
 ·exact slim_mk (show (0:Nat)≤16390 by omega) (atM_in hts σ) (by simp) (fun x hx=>by cases hx)
 ·exact slim_mk (show (0:Nat)≤16390 by omega) (atM_in hts σ) (hr (next_lt hσ)).1 (hr (next_lt hσ)).2
 ·exact slim_mk (show (0:Nat)≤16390 by omega) (atM_in hts σ) (by simp) (fun x hx=>by cases hx)
theorem ruleM_slim (hts:TsOk ts)(hn:ts.length≤16385)(a:Int)(ha:0≤a∧a≤16384){σ:PS}(hσ:σ.1<ts.length):∀d,Trim d (ruleM ts a σ).1:=by
 unfold ruleM
 dsimp only
 have p3:=want_in (salM_lt (of_in hσ (ts:=ts) 2 4)) tLeft
 obtain⟨c1,c2⟩:=upTo_slim hn (fun σ h=>condM_slim hts hn h) (condM_ge (argM_ge ts)) (fun _ h=>condM_lt h) (fun σ h=>condM_on hts (argM_ge ts) (fun _ h=>argM_bad h) h) tTo (ts.length+1) [] _ p3 (Nat.zero_le _) (fun x hx=>by cases hx)
 have p4:=upTo_lt (fun _ h=>condM_lt h) tTo (ts.length+1) [] _ p3
 generalize upTo ts (condM ts (argM ts)) tTo (ts.length+1) [] (wantM ts (salM ts (ofM ts σ 2 4).2).2 tLeft)=cs at *
 have hw:=wantM_ge ts cs.2 tTo
 obtain⟨z1,_⟩:=upTo_slim hn (fun σ h=>actM_slim hts hn h) (actM_ge ts) (fun _ h=>actM_lt h) (fun σ h=>actM_on hts h) tRight (ts.length+1) cs.1 _ (want_in p4 tTo) (by
  by_cases h:cs.2.2=true
  ·rw[if_pos h] at c2;rw[if_pos (wantM_bad h _)];omega
  ·rw[if_neg h] at c2;omega) c1.2
 exact slim_mk (ofM_text hts _ _ _) ha z1.1 z1.2
theorem declM_slim (hts:TsOk ts)(hn:ts.length≤16385){σ:PS}(hσ:σ.1<ts.length):∀d,Trim d (declM ts (ruleM ts) σ).1:=by
 have hl:∀{ρ:PS},ρ.1<ts.length→SlimL (listM ts (fun σ=>ofM ts σ 2 3) ρ).1:=fun h=>listM_slim hts hn (fun σ=>ofM_slim hts σ 2 3) (fun σ=>ofM_ge ts σ 2 3) (fun _ h=>of_in h 2 3) h
 unfold declM
 split
 ·exact slim_mk (ofM_text hts _ _ _) (atM_in hts σ) (hl (of_in (next_lt hσ) 2 2)).1 (hl (of_in (next_lt hσ) 2 2)).2
 ·exact ruleM_slim hts hn _ (atM_in hts σ) (want_in hσ _)
theorem progL_slim (hts:TsOk ts)(hn:ts.length≤16385):∀(g:Nat)(ks:List Tree)(σ:PS),σ.1<ts.length→ks.length≤σ.1+(if σ.2=true then 1 else 0)→(∀x∈ks,∀d,Trim d x)→SlimL (progL ts g ks σ).1:=by
 intro g
 induction g with
 | zero =>
  intro ks σ hσ hl h
  refine⟨?_,h⟩
  show ks.length≤_
  split at hl<;>omega
 | succ g ih =>
  intro ks σ hσ hl h
  have done:SlimL ks:=⟨by split at hl<;>omega,h⟩
  rw[progL_succ]
  by_cases hb:σ.2=true
  ·rw[if_pos hb];exact done
  ·rw[if_neg hb]
   split
   ·exact done
   ·rw[if_neg hb] at hl
    have h1:=declM_ge (ts:=ts) (ruleM_ge ts) σ
    refine ih _ _ (declM_lt hσ) ?_ (slim_push h (declM_slim hts hn hσ))
    rw[List.length_append,List.length_singleton]
    rcases declM_on hts hσ with h|h
    ·rw[if_pos h];omega
    ·split<;>omega
theorem progD_slim (hts:TsOk ts)(hn:ts.length≤16385)(h0:0<ts.length):SlimL (progD ts).1:=progL_slim hts hn _ _ _ h0 (Nat.zero_le _) (fun x hx=>by cases hx)
end
theorem toks_from_ge (s:ByteArray):∀(n p:Nat),s.size-p≤n→∀t∈(toksFrom s p).1,p≤t.2.2:=by
 intro n
 induction n with
 | zero =>
  intro p h t ht
  rw[toksFrom_end s p (by rw[skip_end s p (by omega)];omega)] at ht
  cases ht
 | succ n ih =>
  intro p h t ht
  have hge:=skip_ge s _ p (Nat.le_refl _)
  by_cases hk:skip s p<s.size
  ·by_cases h0:(tokenAt s (skip s p) s[skip s p]).2.2.1=0
   ·obtain⟨n1,n2⟩:=tokenAt_next s (skip s p) hk h0
    rw[toksFrom_ok s p hk h0] at ht
    rcases List.mem_cons.1 ht with rfl|ht
    ·exact hge
    ·have:=ih _ (by omega) t ht;omega
   ·rw[toksFrom_bad s p hk h0] at ht;cases ht
  ·rw[toksFrom_end s p hk] at ht;cases ht
def allTk (s:ByteArray):List Tok:=(toksFrom s 0).1++[(7,⟨#[]⟩,s.size)]
theorem toks_sorted (s:ByteArray):∀(n p:Nat),s.size-p≤n→((toksFrom s p).1).Pairwise (fun a b=>a.2.2<b.2.2)∧∀t∈(toksFrom s p).1,t.2.2<s.size:=by
 intro n
 induction n with
 | zero =>
  intro p h
  rw[toksFrom_end s p (by rw[skip_end s p (by omega)];omega)]
  exact⟨List.Pairwise.nil,fun t ht=>by cases ht⟩
 | succ n ih =>
  intro p h
  have hge:=skip_ge s _ p (Nat.le_refl _)
  by_cases hk:skip s p<s.size
  ·by_cases h0:(tokenAt s (skip s p) s[skip s p]).2.2.1=0
   ·obtain⟨n1,n2⟩:=tokenAt_next s (skip s p) hk h0
    rw[toksFrom_ok s p hk h0]
    obtain⟨i1,i2⟩:=ih (tokenAt s (skip s p) s[skip s p]).2.2.2 (by omega)
    refine⟨List.Pairwise.cons (fun t ht=>?_) i1,fun t ht=>?_⟩
    ·have:=toks_from_ge s _ _ (Nat.le_refl _) t ht
     show skip s p<t.2.2
     omega
    ·rcases List.mem_cons.1 ht with rfl|ht
     ·exact hk
     ·exact i2 t ht
   ·rw[toksFrom_bad s p hk h0]
    exact⟨List.Pairwise.nil,fun t ht=>by cases ht⟩
  ·rw[toksFrom_end s p hk]
   exact⟨List.Pairwise.nil,fun t ht=>by cases ht⟩
theorem toks_fields (s:ByteArray):∀(n p:Nat),s.size-p≤n→p≤s.size→∀t∈(toksFrom s p).1,t.1<7∧t.2.1.size≤s.size:=by
 intro n
 induction n with
 | zero =>
  intro p h hp t ht
  rw[toksFrom_end s p (by rw[skip_end s p (by omega)];omega)] at ht
  cases ht
 | succ n ih =>
  intro p h hp t ht
  have hge:=skip_ge s _ p (Nat.le_refl _)
  by_cases hk:skip s p<s.size
  ·by_cases h0:(tokenAt s (skip s p) s[skip s p]).2.2.1=0
   ·obtain⟨n1,n2⟩:=tokenAt_next s (skip s p) hk h0
    obtain⟨s1,s2,s3⟩:=tokenAt_span s (skip s p) hk h0
    rw[toksFrom_ok s p hk h0] at ht
    rcases List.mem_cons.1 ht with rfl|ht
    ·refine⟨s3,?_⟩
     dsimp only
     omega
    ·exact ih _ (by omega) n2 t ht
   ·rw[toksFrom_bad s p hk h0] at ht;cases ht
  ·rw[toksFrom_end s p hk] at ht;cases ht
theorem allTk_len (s:ByteArray):(allTk s).length=(toksFrom s 0).1.length+1:=by unfold allTk;simp
theorem allTk_ok (s:ByteArray)(hs:s.size≤16384):TsOk (allTk s):=by
 have hf:=toks_fields s _ 0 (Nat.le_refl _) (Nat.zero_le _)
 obtain⟨_,hp⟩:=toks_sorted s _ 0 (Nat.le_refl _)
 refine⟨fun t ht=>?_,fun k t hk hl=>?_⟩
 ·unfold allTk at ht
  rcases List.mem_append.1 ht with ht|ht
  ·obtain⟨a,b⟩:=hf t ht
   have:=hp t ht
   exact⟨by omega,by omega,by omega⟩
  ·rw[List.mem_singleton] at ht
   subst ht
   exact⟨by show 7<256;omega,by show (0:Nat)≤16384;omega,hs⟩
 ·rw[allTk_len] at hl
  unfold allTk at hk
  have hk2:k<((toksFrom s 0).1++[(7,(⟨#[]⟩:ByteArray),s.size)]).length:=(List.getElem?_eq_some_iff.1 hk).1
  rw[List.length_append,List.length_singleton] at hk2
  obtain rfl:k=(toksFrom s 0).1.length:=by omega
  rw[List.getElem?_append_right (Nat.le_refl _),Nat.sub_self] at hk
  have:(7,(⟨#[]⟩:ByteArray),s.size)=t:=by simpa using hk
  rw[←this]
def progT (s:ByteArray):Tree:=.mk 1 ⟨#[]⟩ 0 0 (progD (allTk s)).1
def progR (ts:List Tok) (R:List Tree×PS) (T0:Tree):Tree×Int×Int:=
 if R.2.2=true then (zeroT,202,atM ts R.2)
 else match dpM 30 T0 with
  | some p=>(zeroT,203,p)
  | none=>if rightF 30 T0=true then (T0,0,0) else (zeroT,204,0)
def progM (s:ByteArray):Tree×Int×Int:=
 if 16384<s.size then (zeroT,3,0)
 else match (toksFrom s 0).2 with
  | some (er,pl)=>(zeroT,er,pl)
  | none=>progR (allTk s) (progD (allTk s)) (progT s)
def ListOwn (W:World) (L d:Nat) (ks:List Tree) (v:Value):Prop:=∃(rows:List (List Value)) (Fs:Nat→Nat→Prop),W.ownsRow L 25 5 v ks.length rows.flatten∧RowsOwn W L d ks ks.length v.ownBlock rows Fs
theorem ListOwn.below {W W':World}{L d:Nat}{ks:List Tree}{v:Value}(h:ListOwn W L d ks v)(hb:Below W.heap.size W W'):ListOwn W' L d ks v:=by
 obtain⟨rows,Fs,h1,r1,r2,r3,r4,r5,r6⟩:=h
 refine⟨rows,Fs,ownsRow_below h1 hb,r1,r2,fun i T hi hT=>?_,fun i b hb'=>⟨(r4 i b hb').1,Nat.lt_of_lt_of_le (r4 i b hb').2.1 hb.size,(r4 i b hb').2.2⟩,r5,r6⟩
 obtain⟨a,s,b,c⟩:=r3 i T hi hT
 exact⟨a,s,b,c.below (fun b hb'=>(r4 i b hb').2.1) hb⟩
theorem ListOwn.keep {W W':World}{L d:Nat}{ks:List Tree}{v:Value}(h:ListOwn W L d ks v)(hs:W.heap.size≤W'.heap.size)(hk:∀b,L≤b→b<W.heap.size→W'.heap[b]? = W.heap[b]?):ListOwn W' L d ks v:=by
 obtain⟨rows,Fs,⟨h0,h1⟩,r1,r2,r3,r4,r5,r6⟩:=h
 refine⟨rows,Fs,⟨h0,?_⟩,r1,r2,fun i T hi hT=>?_,fun i b hb'=>⟨(r4 i b hb').1,Nat.lt_of_lt_of_le (r4 i b hb').2.1 hs,(r4 i b hb').2.2⟩,r5,r6⟩
 ·rcases h1 with h1|⟨g,cap,cur,e1,e2,e3,e4⟩
  ·exact Or.inl h1
  ·exact Or.inr ⟨g,cap,cur,e1,e2,(hk g e2 (Array.getElem?_eq_some_iff.1 e3).1).trans e3,e4⟩
 ·obtain⟨a,s,b,c⟩:=r3 i T hi hT
  exact⟨a,s,b,c.keep fun x o hx ho=>(hk x (r4 i x hx).1 (r4 i x hx).2.1).trans ho⟩
theorem ListOwn.low {W:World}{L L' d:Nat}{ks:List Tree}{v:Value}(h:ListOwn W L d ks v)(hL:L'≤L):ListOwn W L' d ks v:=by
 obtain⟨rows,Fs,h1,r1,r2,r3,r4,r5,r6⟩:=h
 exact⟨rows,Fs,ownsRow_base h1 hL,r1,r2,r3,fun i b hb=>⟨Nat.le_trans hL (r4 i b hb).1,(r4 i b hb).2⟩,r5,r6⟩
def ProgRes (w:World) (r:Tree×Int×Int) (e:Ending) (w':World):Prop:=
 ∃(sl:Value),e=.returned (.tuple #[.agg #[.int .u8 r.1.kind,.string r.1.text,.int .i64 r.1.num,.int .i64 r.1.place,sl],.agg #[.int .i64 r.2.1,.int .i64 r.2.2]])∧Below w.heap.size w w'∧OwnAt w' 30 r.1.kids sl (Between w.heap.size w'.heap.size)∧Fits r.1∧(∀d,Trim d r.1)∧ListOwn w' w.heap.size 29 r.1.kids sl
def PPrRel (w:World) (P L cap:Nat) (ts:List Tok) (R:List Tree×PS) (bB:Nat) (W:World):Prop:=
 ∃(g:Nat) (ks:List Tree) (σ:PS) (d:Nat) (rows:List (List Value)) (Fs:Nat→Nat→Prop) (o:Value),progL ts g ks σ=R∧(σ.2=true∨ts.length-σ.1+1≤g)∧ks.length≤σ.1+(if σ.2=true then 1 else 0) ∧
  Turns w P L cap ts σ.1 σ.2 W∧W.heap[bB]? = some (.cells #[.int .u8 1,.string ⟨#[]⟩,.int .i64 0,.int .i64 0,o] 25 (0,0)) ∧
  W.ownsRow (bB+1) 25 5 o ks.length rows.flatten∧RowsOwn W (bB+1) d ks ks.length o.ownBlock rows Fs
theorem own_depth {W:World}:∀{n d:Nat}{ks:List Tree}{sl:Value}{F:Nat→Prop},OwnAt W d ks sl F→(∀t∈ks,dpM n t=none)→OwnAt W n ks sl F:=by
 intro n
 induction n with
 | zero =>
  intro d ks sl F h hn
  have hk:ks=[]:=by
   cases ks with
   | nil=>rfl
   | cons t r=>have:=hn t (List.mem_cons_self ..);cases this
  subst hk
  exact⟨rfl,h.nil⟩
 | succ n ih =>
  intro d ks sl F h hn
  cases d with
  | zero=>exact Or.inl h
  | succ d =>
   rcases h with h|⟨g,cap,cs,Fs,h0,h1,h2,h3,h4,h5,h6,h7,h8,h9⟩
   ·exact Or.inl h
   ·refine Or.inr ⟨g,cap,cs,Fs,h0,h1,h2,h3,h4,h5,h6,fun i T hT=>?_,h8,h9⟩
    obtain⟨hf,s,hc,ho⟩:=h7 i T hT
    refine⟨hf,s,hc,ih ho fun t ht=>?_⟩
    have:=hn T (List.mem_of_getElem? hT)
    unfold dpM at this
    rw[List.findSome?_eq_none_iff] at this
    exact this t ht
theorem ListOwn.depth {W:World}{L d n:Nat}{ks:List Tree}{v:Value}(h:ListOwn W L d ks v)(hn:∀t∈ks,dpM (n+1) t=none):ListOwn W L n ks v:=by
 obtain⟨rows,Fs,h1,r1,r2,r3,r4⟩:=h
 refine⟨rows,Fs,h1,r1,r2,fun i T hi hT=>?_,r4⟩
 obtain⟨a,s,b,c⟩:=r3 i T hi hT
 refine⟨a,s,b,own_depth c fun t ht=>?_⟩
 have:=hn T (List.mem_of_getElem? hT)
 unfold dpM at this
 rw[List.findSome?_eq_none_iff] at this
 exact this t ht
theorem ListOwn.more {W:World}{L d:Nat}{ks:List Tree}{v:Value}(h:ListOwn W L d ks v):ListOwn W L (d+1) ks v:=by
 obtain⟨rows,Fs,h1,r1,r2,r3,r4⟩:=h
 exact⟨rows,Fs,h1,r1,r2,fun i T hi hT=>by obtain⟨a,s,b,c⟩:=r3 i T hi hT;exact⟨a,s,b,c.more⟩,r4⟩
theorem list_none (W:World)(L d:Nat):ListOwn W L d [] (.slice none 0 0):=⟨[],fun _ _=>False,World.ownsRow_nil _ _ _ _,rows_none _ _ _ _⟩
theorem fits_zero:Fits zeroT:=fits_mk (by omega) (by show (0:Nat)≤16384;omega) (by omega) (by omega)
theorem fits_prog (ks:List Tree):Fits (.mk 1 ⟨#[]⟩ 0 0 ks):=fits_mk (by omega) (by show (0:Nat)≤16384;omega) (by omega) (by omega)
theorem below_of_turns {w W0 W:World}{P L cap k:Nat}{bad:Bool}{ts:List Tok}(hb:Below w.heap.size w W0)(hT:Turns W0 P L cap ts k bad W)(hP:w.heap.size≤P):Below w.heap.size w W:=
 ⟨hT.1.os.trans hb.os,hT.1.tape.trans hb.tape,hT.1.output.trans hb.output,Nat.le_trans hb.size hT.1.size,fun i hi=>(hT.1.block i (Nat.lt_of_lt_of_le hi hb.size) (fun e=>by injection e with e;omega)).trans (hb.block i hi)⟩
theorem prog_ret {w W:World}{a:Act}{v0 v1 v2 v3 v4 e1 e2:Value}{R:Ending→World→Prop}(h2:a.tmps.getD 2 undef=.pointer (some ⟨w.heap.size,0,none⟩))(h3:a.tmps.getD 3 undef=.pointer (some ⟨w.heap.size+1,0,none⟩))(hd:a.defers=[])
  (hb0:W.heap[w.heap.size]? = some (.cells #[v0,v1,v2,v3,v4] 25 (0,0))) (hb1:W.heap[w.heap.size+1]? = some (.cells #[e1,e2] 35 (0,0))) (hR:R (.returned (.tuple #[.agg #[v0,v1,v2,v3,v4],.agg #[e1,e2]])) W):bodyPost Tryz.prog Tryz.f24 R .ret a W:=by
 obtain⟨c0,c1,c2,c3,c4⟩:=cells5 hb0
 have d0:W.cell? ⟨w.heap.size+1,0,none⟩=some e1:=by simp[World.cell?,hb1]
 have d1:W.cell? ⟨w.heap.size+1,1,none⟩=some e2:=by simp[World.cell?,hb1]
 have h2':a.tmps[2]?.getD undef=.pointer (some ⟨w.heap.size,0,none⟩):=by simpa using h2
 have h3':a.tmps[3]?.getD undef=.pointer (some ⟨w.heap.size+1,0,none⟩):=by simpa using h3
 refine bodyPost_ret (v:=.tuple #[.agg #[v0,v1,v2,v3,v4],.agg #[e1,e2]]) ?_ hd hR
 simp[results,Tryz.results24,go_sem,h2',h3',c0,c1,c2,c3,c4,d0,d1]
theorem heap_set2 {W:World}{b:Nat}{c0 c1:Value}{t:TypeId}(h:W.heap[b]? = some (.cells #[c0,c1] t (0,0)))(v0 v1:Value) :
  ((W.setCell ⟨b,0,none⟩ v0).setCell ⟨b,1,none⟩ v1).heap[b]? = some (.cells #[v0,v1] t (0,0)):=by
 rw[heap_set (heap_set h 0 v0) 1 v1];rfl
theorem cells2p {W:World}{b:Nat}{c0 c1:Value}{t:TypeId}(h:W.heap[b]? = some (.cells #[c0,c1] t (0,0))):W.cell? ⟨b,0,none⟩=some c0∧W.cell? ⟨b,1,none⟩=some c1∧W.frozen? ⟨b,0,none⟩=false∧W.frozen? ⟨b,1,none⟩=false:=by
 refine⟨by simp[World.cell?,h],by simp[World.cell?,h],by simp[World.frozen?,h],by simp[World.frozen?,h]⟩
theorem prog_stored {w W:World}{v0 v1 v2 v3 v4 a0 a1:Value}{q0 q1 q2 q3 q4 x0 x1:Value}(hb:Below w.heap.size w W)(hb0:W.heap[w.heap.size]? = some (.cells #[q0,q1,q2,q3,q4] 25 (0,0)))(hb1:W.heap[w.heap.size+1]? = some (.cells #[x0,x1] 35 (0,0))) :
  Below w.heap.size w (((set5 W w.heap.size v0 v1 v2 v3 v4).setCell ⟨w.heap.size+1,0,none⟩ a0).setCell ⟨w.heap.size+1,1,none⟩ a1) ∧
  (((set5 W w.heap.size v0 v1 v2 v3 v4).setCell ⟨w.heap.size+1,0,none⟩ a0).setCell ⟨w.heap.size+1,1,none⟩ a1).heap[w.heap.size]? = some (.cells #[v0,v1,v2,v3,v4] 25 (0,0)) ∧
  (((set5 W w.heap.size v0 v1 v2 v3 v4).setCell ⟨w.heap.size+1,0,none⟩ a0).setCell ⟨w.heap.size+1,1,none⟩ a1).heap[w.heap.size+1]? = some (.cells #[a0,a1] 35 (0,0)) ∧
  (∀b,w.heap.size+2≤b→(((set5 W w.heap.size v0 v1 v2 v3 v4).setCell ⟨w.heap.size+1,0,none⟩ a0).setCell ⟨w.heap.size+1,1,none⟩ a1).heap[b]? = W.heap[b]?) ∧
  (((set5 W w.heap.size v0 v1 v2 v3 v4).setCell ⟨w.heap.size+1,0,none⟩ a0).setCell ⟨w.heap.size+1,1,none⟩ a1).heap.size=W.heap.size:=by
 refine⟨?_,?_,?_,fun b hb2=>?_,?_⟩
 ·unfold set5
  exact ((((((hb.setCell (p:=⟨w.heap.size,0,none⟩) (Nat.le_refl _) v0).setCell (p:=⟨w.heap.size,1,none⟩) (Nat.le_refl _) v1).setCell (p:=⟨w.heap.size,2,none⟩) (Nat.le_refl _) v2).setCell (p:=⟨w.heap.size,3,none⟩) (Nat.le_refl _) v3).setCell (p:=⟨w.heap.size,4,none⟩) (Nat.le_refl _) v4).setCell (p:=⟨w.heap.size+1,0,none⟩) (Nat.le_succ _) a0).setCell (p:=⟨w.heap.size+1,1,none⟩) (Nat.le_succ _) a1
 ·exact (Below.heap_setCell _ _ _ _ (show w.heap.size≠w.heap.size+1 by omega)).trans ((Below.heap_setCell _ _ _ _ (show w.heap.size≠w.heap.size+1 by omega)).trans (heap_set5 hb0 v0 v1 v2 v3 v4))
 ·exact heap_set2 ((set5_other (show w.heap.size+1≠w.heap.size by omega) v0 v1 v2 v3 v4).trans hb1) a0 a1
 ·exact (Below.heap_setCell _ _ _ _ (show b≠w.heap.size+1 by omega)).trans ((Below.heap_setCell _ _ _ _ (show b≠w.heap.size+1 by omega)).trans (set5_other (show b≠w.heap.size by omega) v0 v1 v2 v3 v4))
 ·rw[World.setCell,World.setCell];simp[set5,World.setCell]
theorem tokens_two (s:ByteArray)(wA:World)(ht:AsciiTab wA):Calls Tryz.prog 43 #[.string s] wA fun e w'=>Below wA.heap.size wA w' ∧
  ((∃er pl:Nat,progM s=(zeroT,(er:Int),(pl:Int))∧er≠0∧e=.returned (.tuple #[.slice none 0 0,.agg #[.int .i64 er,.int .i64 pl]])) ∨
   (s.size≤16384∧(toksFrom s 0).2=none∧∃v,e=.returned (.tuple #[v,.agg #[.int .i64 0,.int .i64 0]])∧w'.ownsRow wA.heap.size 119 3 v (allTk s).length (lexCells (allTk s)))):=by
 by_cases hs:16384<s.size
 ·refine (tokens_long s wA hs).mono ?_
  rintro e w' ⟨rfl,hb⟩
  exact⟨hb,Or.inl ⟨3,0,by unfold progM;rw[if_pos hs];rfl,by decide,rfl⟩⟩
 ·refine (tokens_any s wA (by omega) ht).mono ?_
  rintro e w' ⟨hb,⟨h0,v,rfl,ho⟩|⟨er,pl,h0,rfl⟩⟩
  ·refine⟨hb,Or.inr ⟨by omega,h0,v,rfl,?_⟩⟩
   rw[allTk_len]
   exact ho
  ·refine⟨hb,Or.inl ⟨er,pl,by unfold progM;rw[if_neg hs,h0],(toks_err s _ 0 er pl h0).1,rfl⟩⟩
theorem prog_fine {w W:World}{s:ByteArray}{T0:Tree}{ks:List Tree}{p:Option Addr}{c:Nat}{F:Nat→Prop}(hm:progM s=if true=true then (T0,0,0) else (zeroT,204,0))(hT:T0=.mk 1 ⟨#[]⟩ 0 0 ks)(hsl:∀d,Trim d T0)(hb:Below w.heap.size w W)(hlo:ListOwn W w.heap.size 29 ks (.slice p ks.length c))
  (ho:OwnAt W 30 ks (.slice p ks.length c) F) (hF:∀b,F b→Between w.heap.size W.heap.size b) :
  ProgRes w (progM s) (.returned (.tuple #[.agg #[.int .u8 1,.string ⟨#[]⟩,.int .i64 0,.int .i64 0,.slice p ks.length c],.agg #[.int .i64 0,.int .i64 0]])) W:=by
 rw[hm,if_pos rfl]
 subst hT
 exact⟨_,rfl,hb,ho.sub hF,fits_prog ks,hsl,hlo⟩
theorem run_lexKind (a:Int)(x:ByteArray)(p:Int)(W:World):(Instr.field 119 (.agg #[.int .u8 a,.string x,.int .i64 p]) 0).run Tryz.prog W=.ok (.int .u8 a) W:=by kernel_rfl
theorem prog_fail {w W:World}{s:ByteArray}{er pl:Int}(hm:progM s=(zeroT,er,pl))(hb:Below w.heap.size w W) :
  ProgRes w (progM s) (.returned (.tuple #[.agg #[.int .u8 0,.string ⟨#[]⟩,.int .i64 0,.int .i64 0,.slice none 0 0],.agg #[.int .i64 er,.int .i64 pl]])) W:=by
 rw[hm]
 exact⟨.slice none 0 0,rfl,hb,Or.inl ⟨rfl,Or.inl rfl⟩,fits_zero,zero_slim,list_none _ _ _⟩
theorem program_any (s:ByteArray)(w:World)(ht:AsciiTab w):Calls Tryz.prog 24 #[.string s] w (ProgRes w (progM s)):=by
 obtain⟨wA,hwA⟩:∃wA,wA=(w.alloc (.cells zeroN 25)).alloc (.cells #[.int .i64 0,.int .i64 0] 35):=⟨_,rfl⟩
 have hbA:Below w.heap.size w wA:=by rw[hwA];exact below_two w _ _
 obtain⟨X0,X1,_⟩:=two_new' w (.cells zeroN 25) (.cells #[.int .i64 0,.int .i64 0] 35)
 rw[←hwA] at X0 X1
 have HT:=Hd (tokens_two s wA (ht.below hbA))
 have HAT:=Hd (ht.below hbA)
 have hatl:(0:Nat)<w.heap.size:=ht.lt
 obtain⟨i0,hi0,hz0,hz1,hz2⟩:=info_parts infoNode
 have HszA:Hid (wA.heap.size=w.heap.size+2):=by show _=_;rw[hwA];simp
 have HX0:=Hd X0
 have HX1:=Hd X1
 have HBA:=Hd hbA
 clear X0 X1 hbA ht
 go_enter Tryz.func24,Tryz.ntmps24
 go_upto_region 1 with fail
 change Code.wp _ _ _ _ ((w.alloc (.cells zeroN 25)).alloc (.cells #[.int .i64 0,.int .i64 0] 35))
 rw[←hwA]
 clear hwA
 go_wp2_with fail
 refine Calls.mono HT.out ?_
 rintro e w1 ⟨hb1,⟨er,pl,hm,her,rfl⟩|⟨hs,h0,v,rfl,hown⟩⟩
 ·have HM:=Hd hm
  have her2:((er:Int) != 0)=true:=by simp;omega
  obtain⟨wF,hwF⟩:∃wF,wF=w1.alloc (.cells #[.int .i64 er,.int .i64 pl] 35):=⟨_,rfl⟩
  have hbF:Below wA.heap.size wA wF:=by rw[hwF];exact hb1.alloc hb1.size _
  have hFc:wF.heap[w1.heap.size]? = some (.cells #[.int .i64 er,.int .i64 pl] 35 (0,0)):=by rw[hwF];exact heap_alloc_new w1 _
  have HB:=Hd (HBA.out.trans (hbF.mono HBA.out.size))
  have hsz1:w.heap.size+2≤w1.heap.size:=by have:=HszA.out;have:=hb1.size;omega
  have HY0:=Hd (heap_below hbF HX0.out (by have:=HszA.out;omega))
  have HY1:=Hd (heap_below hbF HX1.out (by have:=HszA.out;omega))
  clear hb1 hbF hm her
  go_upto_region 2 with fail
  change Code.wp _ _ _ _ (w1.alloc (.cells #[.int .i64 er,.int .i64 pl] 35))
  rw[←hwF]
  clear hwF
  obtain⟨f0,f1,_,_⟩:=cells2p hFc
  clear hFc
  go_wp2_with fail
  have z0:=frozen5 HY0.out 0
  have z1:=frozen5 HY0.out 1
  have z2:=frozen5 HY0.out 2
  have z3:=frozen5 HY0.out 3
  have z4:=frozen5 HY0.out 4
  obtain⟨a0,a1,a2,a3,a4⟩:=cells5 HY0.out
  obtain⟨b0,b1,y0,y1⟩:=cells2p HY1.out
  have hd0:(w.heap.size=w1.heap.size)=False:=by simp;omega
  have hd1:(w1.heap.size=w.heap.size)=False:=by simp;omega
  go_region
  go_wp2_with fail
  obtain⟨k1,k2,k3,_,_⟩:=prog_stored (v0:=.int .u8 0) (v1:=.string ⟨#[]⟩) (v2:=.int .i64 0) (v3:=.int .i64 0) (v4:=.slice none 0 0) (a0:=.int .i64 er) (a1:=.int .i64 pl) HB.out HY0.out HY1.out
  change bodyPost _ _ _ _ _ (((set5 wF w.heap.size (.int .u8 0) (.string ⟨#[]⟩) (.int .i64 0) (.int .i64 0) (.slice none 0 0)).setCell ⟨w.heap.size+1,0,none⟩ (.int .i64 er)).setCell ⟨w.heap.size+1,1,none⟩ (.int .i64 pl)).drew
  generalize (((set5 wF w.heap.size (.int .u8 0) (.string ⟨#[]⟩) (.int .i64 0) (.int .i64 0) (.slice none 0 0)).setCell ⟨w.heap.size+1,0,none⟩ (.int .i64 er)).setCell ⟨w.heap.size+1,1,none⟩ (.int .i64 pl))=WZ at *
  have k2':WZ.drew.heap[w.heap.size]? = _:=k2
  have k3':WZ.drew.heap[w.heap.size+1]? = _:=k3
  exact prog_ret rfl rfl rfl k2' k3' (prog_fail HM.out k1.drew)
 ·obtain⟨_,hcase⟩:=hown
  have hlen:=allTk_len s
  have hts:=allTk_ok s hs
  have hn5:(allTk s).length≤16385:=by
   have h1:=toks_len s (s.size+1) 0 (Nat.zero_le _)
   have h2:(toksFrom s 0).1.length+0≤s.size:=h1
   omega
  rcases hcase with ⟨_,h⟩|⟨L,cap,cur,rfl,hLg,hLc,hle,hcm,hcs,htake⟩
  ·omega
  have HM:Hid (progM s=progR (allTk s) (progD (allTk s)) (progT s)):=by
   show _=_
   unfold progM
   rw[if_neg (by omega),h0]
  have HPT:Hid (progT s=.mk 1 ⟨#[]⟩ 0 0 (progD (allTk s)).1):=rfl
  have HSl:Hid (SlimL (progD (allTk s)).1):=progD_slim hts hn5 (by omega)
  obtain⟨R,hR⟩:∃R,progD (allTk s)=R:=⟨_,rfl⟩
  rw[hR] at HM HPT HSl
  unfold progD at hR
  generalize progT s=T0 at *
  obtain⟨ts,hts0⟩:∃ts,allTk s=ts:=⟨_,rfl⟩
  rw[hts0] at hlen hts hn5 hle htake HM hR ⊢
  have HR:=Hd hR
  have HTS:=Hd hts
  have HDecl:=Hd (pdecl_any hts (prule_any hts))
  have hpos:0<ts.length:=by omega
  have HLen:=Hd hn5
  have hl1:wA.heap.size≤w1.heap.size:=hb1.size
  have hLl:L<w1.heap.size:=(Array.getElem?_eq_some_iff.1 hLc).1
  obtain⟨wF,hwF⟩:∃wF,wF=w1.alloc (.cells #[.int .i64 0,.int .i64 0] 35):=⟨_,rfl⟩
  obtain⟨wP,hwP⟩:∃wP,wP=wF.alloc (.cells #[.slice (some ⟨L,0,none⟩) ts.length cap,.bool false] 116):=⟨_,rfl⟩
  obtain⟨wn,hwn⟩:∃wn,wn=wP.alloc (.cells #[.int .u8 1,.string ⟨#[]⟩,.int .i64 0,.int .i64 0,.slice none 0 0] 25):=⟨_,rfl⟩
  have hbF:Below w1.heap.size w1 wF:=by rw[hwF];exact (Below.refl _ w1).alloc (Nat.le_refl _) _
  have hbP:Below wF.heap.size wF wP:=by rw[hwP];exact (Below.refl _ wF).alloc (Nat.le_refl _) _
  have hbn:Below wP.heap.size wP wn:=by rw[hwn];exact (Below.refl _ wP).alloc (Nat.le_refl _) _
  have hFc:wF.heap[w1.heap.size]? = some (.cells #[.int .i64 0,.int .i64 0] 35 (0,0)):=by rw[hwF];exact heap_alloc_new w1 _
  have hPc:wP.heap[wF.heap.size]? = some (.cells #[.slice (some ⟨L,0,none⟩) ts.length cap,.bool false] 116 (0,0)):=by rw[hwP];exact heap_alloc_new wF _
  have hnc:wn.heap[wP.heap.size]? = some (.cells #[.int .u8 1,.string ⟨#[]⟩,.int .i64 0,.int .i64 0,.slice none 0 0] 25 (0,0)):=by rw[hwn];exact heap_alloc_new wP _
  have hsF:wF.heap.size=w1.heap.size+1:=by rw[hwF];simp
  have hsP:wP.heap.size=wF.heap.size+1:=by rw[hwP];simp
  have hsn:wn.heap.size=wP.heap.size+1:=by rw[hwn];simp
  have hAP:Below wA.heap.size wA wP:=hb1.trans ((hbF.trans (hbP.mono (by omega))).mono hl1)
  have hPt:PAt wP wF.heap.size L cap ts 0 false:=by
   refine⟨⟨ts.length,cap,rfl,rfl,by rw[Nat.zero_mul];exact hPc⟩,⟨cur,?_,fun j u hu=>?_⟩,hpos,hn5,hle,hcm⟩
   ·exact heap_below (hbF.trans (hbP.mono (by omega))) hLc hLl
   ·rw[←htake,List.getElem?_take] at hu
    split at hu
    ·simpa using hu
    ·cases hu
  have hT0:=hPt.turns hbn
  have hszA:=HszA.out
  obtain⟨P,hP⟩:∃P,wF.heap.size=P:=⟨_,rfl⟩
  obtain⟨bB,hbB⟩:∃b,wP.heap.size=b:=⟨_,rfl⟩
  rw[hP] at hPt hT0 hPc
  rw[hbB] at hnc
  have hwPP:w.heap.size+2<P:=by omega
  have hPb:P<bB:=by omega
  have hwB:wP.heap.size≤bB:=by omega
  have HL:Hid (L<wP.heap.size):=by show _<_;omega
  have hPl:P<wP.heap.size:=by omega
  have HBP:Hid (Below w.heap.size w wP):=HBA.out.trans (hAP.mono HBA.out.size)
  have HY0:=Hd (heap_below (hAP.trans (hbn.mono hAP.size)) HX0.out (by omega))
  have HY1:=Hd (heap_below (hAP.trans (hbn.mono hAP.size)) HX1.out (by omega))
  have HNc:=Hd hnc
  have HT0:=Hd hT0
  have hbn1:bB+1=wn.heap.size:=by omega
  have HRel:Hid (PPrRel wP P L cap ts R bB wn):=
   ⟨ts.length+1,[],(0,false),0,[],fun _ _=>False,.slice none 0 0,HR.out,Or.inr (by omega),Nat.zero_le _,HT0.out,HNc.out,World.ownsRow_nil _ _ _ _,rows_none _ _ _ _⟩
  have HP:=Hd hP
  have HbB:=Hd hbB
  have HYP0:=Hd (heap_below hAP HX0.out (by omega))
  have HYP1:=Hd (heap_below hAP HX1.out (by omega))
  have HATP:=Hd (HAT.out.below hAP)
  have hPA:P≠0:=fun h=>by have:=hatl;omega
  have HwF:=Hd hwF
  have HwP:=Hd hwP
  have Hwn:=Hd hwn
  have HAt:Hid (0≤atM ts R.2∧atM ts R.2≤16384):=by
   show _∧_
   obtain⟨_,_,g3⟩:=tokM_ok hts R.2.1
   unfold atM
   omega
  obtain⟨f0,f1,_,_⟩:=cells2p hFc
  have hbn2:bB+1≤wn.heap.size:=by omega
  clear hlen hbn1 hszA hsF hsP hsn hwF hwP hwn hFc hPc hnc hT0 hPt hbF hbP hbn hb1 hts hts0 hLc htake hcs hcm hR hAP hP hbB hle hs h0
  go_upto_region 2 with fail
  change Code.wp _ _ _ _ (w1.alloc (.cells #[.int .i64 0,.int .i64 0] 35))
  rw[←HwF.out]
  go_upto_region 5 with fail
  change Code.wp _ _ _ _ (wF.alloc (.cells #[.slice (some ⟨L,0,none⟩) ts.length cap,.bool false] 116))
  rw[←HwP.out,HP.out]
  go_wp2_with fail
  change Code.wp _ _ _ _ (wP.alloc (.cells #[.int .u8 1,.string ⟨#[]⟩,.int .i64 0,.int .i64 0,.slice none 0 0] 25))
  rw[←Hwn.out,HbB.out]
  go_loopw [25] (fun _ wr=>PPrRel wP P L cap ts R bB wr) (fun _ wr=>stepsOf P wr)
  case atStart=>exact HRel.out
  case round =>
   clear HRel HT0 HNc
   obtain⟨g,ks,σc,dd,rows,Fs,o,hup,hg,hlen,hT,hn,hown,hrows⟩:=hrel
   have HTr:=Hd hT
   have HUp:=Hd hup
   have HG:=Hd hg
   have HLn:=Hd hlen
   have HNr:=Hd hn
   have HOwn:=Hd hown
   have HRows:=Hd hrows
   have HSt:=Hd hT.2.steps
   have HGe1:Hid (σc.1≤(declM ts (ruleM ts) σc).2.1):=declM_ge (ts:=ts) (ruleM_ge ts) σc
   have hbW:bB<wr.heap.size:=(Array.getElem?_eq_some_iff.1 hn).1
   clear hup hg hlen hT hn hown hrows
   go_upto_region 6 with fail
   go_cut [38] from 25 to 38 (fun v wx=>v=.bool (!σc.2&&kdM ts σc != 7)∧Below wr.heap.size wr wx)
   case first =>
    obtain⟨_,_,_,_,_,c1,_,_⟩:=HTr.out.2.cells
    have HIs:=Hd (pnow_res HTr.out.2)
    cases hb:σc.2 with
    | true =>
     rw[hb] at c1
     have HBb:=Hd hb
     clear hb
     go_wp2_with fail
     go_meet
     case rel=>exact⟨by rw[HBb.out];rfl,Below.refl _ _⟩
    | false =>
     rw[hb] at c1
     have HBb:=Hd hb
     clear hb
     have hkk:kdM ts σc<256:=(tokM_ok HTS.out σc.1).1
     obtain⟨kd,hkd⟩:∃k,kdM ts σc=k:=⟨_,rfl⟩
     rw[hkd] at HIs hkk
     have HKd:=Hd hkd
     clear hkd
     generalize txM ts σc=tx at HIs
     generalize atM ts σc=pl at HIs
     by_cases hk:kd=7
     ·have hk':((kd:Int) != 7)=false:=by simp;omega
      have HK:=Hd hk
      clear hk
      go_wp2_with fail
      refine Calls.mono HIs.out ?_
      rintro e wx ⟨rfl,hbx⟩
      have HBx:=Hd hbx
      have hFK:=run_lexKind kd tx pl wx
      clear hbx
      go_wp2_with fail
      go_meet
      case rel=>exact⟨by rw[HBb.out,HKd.out,HK.out];rfl,HBx.out⟩
     ·have hk':((kd:Int) != 7)=true:=by simp;omega
      have hk2:(kd != 7)=true:=by simpa using hk
      have HK:=Hd hk2
      clear hk hk2
      go_wp2_with fail
      refine Calls.mono HIs.out ?_
      rintro e wx ⟨rfl,hbx⟩
      have HBx:=Hd hbx
      have hFK:=run_lexKind kd tx pl wx
      clear hbx
      go_wp2_with fail
      go_meet
      case rel=>exact⟨by rw[HBb.out,HKd.out,HK.out];rfl,HBx.out⟩
   case rest =>
    obtain⟨rfl,hbx⟩:=hcut
    have HTx:=Hd (HTr.out.of_below hbx)
    have HNx:=Hd (heap_below hbx HNr.out hbW)
    have hPR:P<bB+1:=by omega
    have HOwnx:=Hd (ownsRow_turn HOwn.out (grown_of_below hbx (some P)) hPR)
    have HRowsx:=Hd (HRows.out.turn (grown_of_below hbx (some P)) hPR)
    have hlx:bB<wc.heap.size:=(Array.getElem?_eq_some_iff.1 HNx.out).1
    clear hbx HTr HNr HOwn HRows hbW
    obtain⟨b,hb⟩:∃b,(!σc.2&&kdM ts σc != 7)=b:=⟨_,rfl⟩
    rw[hb]
    have HB:=Hd hb
    clear hb
    cases b with
    | true =>
     have hnb:σc.2=false:=by have:=HB.out;cases h:σc.2<;>simp[h] at this ⊢
     have hns:¬kdM ts σc=7:=by have:=HB.out;rw[hnb] at this;simpa using this
     have hkc:=HTx.out.2.k
     have hkn:=HTx.out.2.n
     have hll:=HLn.out
     rw[hnb] at hll
     simp only[Bool.false_eq_true,if_false,Nat.add_zero] at hll
     obtain⟨g',hg',hR2⟩:∃g',((declM ts (ruleM ts) σc).2.2=true∨ts.length-(declM ts (ruleM ts) σc).2.1+1≤g')∧progL ts g' (ks++[(declM ts (ruleM ts) σc).1]) (declM ts (ruleM ts) σc).2=R:=by
      have h1:=HUp.out
      have h2:=HG.out
      rw[hnb] at h2
      have h2':ts.length-σc.1+1≤g:=by rcases h2 with h|h;cases h;exact h
      cases g with
      | zero=>omega
      | succ g =>
       rw[progL_succ,if_neg (by rw[hnb];decide),if_neg hns] at h1
       refine⟨g,?_,h1⟩
       rcases declM_on HTS.out hkc with h|h
       ·exact Or.inl h
       ·exact Or.inr (by omega)
     have hon:=declM_on HTS.out hkc
     have HCall:=Hd (HDecl.out σc wc.drew P L cap HTx.out.2.drew)
     have HG':=Hd hg'
     have HR2:=Hd hR2
     have HOn:=Hd hon
     have HNb:=Hd hnb
     clear hg' hR2 hon hns hnb
     generalize declM ts (ruleM ts) σc=r at *
     obtain⟨d0,d1',d2',d3,d4⟩:=cells5 HNx.out
     have hbP:bB≠P:=by omega
     have C4:=fun x:RE.Gr wc P=>x.cell d4 hbP
     have hPx:P<wc.heap.size:=HTx.out.2.lt.1
     clear d0 d1' d2' d3 d4
     go_wp2_with fail
     refine RE.wp_region_eff (by kernel_rfl) 5 [3,4] [3,4] (fun s W=>if s=0 then W=wc.drew else Turns wc P L cap ts r.2.1 r.2.2 W) (fun W W'=>W.grownBy W' (some P))
      (fun i xs=>if i=3 then .agg #[.int .u8 r.1.kind,.string r.1.text,.int .i64 r.1.num,.int .i64 r.1.place,xs.getD 0 undef] else .slice (some ⟨RE.natOf xs,0,none⟩) 1 1)
      (fun i W xs=>if i=3 then GotN wc.heap.size r.1 W xs else GotL wc.heap.size r.1 W xs) (by kernel_rfl) (fun i h1 h2=>by rw[h1] at h2;cases h2) ?_ rfl ?_
     ·intro k W W' xs h _ hg
      split at h
      ·rw[if_pos (by assumption)];exact h.grown hPx hg
      ·rw[if_neg (by assumption)];exact h.grown hPx hg
     simp only[List.take_succ_cons,List.take_zero,List.drop_succ_cons,List.drop_zero,List.length_cons,List.length_nil,Nat.reduceAdd]
     have hcl:∀(n s:Nat) (W:World),s≤n→(if s=0 then W=wc.drew else Turns wc P L cap ts r.2.1 r.2.2 W)→∃x:RE.Gr wc P,W=x.1:=fun n s W _ h=>by
      split at h
      ·exact⟨⟨W,by rw[h];exact grown_drewN (World.grownBy.refl wc _) 1⟩,rfl⟩
      ·exact⟨⟨W,h.1⟩,rfl⟩
     have HCl:=Hd hcl
     clear hcl
     repeat (refine RE.wpE_read (fun W=>∃x:RE.Gr wc P,W=x.1) (HCl.out _) rfl rfl rfl rfl ?_;go_big_quiet_step (fail);refine wpQuiet_nil ?_)
     refine RE.wpE_turn rfl rfl ?_ (fun xs3=>?_)
     ·intro W _ hS _
      obtain rfl:W=wc.drew:=hS rfl
      refine RE.upon_call 45 _ _ rfl (enters_of Tryz.func45 (by kernel_rfl) rfl) #[.pointer (some ⟨P,0,none⟩)] (by simp[Act.eval]) (HCall.out.mono ?_)
      rintro e W' ⟨d,s,rfl,hT,ho,hf⟩
      exact⟨_,rfl,[s],rfl,hT.of_drew,hT.1,⟨d,s,rfl,ho,hf⟩⟩
     simp only[Act.put,List.setIfInBounds_toArray,List.set_cons_zero,List.set_cons_succ]
     refine RE.wpE_turn rfl rfl ?_ (fun xs4=>?_)
     ·intro W _ hS hφ
      have hT:Turns wc P L cap ts r.2.1 r.2.2 W:=hS rfl
      obtain⟨d,s,rfl,ho,hf⟩:GotN wc.heap.size r.1 W xs3:=hφ 3 xs3 (by kernel_rfl) rfl
      obtain⟨p,c,rfl⟩:=ho.shape
      refine RE.Upon.told (v:=.slice (some ⟨W.heap.size,0,none⟩) 1 1) (w':=W.alloc (.cells (nodeCells r.1 (.slice p r.1.kids.length c)).toArray 25)) ?_ ⟨[.int .i64 W.heap.size],rfl,hT.alloc _,?_,?_⟩
      ·unfold RE.Upon
       go_simp
       rfl
      ·exact grown_of_below ((Below.refl _ W).alloc (Nat.le_refl _) _) _
      ·refine⟨d,W.heap.size,W.heap.size,_,rfl,heap_alloc_new W _,?_,hf,hT.1.size,Nat.le_refl _⟩
       exact ho.below (fun b hb=>hb.2) ((Below.refl _ W).alloc (Nat.le_refl _) _)
     simp only[Act.put,List.setIfInBounds_toArray,List.set_cons_zero,List.set_cons_succ]
     refine RE.wpE_nil ?_
     intro W3 hS hE
     have hT3:Turns wc P L cap ts r.2.1 r.2.2 W3:=hS
     obtain⟨d2,gg,N,s2,rfl,hgg,ho2,hf2,hN1,hN2⟩:=(show GotL wc.heap.size r.1 W3 xs4 from hE 4 xs4 rfl)
     have hl3:wc.heap.size≤W3.heap.size:=hT3.1.size
     have hown3:=ownsRow_turn HOwnx.out hT3.1 (by omega)
     refine wpList_append_lies W3 rfl (.tmp 40) (.tmp 43) 23 rfl (bB+1) 25 i0 _ 5 64 Tryz.underlying23 hi0 hz0 hz1 hz2 rfl (by decide) o ks.length rows.flatten rfl hown3 ⟨gg,0,none⟩ 1 1 (nodeCells r.1 s2) rfl rfl
      (fun j u hu=>by rw[Addr.add_mid,cell_of_row _ _ _ _ _ _ hgg,Nat.zero_add];simpa using hu) (by have:=ho2.shape;obtain⟨p,c,rfl⟩:=this;simp[Value.oneCell',nodeCells]) (by decide) (by unfold maxLen;omega) (by omega) (by omega) _ rfl ?_
     intro g7 cap7 w7 happ hgrow hlies _
     obtain⟨d',rows',Fs',u1,u2,u3,u4,u5,u6⟩:=up_next (w:=wP) hPl HL.out hwB (show bB<(bB+1) by omega) (by omega) HTx.out HNx.out HOwnx.out HRowsx.out hT3 hgg ho2 hf2 hN1 hN2 happ hgrow hlies
     have x4:=frozen5 u6 4
     obtain⟨d0,d1',d2',d3,d4⟩:=cells5 u6
     obtain⟨Wn,hWn⟩:∃Wn,Wn=w7.setCell ⟨bB,4,none⟩ (.slice (some ⟨g7,0,none⟩) (ks.length+1) cap7):=⟨_,rfl⟩
     rw[←hWn] at u1 u2 u3 u4 u5
     have hlen':(ks++[r.1]).length≤r.2.1+(if r.2.2=true then 1 else 0):=by
      have h1:=u1.2.k
      rw[List.length_append,List.length_singleton]
      rcases HOn.out with h|h
      ·rw[if_pos h]
       have:=HGe1.out
       omega
      ·split<;>omega
     have HRel2:Hid (PPrRel wP P L cap ts R bB Wn):=
      ⟨g',_,r.2,d',rows',Fs',_,HR2.out,HG'.out,hlen',u1,u3,u4,u5⟩
     have HMeas:Hid (stepsOf P Wn<stepsOf P wr):=by
      show _<_
      rw[u1.2.steps,HSt.out,if_neg (show ¬σc.2=true by rw[HNb.out];decide)]
      have h1:=u1.2.k
      have h3:=HGe1.out
      rcases HOn.out with h|h
      ·rw[if_pos h];omega
      ·split<;>omega
     have HWn:=Hd hWn
     clear u1 u2 u3 u4 u5 hlen' hlies hgrow happ hE hS hT3 hown3 hgg ho2 C4
     go_wp2_with fail
     rw[←HWn.out]
     exact⟨HRel2.out,HMeas.out⟩
    | false =>
     have hRR:(ks,σc)=R:=by
      rw[←HUp.out]
      have h2:=HB.out
      cases g with
      | zero=>rfl
      | succ g =>
       rw[progL_succ]
       by_cases hbb:σc.2=true
       ·rw[if_pos hbb]
       ·rw[if_neg hbb,if_pos (by simpa [hbb] using h2)]
     subst hRR
     dsimp only at HPT HAt HSl
     have HYx0:=Hd ((HTx.out.1.block w.heap.size (by omega) (fun e=>by injection e with e;omega)).trans HYP0.out)
     have HYx1:=Hd ((HTx.out.1.block (w.heap.size+1) (by omega) (fun e=>by injection e with e;omega)).trans HYP1.out)
     have HBx:=Hd (below_of_turns HBP.out HTx.out (by omega))
     have HAx:=Hd (HATP.out.grown HTx.out.1 hPA)
     obtain⟨_,_,_,_,_,c1,_,_⟩:=HTx.out.2.cells
     clear HUp HG HLn HB HGe1 HSt
     cases hb:σc.2 with
     | true =>
      rw[hb] at c1
      have HMb:Hid (progM s=(zeroT,202,atM ts σc)):=by show _=_;rw[HM.out];unfold progR;dsimp only;rw[if_pos hb]
      have HNow:=Hd (pnow_res HTx.out.2)
      clear hb
      generalize kdM ts σc=kd at HNow
      generalize txM ts σc=tx at HNow
      generalize atM ts σc=pl at HNow HMb
      go_wp2_with fail
      refine Calls.mono HNow.out ?_
      rintro e wy ⟨rfl,hby⟩
      have hFA:=run_lexAt kd tx pl wy
      have HBy:=Hd (HBx.out.trans (hby.mono HBx.out.size))
      have HYy0:=Hd (heap_below hby HYx0.out (by omega))
      have HYy1:=Hd (heap_below hby HYx1.out (by omega))
      clear hby c1
      obtain⟨k1,k2,k3,k4,k5⟩:=prog_stored (v0:=(.int .u8 0)) (v1:=(.string ⟨#[]⟩)) (v2:=(.int .i64 0)) (v3:=(.int .i64 0)) (v4:=(.slice none 0 0)) (a0:=(.int .i64 202)) (a1:=(.int .i64 pl)) HBy.out HYy0.out HYy1.out
      have K1:=Hd k1
      have K2:=Hd k2
      have K3:=Hd k3
      have K4:=Hd k4
      have K5:=Hd k5
      clear k1 k2 k3 k4 k5
      have z0:=frozen5 HYy0.out 0
      have z1:=frozen5 HYy0.out 1
      have z2:=frozen5 HYy0.out 2
      have z3:=frozen5 HYy0.out 3
      have z4:=frozen5 HYy0.out 4
      obtain⟨a0,a1,a2,a3,a4⟩:=cells5 HYy0.out
      obtain⟨b0,b1,y0,y1⟩:=cells2p HYy1.out
      go_wp2_with fail
      change bodyPost _ _ _ _ _ (((set5 wy w.heap.size (.int .u8 0) (.string ⟨#[]⟩) (.int .i64 0) (.int .i64 0) (.slice none 0 0)).setCell ⟨w.heap.size+1,0,none⟩ (.int .i64 202)).setCell ⟨w.heap.size+1,1,none⟩ (.int .i64 pl))
      generalize ((set5 wy w.heap.size (.int .u8 0) (.string ⟨#[]⟩) (.int .i64 0) (.int .i64 0) (.slice none 0 0)).setCell ⟨w.heap.size+1,0,none⟩ (.int .i64 202)).setCell ⟨w.heap.size+1,1,none⟩ (.int .i64 pl)=WZ at *
      exact prog_ret rfl rfl rfl K2.out K3.out (prog_fail HMb.out K1.out)
     | false =>
      rw[hb] at c1
      have HMo:Hid (progM s=match dpM 30 T0 with
        | some p=>(zeroT,203,p)
        | none=>if rightF 30 T0=true then (T0,0,0) else (zeroT,204,0)):=by
       show _=_
       rw[HM.out];unfold progR;dsimp only;rw[if_neg (by rw[hb];decide)]
      clear hb
      have hO:=own_fin (d:=dd+1) rfl HOwnx.out HRowsx.out (fun h=>by omega)
      obtain⟨p,c,rfl⟩:=hO.shape
      have HO:=Hd hO
      have hNode:NodeAt wc wc.heap.size (dd+1) T0 (.agg #[.int .u8 1,.string ⟨#[]⟩,.int .i64 0,.int .i64 0,.slice p ks.length c]):=by
       rw[HPT.out]
       exact⟨fits_prog ks,_,rfl,hO.kids fun b hb=>hb.2⟩
      have hslk:∀d,SlimK d T0.kids:=fun d=>by
       rw[HPT.out]
       cases d with
       | zero=>trivial
       | succ d=>exact⟨by show ks.length≤20000;have:=HSl.out.1;omega,fun k hk=>(HSl.out.2 k hk d).slim⟩
      have HSlT:Hid (∀d,Trim d T0):=by
       show ∀d,Trim d T0
       rw[HPT.out]
       exact slim_mk (show (0:Nat)≤16390 by omega) (by omega) HSl.out.1 HSl.out.2
      have HDp:=Hd (pdeep_any 30 0 (dd+1) T0 _ wc.heap.size wc rfl hNode (Nat.le_refl _) (hslk _))
      have HOx:=Hd hO
      have HLx:Hid (ListOwn wc (bB+1) dd ks (.slice p ks.length c)):=⟨rows,Fs,HOwnx.out,HRowsx.out⟩
      obtain⟨n0,n1,n2,n3,n4⟩:=cells5 HNx.out
      clear hO hNode hslk HO HOwnx HRowsx
      obtain⟨x,hx⟩:∃x,dpM 30 T0=x:=⟨_,rfl⟩
      rw[hx] at HDp HMo
      have HX:=Hd hx
      clear hx
      rw[show ((0:Nat):Int)=0 from rfl] at HDp
      go_wp2_with fail
      refine Calls.mono HDp.out ?_
      rintro e wd ⟨rfl,hbd⟩
      have HBd:=Hd (HBx.out.trans (hbd.mono HBx.out.size))
      have HYd0:=Hd (heap_below hbd HYx0.out (by omega))
      have HYd1:=Hd (heap_below hbd HYx1.out (by omega))
      have HNd:=Hd (heap_below hbd HNx.out hlx)
      have HOd:=Hd (HOx.out.below (fun b hb=>hb.2) hbd)
      have HLd:=Hd (HLx.out.below hbd)
      have HAd:=Hd (HAx.out.below hbd)
      have hld:bB<wd.heap.size:=(Array.getElem?_eq_some_iff.1 HNd.out).1
      have hlcd:wc.heap.size≤wd.heap.size:=hbd.size
      clear hbd n0 n1 n2 n3 n4 c1
      cases x with
      | some q =>
       dsimp only [Option.getD_some,Option.isSome_some]
       obtain⟨k1,k2,k3,k4,k5⟩:=prog_stored (v0:=(.int .u8 0)) (v1:=(.string ⟨#[]⟩)) (v2:=(.int .i64 0)) (v3:=(.int .i64 0)) (v4:=(.slice none 0 0)) (a0:=(.int .i64 203)) (a1:=(.int .i64 q)) HBd.out HYd0.out HYd1.out
       have K1:=Hd k1
       have K2:=Hd k2
       have K3:=Hd k3
       have K4:=Hd k4
       have K5:=Hd k5
       clear k1 k2 k3 k4 k5
       have z0:=frozen5 HYd0.out 0
       have z1:=frozen5 HYd0.out 1
       have z2:=frozen5 HYd0.out 2
       have z3:=frozen5 HYd0.out 3
       have z4:=frozen5 HYd0.out 4
       obtain⟨a0,a1,a2,a3,a4⟩:=cells5 HYd0.out
       obtain⟨b0,b1,y0,y1⟩:=cells2p HYd1.out
       go_wp2_with fail
       change bodyPost _ _ _ _ _ (((set5 wd w.heap.size (.int .u8 0) (.string ⟨#[]⟩) (.int .i64 0) (.int .i64 0) (.slice none 0 0)).setCell ⟨w.heap.size+1,0,none⟩ (.int .i64 203)).setCell ⟨w.heap.size+1,1,none⟩ (.int .i64 q))
       generalize ((set5 wd w.heap.size (.int .u8 0) (.string ⟨#[]⟩) (.int .i64 0) (.int .i64 0) (.slice none 0 0)).setCell ⟨w.heap.size+1,0,none⟩ (.int .i64 203)).setCell ⟨w.heap.size+1,1,none⟩ (.int .i64 q)=WZ at *
       exact prog_ret rfl rfl rfl K2.out K3.out (prog_fail HMo.out K1.out)
      | none =>
       dsimp only [Option.getD_none,Option.isSome_none]
       have hks:∀t∈ks,dpM 29 t=none:=by
        have h:=HX.out
        rw[HPT.out] at h
        have h2:ks.findSome? (dpM 29)=none:=h
        rw[List.findSome?_eq_none_iff] at h2
        exact h2
       have hO29:=(own_depth HOd.out hks).more
       have HO30:=Hd hO29
       have HL30:=Hd ((HLd.out.depth (n:=28) hks).more)
       have hNode:NodeAt wd wd.heap.size 30 T0 (.agg #[.int .u8 1,.string ⟨#[]⟩,.int .i64 0,.int .i64 0,.slice p ks.length c]):=by
        rw[HPT.out]
        exact⟨fits_prog ks,_,rfl,hO29.kids fun b hb=>Nat.lt_of_lt_of_le hb.2 hlcd⟩
       have HRt:=Hd (nodeRight_any 30 T0 _ wd.heap.size wd hNode (Nat.le_refl _) (HSlT.out 30).slim HAd.out)
       obtain⟨n0,n1,n2,n3,n4⟩:=cells5 HNd.out
       clear hks hO29 hNode
       obtain⟨rt,hrt⟩:∃x,rightF 30 T0=x:=⟨_,rfl⟩
       rw[hrt] at HRt HMo
       clear hrt
       go_wp2_with fail
       refine Calls.mono HRt.out ?_
       rintro e we ⟨rfl,hbe⟩
       have HBe:=Hd (HBd.out.trans (hbe.mono HBd.out.size))
       have HYe0:=Hd (heap_below hbe HYd0.out (by omega))
       have HYe1:=Hd (heap_below hbe HYd1.out (by omega))
       have HNe:=Hd (heap_below hbe HNd.out hld)
       have hlde:wd.heap.size≤we.heap.size:=hbe.size
       have HOe:=Hd (HO30.out.below (fun b hb=>Nat.lt_of_lt_of_le hb.2 hlcd) hbe)
       have HLe:=Hd (HL30.out.below hbe)
       clear hbe n0 n1 n2 n3 n4
       cases rt with
       | false =>
        obtain⟨k1,k2,k3,k4,k5⟩:=prog_stored (v0:=(.int .u8 0)) (v1:=(.string ⟨#[]⟩)) (v2:=(.int .i64 0)) (v3:=(.int .i64 0)) (v4:=(.slice none 0 0)) (a0:=(.int .i64 204)) (a1:=(.int .i64 0)) HBe.out HYe0.out HYe1.out
        have K1:=Hd k1
        have K2:=Hd k2
        have K3:=Hd k3
        have K4:=Hd k4
        have K5:=Hd k5
        clear k1 k2 k3 k4 k5
        have z0:=frozen5 HYe0.out 0
        have z1:=frozen5 HYe0.out 1
        have z2:=frozen5 HYe0.out 2
        have z3:=frozen5 HYe0.out 3
        have z4:=frozen5 HYe0.out 4
        obtain⟨a0,a1,a2,a3,a4⟩:=cells5 HYe0.out
        obtain⟨b0,b1,y0,y1⟩:=cells2p HYe1.out
        go_wp2_with fail
        change bodyPost _ _ _ _ _ (((set5 we w.heap.size (.int .u8 0) (.string ⟨#[]⟩) (.int .i64 0) (.int .i64 0) (.slice none 0 0)).setCell ⟨w.heap.size+1,0,none⟩ (.int .i64 204)).setCell ⟨w.heap.size+1,1,none⟩ (.int .i64 0))
        generalize ((set5 we w.heap.size (.int .u8 0) (.string ⟨#[]⟩) (.int .i64 0) (.int .i64 0) (.slice none 0 0)).setCell ⟨w.heap.size+1,0,none⟩ (.int .i64 204)).setCell ⟨w.heap.size+1,1,none⟩ (.int .i64 0)=WZ at *
        exact prog_ret rfl rfl rfl K2.out K3.out (prog_fail HMo.out K1.out)
       | true =>
        obtain⟨n0,n1,n2,n3,n4⟩:=cells5 HNe.out
        obtain⟨k1,k2,k3,k4,k5⟩:=prog_stored (v0:=(.int .u8 1)) (v1:=(.string ⟨#[]⟩)) (v2:=(.int .i64 0)) (v3:=(.int .i64 0)) (v4:=(.slice p ks.length c)) (a0:=(.int .i64 0)) (a1:=(.int .i64 0)) HBe.out HYe0.out HYe1.out
        have K1:=Hd k1
        have K2:=Hd k2
        have K3:=Hd k3
        have K4:=Hd k4
        have K5:=Hd k5
        clear k1 k2 k3 k4 k5
        have z0:=frozen5 HYe0.out 0
        have z1:=frozen5 HYe0.out 1
        have z2:=frozen5 HYe0.out 2
        have z3:=frozen5 HYe0.out 3
        have z4:=frozen5 HYe0.out 4
        obtain⟨a0,a1,a2,a3,a4⟩:=cells5 HYe0.out
        obtain⟨b0,b1,y0,y1⟩:=cells2p HYe1.out
        go_wp2_with fail
        change bodyPost _ _ _ _ _ (((set5 we w.heap.size (.int .u8 1) (.string ⟨#[]⟩) (.int .i64 0) (.int .i64 0) (.slice p ks.length c)).setCell ⟨w.heap.size+1,0,none⟩ (.int .i64 0)).setCell ⟨w.heap.size+1,1,none⟩ (.int .i64 0))
        generalize ((set5 we w.heap.size (.int .u8 1) (.string ⟨#[]⟩) (.int .i64 0) (.int .i64 0) (.slice p ks.length c)).setCell ⟨w.heap.size+1,0,none⟩ (.int .i64 0)).setCell ⟨w.heap.size+1,1,none⟩ (.int .i64 0)=WZ at *
        exact prog_ret rfl rfl rfl K2.out K3.out (prog_fine HMo.out HPT.out HSlT.out K1.out ((HLe.out.keep (by rw[K5.out];exact Nat.le_refl _) (fun b hb _=>K4.out b (by omega))).low (by omega)) (HOe.out.keep fun b o hb ho=>(K4.out b (by have:=hb.1;omega)).trans ho) (fun b hb=>⟨by have:=hb.1;omega,by rw[K5.out];have:=hb.2;omega⟩))
end Go.Proofs.YtglbjooofdnbkaaGreatDoor
