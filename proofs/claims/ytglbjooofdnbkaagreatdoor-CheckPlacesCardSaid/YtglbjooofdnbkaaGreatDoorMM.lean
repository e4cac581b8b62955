/- Several texts joined, each with its own sentence and conditions ahead of it: AwkA, AwkB, RegTy, RegTz, RegTx, RegBox. -/
import Derived.Test.YtglbjooofdnbkaaGreatDoorMJ
import Derived.Test.YtglbjooofdnbkaaGreatDoorMRI
import Derived.Great.BuildSlice
import Derived.Laws.Rows
namespace Go.Proofs.YtglbjooofdnbkaaGreatDoor
open Go.RowKit
theorem KidsAt.more {w:World}{B:Nat}:∀{d:Nat}{ks:List Tree}{sl:Value},KidsAt w B d ks sl→KidsAt w B (d+1) ks sl:=by
 intro d
 induction d with
 | zero =>
  rintro ks sl ⟨h0,sp,cap,h1⟩
  exact Or.inl ⟨h0,sp,cap,h1⟩
 | succ d ih =>
  rintro ks sl (h|⟨b,off,cap,h1,h2,h3,h4,h5,h6⟩)
  ·exact Or.inl h
  ·refine Or.inr ⟨b,off,cap,h1,h2,h3,h4,h5,fun i T hT=>?_⟩
   obtain⟨hf,s,c0,c1,c2,c3,c4,hk⟩:=h6 i T hT
   exact⟨hf,s,c0,c1,c2,c3,c4,ih hk⟩
theorem KidsAt.deeper {w:World}{B d d':Nat}(hd:d≤d'){ks:List Tree}{sl:Value}(h:KidsAt w B d ks sl):KidsAt w B d' ks sl:=by
 induction hd with
 | refl=>exact h
 | step _ ih=>exact ih.more
theorem NodeAt.deeper {w:World}{B d d':Nat}(hd:d≤d'){T:Tree}{v:Value}(h:NodeAt w B d T v):NodeAt w B d' T v:=by
 obtain⟨hf,s,hv,hk⟩:=h
 exact⟨hf,s,hv,hk.deeper hd⟩
inductive RTy where
 | node (d:Nat) (T:Tree)
 | kids (d:Nat) (Ts:List Tree)
 | box
 | val (v:Value)
 | raw
def tidy (l:List Oper) (slots:Nat):Bool:=
 (List.range l.length).all fun i=>match l[i]? with
  | none=>true
  | some o=>o.after.all (fun e=>decide (e.on<i)) &&
    (decide (i+1=l.length)||match o.dst with
     | some t=>decide (t<slots)&&(List.range l.length).all (fun j=>decide (j=i)||(match l[j]? with|some o'=>decide (o'.dst≠some t)|none=>true))
     | none=>false)
theorem tidy_at {l:List Oper}{slots i:Nat}{o:Oper}(h:tidy l slots=true)(ho:l[i]? = some o) :
  (∀e∈o.after,e.on<i)∧(i+1<l.length→∃t,o.dst=some t∧t<slots∧∀(j:Nat) (o':Oper),j≠i→l[j]? = some o'→o'.dst≠some t):=by
 have hi:i<l.length:=(List.getElem?_eq_some_iff.1 ho).1
 have h1:=List.all_eq_true.1 h i (List.mem_range.2 hi)
 simp only[ho,Bool.and_eq_true,Bool.or_eq_true,decide_eq_true_eq] at h1
 obtain⟨ha,hd⟩:=h1
 refine⟨fun e he=>?_,fun hlt=>?_⟩
 ·have:=Array.all_eq_true_iff_forall_mem.1 ha e he
  simpa using this
 ·rcases hd with hd|hd
  ·omega
  ·cases hdst:o.dst with
   | none=>rw[hdst] at hd;cases hd
   | some t =>
    rw[hdst] at hd
    simp only[Bool.and_eq_true,decide_eq_true_eq,List.all_eq_true,List.mem_range,Bool.or_eq_true] at hd
    refine⟨t,rfl,hd.1,fun j o' hj ho'=>?_⟩
    have hjl:j<l.length:=(List.getElem?_eq_some_iff.1 ho').1
    rcases hd.2 j hjl with h2|h2
    ·exact absurd h2 hj
    ·rw[ho'] at h2;simpa using h2
theorem all_listed {l:List Oper}{slots:Nat}(h:tidy l slots=true){listed:Array Bool}(hsz:listed.size=l.toArray.size)(hr:Region.ready .any l.toArray listed=[]):∀i,i<l.length→listed.getD i false=true:=by
 intro i
 induction i using Nat.strongRecOn with
 | _ i ih =>
  intro hi
  cases hc:listed.getD i false with
  | true=>rfl
  | false =>
   exfalso
   obtain⟨o,ho⟩:∃o,l[i]? = some o:=⟨l[i],List.getElem?_eq_getElem hi⟩
   obtain⟨ha,_⟩:=tidy_at h ho
   have hsz':listed.size=l.length:=by simpa using hsz
   have:i∈Region.ready .any l.toArray listed:=by
    refine mem_ready.2 ⟨?_,o,by simpa using ho,fun e he _=>?_⟩
    ·have hi2:i<listed.size:=by omega
     simp[hi2] at hc ⊢;exact hc
    ·have h1:=ha e he
     exact ih e.on h1 (by omega)
   rw[hr] at this
   cases this
theorem getD_listed {listed:Array Bool}{i:Nat}(h:i<listed.size):(listed.setIfInBounds i true).getD i false=true:=by
 simp[h]
theorem getD_listed_other {listed:Array Bool}{i j:Nat}(h:i≠j):(listed.setIfInBounds i true).getD j false=listed.getD j false:=by
 simp[h]
section
variable {l:List Oper} {a0:Act} {w0:World} {ty:Nat→RTy} {i:Nat} {o:Oper}
end
section
variable {l:List Oper} {a0:Act} {w0:World} {ty:Nat→RTy} {i:Nat} {o:Oper}
end
end Go.Proofs.YtglbjooofdnbkaaGreatDoor
