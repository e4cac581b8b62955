/- Several texts joined, each with its own sentence and conditions ahead of it: RegP, RegQ. -/
import Derived.Test.YtglbjooofdnbkaaGreatDoorMRI
import Derived.Test.YtglbjooofdnbkaaGreatDoorMN
namespace Go.Proofs.YtglbjooofdnbkaaGreatDoor
open Go.RowKit
section
variable {P:Program} {l:List Oper} {a0:Act} {w0:World} {ty:Nat→World→Value→Prop} {val:Nat→Option Bool} {fr:Nat→Bool} {m:Nat}
def reachB (l:List Oper):Nat→Nat→Nat→Bool
 | 0,_,_=>false
 | f+1,j,i=>match l[j]? with
  | some o=>o.after.any fun e=>Region.binds .any e&&(decide (e.on=i)||reachB l f e.on i)
  | none=>false
def Closed (l:List Oper) (listed:Array Bool):Prop:=∀(i:Nat) (o:Oper),l[i]? = some o→listed.getD i false=true→∀e∈o.after,Region.binds .any e=true→listed.getD e.on false=true
theorem reach_listed {listed:Array Bool}(hc:Closed l listed):∀(f j i:Nat)(o:Oper),l[j]? = some o→(∀e∈o.after,Region.binds .any e=true→listed.getD e.on false=true)→reachB l f j i=true→listed.getD i false=true:=by
 intro f
 induction f with
 | zero=>intro j i o _ _ h;cases h
 | succ f ih =>
  intro j i o ho ha h
  unfold reachB at h
  rw[ho] at h
  obtain⟨e,he,h2⟩:=Array.any_eq_true'.1 h
  simp only[Bool.and_eq_true,Bool.or_eq_true,decide_eq_true_eq] at h2
  have hl:=ha e he h2.1
  rcases h2.2 with h3|h3
  ·rw[←h3];exact hl
  ·cases f with
   | zero=>cases h3
   | succ f =>
    cases hoe:l[e.on]? with
    | none=>unfold reachB at h3;rw[hoe] at h3;cases h3
    | some oe=>exact ih e.on i oe hoe (hc e.on oe hoe hl) h3
end
section
variable {l:List Oper} {m:Nat} {a0:Act} {w0:World} {ty:Nat→World→Value→Prop} {fr:Nat→Bool} {i:Nat} {o:Oper}
end
end Go.Proofs.YtglbjooofdnbkaaGreatDoor
