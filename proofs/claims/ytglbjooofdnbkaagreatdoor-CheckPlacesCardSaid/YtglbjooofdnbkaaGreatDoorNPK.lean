/- A number made small (the statements' Pick); by contract. No condition. (Was a part of LawParts.) -/
import Derived.Test.YtglbjooofdnbkaaGreatDoorMA
namespace Go.Proofs.YtglbjooofdnbkaaGreatDoor
open Go.RowKit
def pickZ (x n:Int):Int:=if x.tmod n<0 then x.tmod n+n else x.tmod n
theorem pickZ_in (x n:Int)(hn:1≤n):0≤pickZ x n∧pickZ x n<n:=by
 have hlt:=Int.tmod_lt_of_pos x (b:=n) (by omega)
 have hgt:-n<x.tmod n:=Int.lt_tmod_of_pos x (b:=n) (by omega)
 unfold pickZ
 split<;>omega
def PickQ (x n:Int) (w:World) (e:Ending) (w':World):Prop:=e=.returned (.int .i64 (pickZ x n))∧Below w.heap.size w w'
theorem pick_at (x n:Int)(w:World)(hn:1≤n)(hn2:n≤1000000) :
  Calls Tryz.prog 7 #[.int .i64 x,.int .i64 n] w (PickQ x n w):=by
 have hlt:=Int.tmod_lt_of_pos x (b:=n) (by omega)
 have hgt:-n<x.tmod n:=Int.lt_tmod_of_pos x (b:=n) (by omega)
 go_enter Tryz.func7,Tryz.ntmps7
 by_cases hneg:x.tmod n<0
 ·have e:pickZ x n=x.tmod n+n:=by unfold pickZ;rw[if_pos hneg]
  have HE:=Hd e
  clear e
  go_wp2
  go_ret
  exact⟨by rw[HE.out];rfl,Below.refl _ _⟩
 ·have e:pickZ x n=x.tmod n:=by unfold pickZ;rw[if_neg hneg]
  have HE:=Hd e
  clear e
  go_wp2
  go_ret
  exact⟨by rw[HE.out];rfl,Below.refl _ _⟩
end Go.Proofs.YtglbjooofdnbkaaGreatDoor
