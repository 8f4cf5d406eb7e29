/- topiarylaw10_wakes: what it answers, as a Lean function, and that its Go text answers just that. Laid by a program. -/
import Derived.Test.YtjdafbgpckmieaaGreatDoorQLexb
import Derived.Test.YtjdafbgpckmieaaGreatDoorShX
import Derived.Test.YtjdafbgpckmieaaGreatDoorShWk10
namespace Go.Proofs.YtjdafbgpckmieaaGreatDoor.QLex
open Go.RowKit Go.Proofs.YtjdafbgpckmieaaGreatDoorW.PrintWords Go.Proofs.YtjdafbgpckmieaaGreatDoorW.PrintLast
set_option linter.unusedVariables false
set_option linter.unusedSimpArgs false

/-! ### topiarylaw10_wakes: function 33 -/
def topiarylaw10_wakes.f  : Option (Bool) := if 1 ≤ 35184372088832 then (some true) else (none)
set_option maxHeartbeats 8000000 in
set_option maxRecDepth 100000 in
theorem topiarylaw10_wakes.calls (r : Bool) (w : World) (h : topiarylaw10_wakes.f = some r) (L : Go.Sh.LaidR w) :
  Calls Tryz.prog 33 #[] w fun e w' => e = .returned (.bool r) ∧ Below w.heap.size w w' := by
 have h1 : topiarylaw10_wakes.f = some true := by unfold topiarylaw10_wakes.f; first | rfl | (rw [if_pos (by omega)])
 rw [h1] at h
 obtain rfl := Option.some.inj h
 exact (Go.Sh.wakes10 w L).mono fun e w' h => ⟨h.1, h.2.1, h.2.2.1, h.2.2.2.1, h.2.2.2.2.1, h.2.2.2.2.2⟩


end Go.Proofs.YtjdafbgpckmieaaGreatDoor.QLex
