/-
  Closed facts of the program that all rows of this seat share, one declaration each.
-/
import Derived.Test.YtjdafbgpckmieaaGreatDoorRows
import Derived.Test.YtjdafbgpckmieaaGreatDoorTie
import Derived.JoinedOf
import Derived.WalkKit
set_option maxRecDepth 100000
namespace Go.Proofs.YtjdafbgpckmieaaGreatDoor.ShF
open Go
theorem and_t {a b : Bool} (h : a = true) (k : b = true) : (a && b) = true := by rw [h, k]; rfl
theorem fact1 : (laidOutB Tryz.pinned.checked.prog) = true := by kernel_rfl
theorem fact2 : (mapsRowed Tryz.pinned.checked.prog) = true := by kernel_rfl
theorem fact6 : ((Tryz.pinned.checked.prog.stops == [])) = true := by kernel_rfl
theorem fact8 : ((Tryz.pinned.checked.prog.stopKnobs == [])) = true := by kernel_rfl
theorem fact22 : ((Rows.dfaRightRow.plainKeys == Tryz.pinned.checked.prog.plainKeys)) = true := by kernel_rfl
theorem fact24 : (Tryz.pinned.checked.prog.stopsHeard) = true := by kernel_rfl
theorem fact25 : (Tryz.pinned.checked.prog.mayEnter) = true := by kernel_rfl
theorem fact26 : ((Rows.dfaRightRow.lifted == Tryz.pinned.checked.prog.liftsFinal)) = true := by kernel_rfl
theorem fact27 : ((Tryz.pinned.checked.prog.make == some Rows.dfaRightRow.make)) = true := by kernel_rfl
theorem looks : true = Tryz.pinned.checked.prog.looks [] := by kernel_rfl
theorem goes : false = Rows.dfaRightRow.goesBy Tryz.pinned.checked.prog := by kernel_rfl
theorem mainis : Tryz.pinned.checked.prog.mainIs = some (true, ("1e274e947be24d93a102a3d756ce7aa7f8cd1fa72b8696f1788caa67f071bd9f" : String).toList) := by kernel_rfl
end Go.Proofs.YtjdafbgpckmieaaGreatDoor.ShF
