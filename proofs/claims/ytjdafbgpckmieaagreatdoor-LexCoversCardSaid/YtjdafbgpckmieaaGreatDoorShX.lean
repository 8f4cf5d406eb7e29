/-
  The condition on the listed tables stands as long as old memory does.
-/
import Derived.Test.YtjdafbgpckmieaaGreatDoorShW
import Derived.Below
namespace Go.Sh
open Go
theorem LaidR.below {w w' : World} (L : LaidR w) (B : Go.RowKit.Below w.heap.size w w') : LaidR w' := by
  have one : ∀ {b len c}, Laid w b len c → Laid w' b len c := fun h i hi => by
    obtain ⟨a, v, h1, h2, h3⟩ := h i hi
    exact ⟨a, v, h1, h2, (B.cell (p := ⟨_, i, none⟩) (World.block_lt_of_cell? w _ h3)).trans h3⟩
  exact ⟨one L.deb64, one L.p10, one L.deb32⟩
end Go.Sh
