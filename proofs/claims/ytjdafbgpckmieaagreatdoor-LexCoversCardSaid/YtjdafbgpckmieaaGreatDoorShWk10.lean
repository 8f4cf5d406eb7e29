/-
  topiarylaw10.wakes answers true, on every tape: what it turns is new.
-/
import Derived.Test.YtjdafbgpckmieaaGreatDoorShW
set_option maxRecDepth 100000
namespace Go.Sh
open Go Go.Proofs
theorem wakes10 (w : World) (L : LaidR w) : Calls Tryz.prog 33 #[] w fun e w' => e = .returned (.bool true) ∧ w'.os = w.os ∧ w'.tape = w.tape ∧ w'.output = w.output ∧ w.heap.size ≤ w'.heap.size ∧ ∀ b, b < w.heap.size → w'.heap[b]? = w.heap[b]? :=
  runs_true (n := 1000000000) (by kernel_rfl) w L
end Go.Sh
