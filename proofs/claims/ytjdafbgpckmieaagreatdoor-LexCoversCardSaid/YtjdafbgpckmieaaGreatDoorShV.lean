/-
  What a deferred closure of the program's one function that defers does, and what the tables leave out.
-/
import Derived.Test.YtjdafbgpckmieaaGreatDoorShU
import Derived.Recover
set_option maxRecDepth 100000
set_option linter.unusedVariables false
set_option linter.unusedSimpArgs false
namespace Go.Sh
open Go Go.Proofs

theorem ext153 : ExtR Tryz.prog 153 .same := fun x w => by
  rw [run_callFunc_extern Tryz.func153 (by kernel_rfl) (by kernel_rfl) (by kernel_rfl) (e := Extern.AbiNoEscape.same) (by kernel_rfl)]
  rfl
theorem ext191 : ExtR Tryz.prog 191 .indexByte := fun s c w => by
  rw [run_callFunc_extern Tryz.func191 (by kernel_rfl) (by kernel_rfl) (by kernel_rfl) (e := Extern.BytealgIndexByte.indexByte) (by kernel_rfl), Lib.run_indexByteString]
  rfl
theorem eq112 : Tryz.prog.eqGuardType Tryz.prog.depth 112 = false := by kernel_rfl
theorem eq45 : Tryz.prog.eqGuardType Tryz.prog.depth 45 = false := by kernel_rfl
theorem st45 : Tryz.prog.stoodInHeld 45 = false := by kernel_rfl
theorem size110 (w : World) : (sizeOf 110).run Tryz.prog w = .ok 1 w := (tysR 110 _ (by rfl)).size w
theorem eqs : EqsR Tryz.prog eqtTab := by
  intro t ht
  have h : t = 112 ∨ t = 45 := by
    by_cases h1 : t = 112
    · exact .inl h1
    · by_cases h2 : t = 45
      · exact .inr h2
      · exfalso
        have := trAll_ok (p := fun n (_ : Unit) => n = 112 ∨ n = 45) (t := eqtTab) (k := id) (by
          unfold eqtTab
          simp [trAll]) t () ht
        rcases this with h | h
        · exact h1 h
        · exact h2 h
  rcases h with rfl | rfl
  · refine ⟨eq112, fun size l m b hs hl hm e ρ vs us hv hu w => ?_⟩
    have : size = 4 := by
      have h1 := hs w
      rw [(tysR 112 _ (by rfl)).size w] at h1
      cases h1
      rfl
    exact eq_arr (d := 9998) Tryz.underlying112 Tryz.underlying110 size110 (by omega) e hv hu w
  · refine ⟨eq45, fun size l m b hs hl hm e ρ vs us hv hu w => ?_⟩
    have : size = 3 := by
      have h1 := hs w
      rw [(tysR 45 _ (by rfl)).size w] at h1
      cases h1
      rfl
    refine eq_struct (d := 9998) Tryz.underlying45 st45 (fun k f hk => ?_) (by simpa using (hl.trans this)) e hv hu w
    match k, hk with
    | 0, hk => cases hk; exact ⟨by decide, rfl, _, Tryz.underlying3⟩
    | 1, hk => cases hk; exact ⟨by decide, rfl, _, Tryz.underlying3⟩
    | 2, hk => cases hk; exact ⟨by decide, rfl, _, Tryz.underlying3⟩
    | k + 3, hk => cases hk
end Go.Sh
