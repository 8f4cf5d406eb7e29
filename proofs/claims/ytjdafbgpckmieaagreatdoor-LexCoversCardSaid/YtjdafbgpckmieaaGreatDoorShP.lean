/-
  Plain words on functions with rounds, on automata as lists, and on where a text leads.
-/
import Derived.RowKit
import Derived.Below
set_option linter.unusedVariables false
set_option linter.unusedSimpArgs false
namespace Go.Sh.Pl
open Go Go.RowKit

/-- with enough rounds it answers r -/
def Evn {α : Type} (g : Nat → Option α) (r : α) : Prop := ∃ k0, ∀ k, k0 ≤ k → g k = some r
theorem Evn.succ {α : Type} {g h : Nat → Option α} {r : α} (e : ∀ k, g (k + 1) = h k) (H : Evn h r) : Evn g r := by
  obtain ⟨k0, h0⟩ := H
  refine ⟨k0 + 1, fun k hk => ?_⟩
  obtain ⟨k', rfl⟩ : ∃ k', k = k' + 1 := ⟨k - 1, by omega⟩
  rw [e]
  exact h0 k' (by omega)
theorem Evn.same {α : Type} {g h : Nat → Option α} {r : α} (e : ∀ k, g k = h k) (H : Evn h r) : Evn g r := by
  obtain ⟨k0, h0⟩ := H
  exact ⟨k0, fun k hk => by rw [e]; exact h0 k hk⟩
theorem Evn.const {α : Type} {g : Nat → Option α} {r : α} (e : ∀ k, g (k + 1) = some r) : Evn g r := by
  refine ⟨1, fun k hk => ?_⟩
  obtain ⟨k', rfl⟩ : ∃ k', k = k' + 1 := ⟨k - 1, by omega⟩
  exact e k'
theorem Evn.pure {α : Type} {r : α} : Evn (fun _ => some r) r := ⟨0, fun _ _ => rfl⟩
theorem Evn.bind {α β : Type} {g : Nat → Option α} {f : Nat → α → Option β} {a : α} {r : β} (H1 : Evn g a) (H2 : Evn (fun k => f k a) r) : Evn (fun k => (g k).bind (f k)) r := by
  obtain ⟨k1, h1⟩ := H1
  obtain ⟨k2, h2⟩ := H2
  refine ⟨k1 + k2, fun k hk => ?_⟩
  show (g k).bind (f k) = some r
  rw [h1 k (by omega)]
  exact h2 k (by omega)
theorem Evn.get {α : Type} {g : Nat → Option α} {r : α} (H : Evn g r) : ∃ k, g k = some r := let ⟨k, h⟩ := H; ⟨k, h k (Nat.le_refl _)⟩
theorem Evn.uniq {α : Type} {g : Nat → Option α} {r s : α} (H : Evn g r) (K : Evn g s) : r = s := by
  obtain ⟨k1, h1⟩ := H
  obtain ⟨k2, h2⟩ := K
  have := h1 (k1 + k2) (by omega)
  rw [h2 _ (by omega)] at this
  exact (Option.some.inj this).symm

theorem wrap_succ {n m : Nat} (h : n < m) (hm : m ≤ 4611686018427387904) : wrap64 ((n : Int) + 1) = ((n + 1 : Nat) : Int) := by
  unfold wrap64; omega

/-! ### automata -/
abbrev LLi := List (List Int)
def okX (n : Nat) (x : Int) : Bool := decide (-1 ≤ x) && decide (x < n)
def okRow (n : Nat) (r : List Int) (a : Int) : Bool := decide (r.length = 256) && (decide (-1 ≤ a) && r.all (okX n))
def rightS (rows : LLi) (acc : List Int) : Bool := decide (1 ≤ rows.length) && (decide (rows.length ≤ 240) && (decide (rows.length = acc.length) && (List.range rows.length).all fun i => okRow rows.length (rows.getD i []) (acc.getD i 0)))
theorem okX_lo {n : Nat} {x : Int} (h : x < -1) : okX n x = false := by unfold okX; rw [decide_eq_false (p := -1 ≤ x) (by omega)]; rfl
theorem okX_hi {n : Nat} {x : Int} (h : x ≥ n) : okX n x = false := by unfold okX; rw [decide_eq_false (p := x < (n : Int)) (by omega), Bool.and_false]
theorem okX_in {n : Nat} {x : Int} (h1 : ¬ x < -1) (h2 : ¬ x ≥ n) : okX n x = true := by unfold okX; rw [decide_eq_true (p := x < (n : Int)) (by omega), decide_eq_true (p := -1 ≤ x) (by omega)]; rfl
theorem okRow_lo {n : Nat} {r : List Int} {a : Int} (h : a < -1) : okRow n r a = false := by unfold okRow; rw [decide_eq_false (p := -1 ≤ a) (by omega), Bool.false_and, Bool.and_false]
structure RightP (rows : LLi) (acc : List Int) : Prop where
  pos : 1 ≤ rows.length
  le : rows.length ≤ 240
  len : acc.length = rows.length
  row : ∀ i, i < rows.length → (rows.getD i []).length = 256
  acc : ∀ i, i < rows.length → -1 ≤ acc.getD i 0
  cell : ∀ i, i < rows.length → ∀ b, b < 256 → -1 ≤ (rows.getD i []).getD b 0 ∧ (rows.getD i []).getD b 0 < rows.length
theorem rightS_iff {rows : LLi} {acc : List Int} : rightS rows acc = true ↔ RightP rows acc := by
  unfold rightS
  simp only [Bool.and_eq_true, decide_eq_true_eq, List.all_eq_true, List.mem_range]
  constructor
  · rintro ⟨h1, h2, h3, h4⟩
    refine ⟨h1, h2, h3.symm, fun i hi => ?_, fun i hi => ?_, fun i hi b hb => ?_⟩ <;> have := h4 i hi <;> unfold okRow at this <;> simp only [Bool.and_eq_true, decide_eq_true_eq, List.all_eq_true] at this
    · exact this.1
    · exact this.2.1
    · have hm := this.2.2 ((rows.getD i [])[b]'(by omega)) (List.getElem_mem _)
      unfold okX at hm
      simp only [Bool.and_eq_true, decide_eq_true_eq] at hm
      rw [List.getD_eq_getElem?_getD (l := rows.getD i []), List.getElem?_eq_getElem (by omega)]
      exact hm
  · rintro ⟨h1, h2, h3, h4, h5, h6⟩
    refine ⟨h1, h2, h3.symm, fun i hi => ?_⟩
    unfold okRow
    simp only [Bool.and_eq_true, decide_eq_true_eq, List.all_eq_true]
    refine ⟨h4 i hi, h5 i hi, fun x hx => ?_⟩
    obtain ⟨b, hb, rfl⟩ := List.mem_iff_getElem.1 hx
    have := h6 i hi b (by rw [h4 i hi] at hb; exact hb)
    rw [List.getD_eq_getElem?_getD (l := rows.getD i []), List.getElem?_eq_getElem hb] at this
    unfold okX
    simp only [Bool.and_eq_true, decide_eq_true_eq]
    exact this
/-- where a text leads from a state -/
def goL (rows : LLi) : Int → List UInt8 → Int
  | x, [] => x
  | x, b :: t => if x < 0 then x else goL rows ((rows.getD x.toNat []).getD b.toNat 0) t
theorem goL_neg {rows : LLi} {x : Int} (h : x < 0) : ∀ t, goL rows x t = x
  | [] => rfl
  | b :: t => by rw [goL, if_pos h]
theorem goL_cons {rows : LLi} {x : Int} (h : ¬ x < 0) (b : UInt8) (t : List UInt8) : goL rows x (b :: t) = goL rows ((rows.getD x.toNat []).getD b.toNat 0) t := by rw [goL, if_neg h]
theorem goL_app {rows : LLi} : ∀ (s t : List UInt8) (x : Int), goL rows x (s ++ t) = goL rows (goL rows x s) t
  | [], t, x => rfl
  | b :: s, t, x => by
    by_cases h : x < 0
    · rw [goL_neg h, goL_neg h, goL_neg h]
    · rw [List.cons_append, goL_cons h, goL_cons h, goL_app s t]
def InR (rows : LLi) (x : Int) : Prop := -1 ≤ x ∧ x < rows.length
theorem RightP.next {rows : LLi} {acc : List Int} (R : RightP rows acc) {x : Int} (h0 : 0 ≤ x) (h1 : x < rows.length) (b : UInt8) : InR rows ((rows.getD x.toNat []).getD b.toNat 0) :=
  R.cell x.toNat (by omega) b.toNat b.toNat_lt
theorem goL_in {rows : LLi} {acc : List Int} (R : RightP rows acc) : ∀ (s : List UInt8) (x : Int), InR rows x → InR rows (goL rows x s)
  | [], x, h => h
  | b :: s, x, h => by
    by_cases hx : x < 0
    · rw [goL_neg hx]; exact h
    · rw [goL_cons hx]
      exact goL_in R s _ (R.next (by omega) h.2 b)
end Go.Sh.Pl
