/-
  Plain words on a text cut into tokens: they follow one another, and from any of them on the rest has the rest.
-/
import Derived.Test.YtjdafbgpckmieaaGreatDoorShP2
set_option linter.unusedVariables false
set_option linter.unusedSimpArgs false
namespace Go.Sh.Pl
open Go Go.RowKit

abbrev Tk := Int × Nat × Nat × Nat
def shf (c : Nat) (q : Tk) : Tk := (q.1, q.2.1 + c, q.2.2.1, q.2.2.2 + c)
def chainOk (n : Nat) : Nat → List Tk → Prop
  | _, [] => True
  | a, q :: l => q.2.1 = a ∧ 1 ≤ q.2.2.1 ∧ a + q.2.2.1 ≤ n ∧ chainOk n (a + q.2.2.1) l
def endOf : Nat → List Tk → Nat
  | a, [] => a
  | a, q :: l => endOf (a + q.2.2.1) l
theorem chain_le {n : Nat} : ∀ {l : List Tk} {a : Nat}, chainOk n a l → ∀ q ∈ l, q.2.1 ≤ n
  | [], a, h, q, hq => by cases hq
  | p :: l, a, h, q, hq => by
    obtain ⟨h1, h2, h3, h4⟩ := h
    rcases List.mem_cons.1 hq with e | e
    · subst e; omega
    · exact chain_le h4 q e
theorem cutS_cons {rows : LLi} {acc : List Int} {f a : Nat} {l : List UInt8} (h : l.length ≠ 0) (h0 : (tok rows acc l).2.1 ≠ 0) : cutS rows acc (f + 1) a l = (((tok rows acc l).1, a, (tok rows acc l).2.1, a + (tok rows acc l).2.2) :: (cutS rows acc f (a + (tok rows acc l).2.1) (l.drop (tok rows acc l).2.1)).1, (cutS rows acc f (a + (tok rows acc l).2.1) (l.drop (tok rows acc l).2.1)).2) := by
  rw [cutS, if_neg h, if_neg h0]
theorem cutS_nil {rows : LLi} {acc : List Int} {a : Nat} {l : List UInt8} (h : l.length = 0) : ∀ f, cutS rows acc f a l = ([], -1)
  | 0 => rfl
  | f + 1 => by rw [cutS, if_pos h]
theorem cutS_none {rows : LLi} {acc : List Int} {f a : Nat} {l : List UInt8} (h : l.length ≠ 0) (h0 : (tok rows acc l).2.1 = 0) : cutS rows acc (f + 1) a l = ([], (a : Int)) := by
  rw [cutS, if_neg h, if_pos h0]
theorem cutS_chain {rows : LLi} {acc : List Int} (n : Nat) : ∀ (f a : Nat) (l : List UInt8), n = a + l.length → chainOk n a (cutS rows acc f a l).1 ∧ (l.length ≤ f → (cutS rows acc f a l).2 = -1 → endOf a (cutS rows acc f a l).1 = n) ∧ ((cutS rows acc f a l).2 ≠ -1 → (cutS rows acc f a l).2 = (endOf a (cutS rows acc f a l).1 : Int))
  | 0, a, l, h => ⟨trivial, fun hf _ => by simp only [cutS, endOf]; omega, fun hn => absurd rfl hn⟩
  | f + 1, a, l, h => by
    by_cases hl : l.length = 0
    · rw [cutS_nil hl]
      exact ⟨trivial, fun _ _ => by simp only [endOf]; omega, fun hn => absurd rfl hn⟩
    · by_cases h0 : (tok rows acc l).2.1 = 0
      · rw [cutS_none hl h0]
        exact ⟨trivial, fun _ he => by simp only at he; omega, fun _ => rfl⟩
      · rw [cutS_cons hl h0]
        have hle := tok_le (rows := rows) (acc := acc) l
        obtain ⟨i1, i2, i3⟩ := cutS_chain n f (a + (tok rows acc l).2.1) (l.drop (tok rows acc l).2.1) (by simp; omega)
        exact ⟨⟨rfl, Nat.pos_of_ne_zero h0, (by show a + (tok rows acc l).2.1 ≤ n; omega), i1⟩, fun hf => i2 (by simp; omega), i3⟩
theorem cutS_fuel {rows : LLi} {acc : List Int} : ∀ (f f' a : Nat) (l : List UInt8), l.length ≤ f → l.length ≤ f' → cutS rows acc f a l = cutS rows acc f' a l
  | 0, f', a, l, h, h' => by rw [cutS_nil (by omega), cutS_nil (by omega)]
  | f + 1, 0, a, l, h, h' => by rw [cutS_nil (by omega), cutS_nil (by omega)]
  | f + 1, f' + 1, a, l, h, h' => by
    by_cases hl : l.length = 0
    · rw [cutS_nil hl, cutS_nil hl]
    · by_cases h0 : (tok rows acc l).2.1 = 0
      · rw [cutS_none hl h0, cutS_none hl h0]
      · rw [cutS_cons hl h0, cutS_cons hl h0, cutS_fuel f f' (a + (tok rows acc l).2.1) (l.drop (tok rows acc l).2.1) (by simp; omega) (by simp; omega)]
theorem cutS_shift {rows : LLi} {acc : List Int} : ∀ (f a c : Nat) (l : List UInt8), (cutS rows acc f (a + c) l).1 = (cutS rows acc f a l).1.map (shf c)
  | 0, a, c, l => rfl
  | f + 1, a, c, l => by
    by_cases hl : l.length = 0
    · rw [cutS_nil hl, cutS_nil hl]; rfl
    · by_cases h0 : (tok rows acc l).2.1 = 0
      · rw [cutS_none hl h0, cutS_none hl h0]; rfl
      · rw [cutS_cons hl h0, cutS_cons hl h0]
        have := cutS_shift (rows := rows) (acc := acc) f (a + (tok rows acc l).2.1) c (l.drop (tok rows acc l).2.1)
        simp only [List.map_cons, ← this]
        rw [show a + c + (tok rows acc l).2.1 = a + (tok rows acc l).2.1 + c by omega]
        simp only [shf]
        rw [show a + c + (tok rows acc l).2.2 = a + (tok rows acc l).2.2 + c by omega]
theorem cutS_drop {rows : LLi} {acc : List Int} : ∀ (j f a : Nat) (l : List UInt8) (hf : l.length ≤ f) (hj : j < (cutS rows acc f a l).1.length), a ≤ ((cutS rows acc f a l).1[j]).2.1 ∧ ((cutS rows acc f a l).1[j]).2.1 ≤ a + l.length ∧ (cutS rows acc f a l).1.drop j = (cutS rows acc f ((cutS rows acc f a l).1[j]).2.1 (l.drop (((cutS rows acc f a l).1[j]).2.1 - a))).1
  | j, 0, a, l, hf, hj => by simp [cutS] at hj
  | j, f + 1, a, l, hf, hj => by
    by_cases hl : l.length = 0
    · rw [cutS_nil hl] at hj; simp at hj
    · by_cases h0 : (tok rows acc l).2.1 = 0
      · rw [cutS_none hl h0] at hj; simp at hj
      · have hc := cutS_cons (f := f) (a := a) hl h0
        have hle := tok_le (rows := rows) (acc := acc) l
        cases j with
        | zero =>
          have e0 : ((cutS rows acc (f + 1) a l).1[0]).2.1 = a := by simp only [hc]; rfl
          rw [e0, Nat.sub_self, List.drop_zero, List.drop_zero]
          exact ⟨Nat.le_refl _, by omega, rfl⟩
        | succ j =>
          have hj' : j < (cutS rows acc f (a + (tok rows acc l).2.1) (l.drop (tok rows acc l).2.1)).1.length := by rw [hc] at hj; simpa using hj
          obtain ⟨i1, i2, i3⟩ := cutS_drop j f (a + (tok rows acc l).2.1) (l.drop (tok rows acc l).2.1) (by simp; omega) hj'
          have e0 : (cutS rows acc (f + 1) a l).1[j + 1] = (cutS rows acc f (a + (tok rows acc l).2.1) (l.drop (tok rows acc l).2.1)).1[j] := by simp only [hc]; rfl
          rw [List.length_drop] at i2
          rw [e0]
          refine ⟨by omega, by omega, ?_⟩
          rw [show (cutS rows acc (f + 1) a l).1.drop (j + 1) = (cutS rows acc f (a + (tok rows acc l).2.1) (l.drop (tok rows acc l).2.1)).1.drop j by rw [hc]; rfl, i3, List.drop_drop]
          generalize ((cutS rows acc f (a + (tok rows acc l).2.1) (l.drop (tok rows acc l).2.1)).1[j]).2.1 = q at *
          rw [show (tok rows acc l).2.1 + (q - (a + (tok rows acc l).2.1)) = q - a by omega]
          exact congrArg (·.1) (cutS_fuel f (f + 1) q (l.drop (q - a)) (by simp; omega) (by simp; omega))
end Go.Sh.Pl
