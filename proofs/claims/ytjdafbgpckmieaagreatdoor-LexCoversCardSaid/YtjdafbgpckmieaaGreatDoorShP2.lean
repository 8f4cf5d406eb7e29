/-
  Plain words on the longest match by an automaton and on a text cut into tokens.
-/
import Derived.Test.YtjdafbgpckmieaaGreatDoorShP
set_option linter.unusedVariables false
set_option linter.unusedSimpArgs false
namespace Go.Sh.Pl
open Go Go.RowKit

/-- the best match so far, with what state x tells at n letters -/
def upd (acc : List Int) (x : Int) (n : Nat) (b : Int × Nat) : Int × Nat := if 0 < n ∧ 0 ≤ acc.getD x.toNat 0 then (acc.getD x.toNat 0, n) else b
/-- from state x with n letters read on: the best match (its rule, its length) and how many places were seen -/
def scan (rows : LLi) (acc : List Int) : Int → Nat → List UInt8 → Int × Nat → Int × Nat × Nat
  | x, n, [], b => ((upd acc x n b).1, (upd acc x n b).2, n + 1)
  | x, n, c :: t, b => if (rows.getD x.toNat []).getD c.toNat 0 < 0 then ((upd acc x n b).1, (upd acc x n b).2, n + 1) else scan rows acc ((rows.getD x.toNat []).getD c.toNat 0) (n + 1) t (upd acc x n b)
theorem upd_le {acc : List Int} {x : Int} {n : Nat} {b : Int × Nat} (h : b.2 ≤ n) : (upd acc x n b).2 ≤ n := by
  unfold upd; split
  · exact Nat.le_refl _
  · exact h
theorem scan_le {rows : LLi} {acc : List Int} : ∀ (l : List UInt8) (x : Int) (n : Nat) (b : Int × Nat), b.2 ≤ n → (scan rows acc x n l b).2.1 ≤ n + l.length
  | [], x, n, b, h => by
    have := upd_le (acc := acc) (x := x) h
    simpa [scan] using this
  | c :: t, x, n, b, h => by
    have h1 := upd_le (acc := acc) (x := x) h
    unfold scan
    split
    · simp only [List.length_cons]; omega
    · have := scan_le (rows := rows) (acc := acc) t ((rows.getD x.toNat []).getD c.toNat 0) (n + 1) (upd acc x n b) (by omega)
      simp only [List.length_cons]; omega
theorem scan_seen {rows : LLi} {acc : List Int} : ∀ (l : List UInt8) (x : Int) (n : Nat) (b : Int × Nat), (scan rows acc x n l b).2.2 ≤ n + l.length + 1
  | [], x, n, b => by simp [scan]
  | c :: t, x, n, b => by
    unfold scan
    split
    · simp only [List.length_cons]; omega
    · have := scan_seen (rows := rows) (acc := acc) t ((rows.getD x.toNat []).getD c.toNat 0) (n + 1) (upd acc x n b)
      simp only [List.length_cons]; omega
/-- the longest match at the head of a text -/
def tok (rows : LLi) (acc : List Int) (l : List UInt8) : Int × Nat × Nat := scan rows acc 0 0 l (0, 0)
theorem tok_le {rows : LLi} {acc : List Int} (l : List UInt8) : (tok rows acc l).2.1 ≤ l.length := by
  have := scan_le (rows := rows) (acc := acc) l 0 0 (0, 0) (Nat.le_refl _)
  unfold tok; omega
theorem tok_seen {rows : LLi} {acc : List Int} (l : List UInt8) : (tok rows acc l).2.2 ≤ l.length + 1 := by
  have := scan_seen (rows := rows) (acc := acc) l 0 0 (0, 0)
  unfold tok; omega

theorem take_succ_drop {l : List UInt8} {a n : Nat} (h : a + n < l.length) : (l.drop a).take (n + 1) = (l.drop a).take n ++ [l[a + n]] := by
  rw [List.take_add_one]
  congr 1
  rw [List.getElem?_drop, List.getElem?_eq_getElem h]; rfl
theorem extract_list (s : ByteArray) (a b : Nat) (h : b ≤ s.size) : (s.extract a b).data.toList = (s.data.toList.drop a).take (b - a) := by
  rw [ByteArray.data_extract, Array.toList_extract]
theorem extract_size (s : ByteArray) (a b : Nat) (h : b ≤ s.size) : (s.extract a b).size = b - a := by
  rw [ByteArray.size_extract]; omega
theorem goL_snoc {rows : LLi} (l : List UInt8) (c : UInt8) (x : Int) (h : 0 ≤ goL rows x l) : goL rows x (l ++ [c]) = (rows.getD (goL rows x l).toNat []).getD c.toNat 0 := by
  rw [goL_app, goL_cons (by omega)]; rfl
/-- a text's tokens from place a on (a rule, a place, a length, the place behind what was seen), and where it ends: -1, or the place where there is none -/
def cutS (rows : LLi) (acc : List Int) : Nat → Nat → List UInt8 → List (Int × Nat × Nat × Nat) × Int
  | 0, _, _ => ([], -1)
  | f + 1, a, l => if l.length = 0 then ([], -1) else if (tok rows acc l).2.1 = 0 then ([], (a : Int)) else
    (((tok rows acc l).1, a, (tok rows acc l).2.1, a + (tok rows acc l).2.2) :: (cutS rows acc f (a + (tok rows acc l).2.1) (l.drop (tok rows acc l).2.1)).1, (cutS rows acc f (a + (tok rows acc l).2.1) (l.drop (tok rows acc l).2.1)).2)
theorem cutS_len {rows : LLi} {acc : List Int} : ∀ (f a : Nat) (l : List UInt8), (cutS rows acc f a l).1.length ≤ f
  | 0, a, l => by simp [cutS]
  | f + 1, a, l => by
    unfold cutS
    split
    · simp
    · split
      · simp
      · have := cutS_len (rows := rows) (acc := acc) f (a + (tok rows acc l).2.1) (l.drop (tok rows acc l).2.1)
        simp only [List.length_cons]; omega
end Go.Sh.Pl
