/-
  DfaRight, in plain words: of any automaton the program's answers are the document's.
-/
import Derived.Test.YtjdafbgpckmieaaGreatDoorQDfaRightx4
import Derived.Test.YtjdafbgpckmieaaGreatDoorShP
set_option linter.unusedVariables false
set_option linter.unusedSimpArgs false
namespace Go.Proofs.YtjdafbgpckmieaaGreatDoor.QDfaRight
open Go.RowKit Go.Proofs.YtjdafbgpckmieaaGreatDoorW.PrintWords Go.Sh.Pl

theorem rdL (rows : LLi) (i : Nat) : rd_L1 rows (i : Int) = rows.getD i [] := by unfold rd_L1; rw [Int.toNat_natCast]
theorem rdN (l : List Int) (i : Nat) : rd l (i : Int) = l.getD i 0 := by unfold rd; rw [Int.toNat_natCast]
theorem all_drop {p : Int → Bool} {r : List Int} {j : Nat} (hj : j < r.length) : (r.drop j).all p = (p (r.getD j 0) && (r.drop (j + 1)).all p) := by
  rw [List.drop_eq_getElem_cons hj, List.all_cons, List.getD_eq_getElem?_getD, List.getElem?_eq_getElem hj]; rfl

/-! ### dfa.Right -/
theorem right_l1 {n : Nat} {rows : LLi} {acc : List Int} {i : Nat} {r : List Int} (hr : r.length ≤ 256) {b : Bool} (H : Evn (fun k => dfa_Right.l0 k n rows (rows.length : Int) (wrap64 ((i : Int) + 1)) rows acc) b) :
    ∀ (d j : Nat), j + d = r.length → Evn (fun k => dfa_Right.l1 k n rows (rows.length : Int) i r (r.length : Int) j rows acc) (if (r.drop j).all (okX n) then b else false)
  | 0, j, h => by
    have : r.drop j = [] := List.drop_eq_nil_of_le (by omega)
    rw [this]
    refine Evn.succ (fun k => ?_) H
    simp only [dfa_Right.l1]
    rw [if_neg (by omega)]
  | d + 1, j, h => by
    rw [all_drop (by omega)]
    by_cases h1 : r.getD j 0 < -1
    · have : okX n (r.getD j 0) = false := okX_lo h1
      rw [this]
      refine Evn.const fun k => ?_
      simp only [dfa_Right.l1, rdN]
      rw [if_pos (by omega), if_pos (by omega), if_pos (by omega), if_pos h1]
      simp
    · by_cases h2 : r.getD j 0 ≥ n
      · have : okX n (r.getD j 0) = false := okX_hi h2
        rw [this]
        refine Evn.const fun k => ?_
        simp only [dfa_Right.l1, rdN]
        rw [if_pos (by omega), if_pos (by omega), if_pos (by omega), if_neg h1, if_pos h2]
        simp
      · have : okX n (r.getD j 0) = true := okX_in h1 h2
        rw [this, Bool.true_and]
        refine Evn.succ (fun k => ?_) (right_l1 hr H d (j + 1) (by omega))
        simp only [dfa_Right.l1, rdN]
        rw [if_pos (by omega), if_pos (by omega), if_pos (by omega), if_neg h1, if_neg h2, wrap_succ (m := 256) (by omega) (by omega)]
theorem right_l0 {rows : LLi} {acc : List Int} (hn : rows.length ≤ 240) (ha : acc.length = rows.length) :
    ∀ (d i : Nat), i + d = rows.length → Evn (fun k => dfa_Right.l0 k (rows.length : Int) rows (rows.length : Int) i rows acc) ((List.range' i d).all fun i => okRow rows.length (rows.getD i []) (acc.getD i 0))
  | 0, i, h => by
    refine Evn.const fun k => ?_
    simp only [dfa_Right.l0]
    rw [if_neg (by omega)]
    rfl
  | d + 1, i, h => by
    rw [List.range'_succ, List.all_cons]
    have ih := right_l0 hn ha d (i + 1) (by omega)
    by_cases h1 : (rows.getD i []).length = 256
    · by_cases h2 : acc.getD i 0 < -1
      · have : okRow rows.length (rows.getD i []) (acc.getD i 0) = false := okRow_lo h2
        rw [this]
        refine Evn.succ (h := fun k => dfa_Right.j2 k (rows.length : Int) (rows.getD i []) rows (rows.length : Int) i true rows acc) (fun k => ?_) (Evn.const fun k => ?_)
        · simp only [dfa_Right.l0, rdL, rdN]
          rw [if_pos (by omega), if_pos (by omega), if_pos (by omega), if_pos (by omega), if_pos (by omega), decide_eq_true h2]
        · simp only [dfa_Right.j2]; simp
      · have h3 : okRow rows.length (rows.getD i []) (acc.getD i 0) = (rows.getD i []).all (okX rows.length) := by
          unfold okRow; rw [decide_eq_true h1, decide_eq_true (by omega)]; rfl
        rw [h3]
        refine Evn.succ (h := fun k => dfa_Right.j2 k (rows.length : Int) (rows.getD i []) rows (rows.length : Int) i false rows acc) (fun k => ?_) (Evn.succ (h := fun k => dfa_Right.l1 k (rows.length : Int) rows (rows.length : Int) i (rows.getD i []) ((rows.getD i []).length : Int) (0 : Nat) rows acc) (fun k => ?_) ?_)
        · simp only [dfa_Right.l0, rdL, rdN]
          rw [if_pos (by omega), if_pos (by omega), if_pos (by omega), if_pos (by omega), if_pos (by omega), decide_eq_false h2]
        · simp only [dfa_Right.j2]; simp
        · have := right_l1 (n := rows.length) (rows := rows) (acc := acc) (i := i) (r := rows.getD i []) (by omega) (b := (List.range' (i + 1) d).all fun i => okRow rows.length (rows.getD i []) (acc.getD i 0)) (by
            refine Evn.same (fun k => ?_) ih
            rw [wrap_succ (m := 256) (by omega) (by omega)]) 256 0 (by omega)
          rw [List.drop_zero] at this
          cases hb : (rows.getD i []).all (okX rows.length) <;> rw [hb] at this <;> simpa using this
    · have : okRow rows.length (rows.getD i []) (acc.getD i 0) = false := by
        unfold okRow; rw [decide_eq_false h1]; rfl
      rw [this]
      refine Evn.succ (h := fun k => dfa_Right.j2 k (rows.length : Int) (rows.getD i []) rows (rows.length : Int) i true rows acc) (fun k => ?_) (Evn.const fun k => ?_)
      · simp only [dfa_Right.l0, rdL, rdN]
        rw [if_pos (by omega), if_pos (by omega), if_pos (by omega), if_neg (by omega)]
      · simp only [dfa_Right.j2]; simp
theorem right_ev (rows : LLi) (acc : List Int) : Evn (fun k => dfa_Right.f k rows acc) (rightS rows acc) := by
  have no : ∀ (n : Int), rightS rows acc = false → (∀ k, dfa_Right.f k rows acc = dfa_Right.j0 k n true rows acc) → Evn (fun k => dfa_Right.f k rows acc) (rightS rows acc) := fun n h e => by
    rw [h]
    refine Evn.same e (Evn.const fun k => ?_)
    simp only [dfa_Right.j0]; simp
  by_cases h1 : rows.length = 0
  · exact no rows.length (by unfold rightS; rw [decide_eq_false (by omega)]; rfl) fun k => by unfold dfa_Right.f; rw [if_pos (by omega)]
  · by_cases h2 : 240 < rows.length
    · exact no rows.length (by unfold rightS; rw [decide_eq_false (p := rows.length ≤ 240) (by omega)]; simp) fun k => by unfold dfa_Right.f; rw [if_neg (by omega), if_pos (by omega)]
    · by_cases h3 : acc.length = rows.length
      · have hs : rightS rows acc = (List.range' 0 rows.length).all fun i => okRow rows.length (rows.getD i []) (acc.getD i 0) := by
          unfold rightS
          rw [decide_eq_true (by omega), decide_eq_true (by omega), decide_eq_true (by omega), List.range_eq_range']; simp
        rw [hs]
        refine Evn.same (h := fun k => dfa_Right.j0 k (rows.length : Int) false rows acc) (fun k => ?_) (Evn.succ (h := fun k => dfa_Right.l0 k (rows.length : Int) rows (rows.length : Int) (0 : Nat) rows acc) (fun k => ?_) (right_l0 (by omega) h3 rows.length 0 (by omega)))
        · unfold dfa_Right.f
          rw [if_neg (by omega), if_neg (by omega)]
          congr 1
          simp; omega
        · simp only [dfa_Right.j0]; simp
      · refine no rows.length (by unfold rightS; rw [decide_eq_false (p := rows.length = acc.length) (by omega)]; simp) fun k => ?_
        unfold dfa_Right.f
        rw [if_neg (by omega), if_neg (by omega)]
        congr 1
        simp; omega

/-! ### the document's Right -/
theorem rref_l1 {rows : LLi} {acc : List Int} {i : Nat} (hi : i < rows.length) (hr : (rows.getD i []).length = 256) {b : Bool} (H : Evn (fun k => topiaryref08_Right.l0 k (wrap64 ((i : Int) + 1)) rows acc) b) :
    ∀ (d j : Nat), j + d = 256 → Evn (fun k => topiaryref08_Right.l1 k i j rows acc) (if ((rows.getD i []).drop j).all (okX rows.length) then b else false)
  | 0, j, h => by
    have : (rows.getD i []).drop j = [] := List.drop_eq_nil_of_le (by omega)
    rw [this]
    refine Evn.succ (fun k => ?_) H
    simp only [topiaryref08_Right.l1]
    rw [if_neg (by omega)]
  | d + 1, j, h => by
    rw [all_drop (by omega)]
    by_cases h1 : (rows.getD i []).getD j 0 < -1
    · have : okX rows.length ((rows.getD i []).getD j 0) = false := okX_lo h1
      rw [this]
      refine Evn.const fun k => ?_
      simp only [topiaryref08_Right.l1, rdL, rdN]
      rw [if_pos (by omega), if_pos (by omega), if_pos (by omega), if_pos (by omega), if_pos (by omega), if_pos h1]
      simp
    · by_cases h2 : (rows.getD i []).getD j 0 ≥ rows.length
      · have : okX rows.length ((rows.getD i []).getD j 0) = false := okX_hi h2
        rw [this]
        refine Evn.const fun k => ?_
        simp only [topiaryref08_Right.l1, rdL, rdN]
        rw [if_pos (by omega), if_pos (by omega), if_pos (by omega), if_pos (by omega), if_pos (by omega), if_neg h1, if_pos h2]
        simp
      · have : okX rows.length ((rows.getD i []).getD j 0) = true := okX_in h1 h2
        rw [this, Bool.true_and]
        refine Evn.succ (fun k => ?_) (rref_l1 hi hr H d (j + 1) (by omega))
        simp only [topiaryref08_Right.l1, rdL, rdN]
        rw [if_pos (by omega), if_pos (by omega), if_pos (by omega), if_pos (by omega), if_pos (by omega), if_neg h1, if_neg h2, wrap_succ (m := 256) (by omega) (by omega)]
theorem rref_l0 {rows : LLi} {acc : List Int} (hn : rows.length ≤ 240) (ha : acc.length = rows.length) :
    ∀ (d i : Nat), i + d = rows.length → Evn (fun k => topiaryref08_Right.l0 k i rows acc) ((List.range' i d).all fun i => okRow rows.length (rows.getD i []) (acc.getD i 0))
  | 0, i, h => by
    refine Evn.const fun k => ?_
    simp only [topiaryref08_Right.l0]
    rw [if_neg (by omega)]
    rfl
  | d + 1, i, h => by
    rw [List.range'_succ, List.all_cons]
    have ih := rref_l0 hn ha d (i + 1) (by omega)
    by_cases h1 : (rows.getD i []).length = 256
    · by_cases h2 : acc.getD i 0 < -1
      · have : okRow rows.length (rows.getD i []) (acc.getD i 0) = false := okRow_lo h2
        rw [this]
        refine Evn.succ (h := fun k => topiaryref08_Right.j2 k i true rows acc) (fun k => ?_) (Evn.const fun k => ?_)
        · simp only [topiaryref08_Right.l0, rdL, rdN]
          rw [if_pos (by omega), if_pos (by omega), if_pos (by omega), if_pos (by omega), decide_eq_true h2]
        · simp only [topiaryref08_Right.j2]; simp
      · have h3 : okRow rows.length (rows.getD i []) (acc.getD i 0) = (rows.getD i []).all (okX rows.length) := by
          unfold okRow; rw [decide_eq_true h1, decide_eq_true (by omega)]; rfl
        rw [h3]
        refine Evn.succ (h := fun k => topiaryref08_Right.j2 k i false rows acc) (fun k => ?_) (Evn.succ (h := fun k => topiaryref08_Right.l1 k i (0 : Nat) rows acc) (fun k => ?_) ?_)
        · simp only [topiaryref08_Right.l0, rdL, rdN]
          rw [if_pos (by omega), if_pos (by omega), if_pos (by omega), if_pos (by omega), decide_eq_false h2]
        · simp only [topiaryref08_Right.j2]; simp
        · have := rref_l1 (rows := rows) (acc := acc) (i := i) (by omega) h1 (b := (List.range' (i + 1) d).all fun i => okRow rows.length (rows.getD i []) (acc.getD i 0)) (by
            refine Evn.same (fun k => ?_) ih
            rw [wrap_succ (m := 256) (by omega) (by omega)]) 256 0 (by omega)
          rw [List.drop_zero] at this
          cases hb : (rows.getD i []).all (okX rows.length) <;> rw [hb] at this <;> simpa using this
    · have : okRow rows.length (rows.getD i []) (acc.getD i 0) = false := by
        unfold okRow; rw [decide_eq_false h1]; rfl
      rw [this]
      refine Evn.succ (h := fun k => topiaryref08_Right.j2 k i true rows acc) (fun k => ?_) (Evn.const fun k => ?_)
      · simp only [topiaryref08_Right.l0, rdL, rdN]
        rw [if_pos (by omega), if_pos (by omega), if_neg (by omega)]
      · simp only [topiaryref08_Right.j2]; simp
theorem rref_ev (rows : LLi) (acc : List Int) : Evn (fun k => topiaryref08_Right.f k rows acc) (rightS rows acc) := by
  have no : rightS rows acc = false → (∀ k, topiaryref08_Right.f k rows acc = topiaryref08_Right.j0 k true rows acc) → Evn (fun k => topiaryref08_Right.f k rows acc) (rightS rows acc) := fun h e => by
    rw [h]
    refine Evn.same e (Evn.const fun k => ?_)
    simp only [topiaryref08_Right.j0]; simp
  by_cases h1 : rows.length = 0
  · exact no (by unfold rightS; rw [decide_eq_false (by omega)]; rfl) fun k => by unfold topiaryref08_Right.f; rw [if_pos (by omega)]
  · by_cases h2 : 240 < rows.length
    · exact no (by unfold rightS; rw [decide_eq_false (p := rows.length ≤ 240) (by omega)]; simp) fun k => by unfold topiaryref08_Right.f; rw [if_neg (by omega), if_pos (by omega)]
    · by_cases h3 : acc.length = rows.length
      · have hs : rightS rows acc = (List.range' 0 rows.length).all fun i => okRow rows.length (rows.getD i []) (acc.getD i 0) := by
          unfold rightS
          rw [decide_eq_true (by omega), decide_eq_true (by omega), decide_eq_true (by omega), List.range_eq_range']; simp
        rw [hs]
        refine Evn.same (h := fun k => topiaryref08_Right.j0 k false rows acc) (fun k => ?_) (Evn.succ (h := fun k => topiaryref08_Right.l0 k (0 : Nat) rows acc) (fun k => ?_) (rref_l0 (by omega) h3 rows.length 0 (by omega)))
        · unfold topiaryref08_Right.f
          rw [if_neg (by omega), if_neg (by omega)]
          congr 1
          simp; omega
        · simp only [topiaryref08_Right.j0]; simp
      · refine no (by unfold rightS; rw [decide_eq_false (p := rows.length = acc.length) (by omega)]; simp) fun k => ?_
        unfold topiaryref08_Right.f
        rw [if_neg (by omega), if_neg (by omega)]
        congr 1
        simp; omega

/-! ### where a text leads -/
theorem btN (s : ByteArray) (i : Nat) (h : i < s.size) : bt s (i : Int) = ((s.data.toList[i]'(by simpa using h)).toNat : Int) := by
  unfold bt
  rw [dif_pos (by rw [Int.toNat_natCast]; exact h)]
  rfl
theorem drop_bt (s : ByteArray) (i : Nat) (h : i < s.size) : s.data.toList.drop i = (s.data.toList[i]'(by simpa using h)) :: s.data.toList.drop (i + 1) := List.drop_eq_getElem_cons (by simpa using h)
theorem cellN {rows : LLi} {x : Int} (h0 : 0 ≤ x) (b : UInt8) : rd (rd_L1 rows x) (b.toNat : Int) = (rows.getD x.toNat []).getD b.toNat 0 := by
  obtain ⟨n, rfl⟩ := Int.eq_ofNat_of_zero_le h0
  rw [rdL, rdN, Int.toNat_natCast]
theorem lenN {rows : LLi} {x : Int} (h0 : 0 ≤ x) : rd_L1 rows x = rows.getD x.toNat [] := by
  obtain ⟨n, rfl⟩ := Int.eq_ofNat_of_zero_le h0
  rw [rdL, Int.toNat_natCast]
theorem go_l0 {rows : LLi} {acc : List Int} (R : RightP rows acc) (s : ByteArray) (hs : s.size ≤ 140737488351232) : ∀ (d i : Nat) (x : Int), i + d = s.size → InR rows x → Evn (fun k => dfa_Go.l0 k s x i rows acc) (goL rows x (s.data.toList.drop i))
  | 0, i, x, h, hx => by
    rw [List.drop_eq_nil_of_le (by simp; omega)]
    refine Evn.const fun k => ?_
    simp only [dfa_Go.l0]
    rw [if_neg (by omega)]
    rfl
  | d + 1, i, x, h, hx => by
    have hi : i < s.size := by omega
    rw [drop_bt s i hi]
    by_cases h0 : x < 0
    · rw [goL_neg h0]
      refine Evn.const fun k => ?_
      simp only [dfa_Go.l0]
      rw [if_pos (by omega), if_neg (by omega)]
    · rw [goL_cons h0]
      have hb := (s.data.toList[i]'(by simpa using hi)).toNat_lt
      have hr := R.row x.toNat (by have := hx.2; omega)
      refine Evn.succ (fun k => ?_) (go_l0 R s hs d (i + 1) _ (by omega) (R.next (by omega) hx.2 _))
      simp only [dfa_Go.l0]
      have := hx.2
      rw [btN s i hi, cellN (by omega), lenN (by omega), if_pos (by omega), if_pos (by omega), if_pos (by omega), if_pos (by omega), if_pos (by omega), if_pos (by omega), if_pos (by omega), wrap_succ (m := 140737488351232) (by omega) (by omega)]
theorem go_ev (rows : LLi) (acc : List Int) (s : ByteArray) (hs : s.size ≤ 140737488351232) : Evn (fun k => dfa_Go.f k rows acc s) (if rightS rows acc then goL rows 0 s.data.toList else -1) := by
  refine Evn.same (fun k => rfl) ((right_ev rows acc).bind (f := fun k t => if t = true then (dfa_Go.l0 k s 0 0 rows acc) else (some (-1))) ?_)
  cases hR : rightS rows acc with
  | false =>
    simp only [Bool.false_eq_true, if_false]
    exact Evn.pure
  | true =>
    have R := rightS_iff.1 hR
    have := go_l0 R s hs s.size 0 0 (by omega) ⟨by omega, by have := R.pos; omega⟩
    rw [List.drop_zero] at this
    exact Evn.same (fun k => by rw [if_pos rfl]; rfl) this
theorem rgo_l0 {rows : LLi} {acc : List Int} (R : RightP rows acc) (s : ByteArray) (hs : s.size ≤ 140737488351232) : ∀ (d i : Nat) (x : Int), i + d = s.size → InR rows x → Evn (fun k => topiaryref08_Go.l0 k x s i rows acc) (goL rows x (s.data.toList.drop i))
  | 0, i, x, h, hx => by
    rw [List.drop_eq_nil_of_le (by simp; omega)]
    refine Evn.const fun k => ?_
    simp only [topiaryref08_Go.l0]
    rw [if_neg (by omega)]
    rfl
  | d + 1, i, x, h, hx => by
    have hi : i < s.size := by omega
    rw [drop_bt s i hi]
    by_cases h0 : x < 0
    · rw [goL_neg h0]
      have : x = -1 := by have := hx.1; omega
      subst this
      refine Evn.const fun k => ?_
      simp only [topiaryref08_Go.l0]
      rw [if_pos (by omega), if_pos (by omega)]
    · rw [goL_cons h0]
      have hb := (s.data.toList[i]'(by simpa using hi)).toNat_lt
      have hr := R.row x.toNat (by have := hx.2; omega)
      refine Evn.succ (fun k => ?_) (rgo_l0 R s hs d (i + 1) _ (by omega) (R.next (by omega) hx.2 _))
      simp only [topiaryref08_Go.l0]
      have := hx.2
      have hw : wrap64 (((s.data.toList[i]'(by simpa using hi)).toNat : Int)) = ((s.data.toList[i]'(by simpa using hi)).toNat : Int) := by unfold wrap64; omega
      rw [btN s i hi, hw, cellN (by omega), lenN (by omega), if_pos (by omega), if_neg (by omega), if_pos (by omega), if_pos (by omega), if_pos (by omega), if_pos (by omega), if_pos (by omega), wrap_succ (m := 140737488351232) (by omega) (by omega)]
theorem rgo_ev {rows : LLi} {acc : List Int} (R : RightP rows acc) (s : ByteArray) (hs : s.size ≤ 140737488351232) : Evn (fun k => topiaryref08_Go.f k rows acc 0 s) (goL rows 0 s.data.toList) := by
  have := rgo_l0 R s hs s.size 0 0 (by omega) ⟨by omega, by have := R.pos; omega⟩
  rw [List.drop_zero] at this
  exact Evn.same (fun k => rfl) this
theorem accepts_ev (rows : LLi) (acc : List Int) (s : ByteArray) (hs : s.size ≤ 140737488351232) : Evn (fun k => dfa_Accepts.f k rows acc s) (if rightS rows acc then (if goL rows 0 s.data.toList < 0 then -1 else acc.getD (goL rows 0 s.data.toList).toNat 0) else -1) := by
  refine Evn.same (fun k => rfl) ((go_ev rows acc s hs).bind (f := fun k t => if t < 0 then (some (-1)) else (if 0 ≤ t then (if t < (acc.length : Int) then (some (rd acc t)) else (none)) else (none))) ?_)
  cases hR : rightS rows acc with
  | false =>
    simp only [Bool.false_eq_true, if_false]
    exact Evn.same (fun k => by rw [if_pos (by omega)]) Evn.pure
  | true =>
    have R := rightS_iff.1 hR
    have hin := goL_in R s.data.toList 0 ⟨by omega, by have := R.pos; omega⟩
    by_cases h0 : goL rows 0 s.data.toList < 0
    · exact Evn.same (fun k => by rw [if_pos rfl, if_pos rfl, if_pos h0, if_pos h0]) Evn.pure
    · have := hin.2
      have := R.len
      exact Evn.same (fun k => by rw [if_pos rfl, if_pos rfl, if_neg h0, if_neg h0, if_pos (by omega), if_pos (by omega)]; rfl) Evn.pure

/-! ### the law -/
theorem law_j0 (rows : LLi) (acc : List Int) (s : ByteArray) (hs : s.size ≤ 140737488351232) : Evn (fun k => topiarylaw08_DfaRight.j0 k s false rows acc) true := by
  refine Evn.succ (h := fun k => (topiaryref08_Right.f k rows acc).bind fun t127 => (if t127 = true then ((topiaryref08_Go.f k rows acc 0 s).bind fun t131 => ((dfa_Right.f k rows acc).bind fun t132 => (if t132 = true then ((dfa_Go.f k rows acc s).bind fun t133 => (topiarylaw08_DfaRight.j1 k s t131 (t133 != t131) rows acc)) else (topiarylaw08_DfaRight.j1 k s t131 true rows acc)))) else ((dfa_Right.f k rows acc).bind fun t128 => (if t128 = true then (some false) else ((dfa_Go.f k rows acc s).bind fun t129 => (if t129 = (-1) then ((dfa_Accepts.f k rows acc s).bind fun t130 => (some (t130 == (-1)))) else (some false))))))) (fun k => ?_) ?_
  · simp only [topiarylaw08_DfaRight.j0]; simp
  refine (rref_ev rows acc).bind (f := fun k t127 => (if t127 = true then ((topiaryref08_Go.f k rows acc 0 s).bind fun t131 => ((dfa_Right.f k rows acc).bind fun t132 => (if t132 = true then ((dfa_Go.f k rows acc s).bind fun t133 => (topiarylaw08_DfaRight.j1 k s t131 (t133 != t131) rows acc)) else (topiarylaw08_DfaRight.j1 k s t131 true rows acc)))) else ((dfa_Right.f k rows acc).bind fun t128 => (if t128 = true then (some false) else ((dfa_Go.f k rows acc s).bind fun t129 => (if t129 = (-1) then ((dfa_Accepts.f k rows acc s).bind fun t130 => (some (t130 == (-1)))) else (some false))))))) ?_
  have HR := right_ev rows acc
  have HG := go_ev rows acc s hs
  have HA := accepts_ev rows acc s hs
  cases hR : rightS rows acc with
  | false =>
    rw [hR] at HR HG HA
    refine Evn.same (fun k => by rw [if_neg (by simp)]) (HR.bind (f := fun k t128 => if t128 = true then (some false) else ((dfa_Go.f k rows acc s).bind fun t129 => (if t129 = (-1) then ((dfa_Accepts.f k rows acc s).bind fun t130 => (some (t130 == (-1)))) else (some false)))) ?_)
    refine Evn.same (fun k => by rw [if_neg (by simp)]) (HG.bind (f := fun k t129 => if t129 = (-1) then ((dfa_Accepts.f k rows acc s).bind fun t130 => (some (t130 == (-1)))) else (some false)) ?_)
    refine Evn.same (fun k => by rw [if_pos (by simp)]) (HA.bind (f := fun k t130 => some (t130 == (-1))) ?_)
    exact Evn.same (fun k => by simp) Evn.pure
  | true =>
    rw [hR] at HR HG HA
    have R := rightS_iff.1 hR
    have hin := goL_in R s.data.toList 0 ⟨by omega, by have := R.pos; omega⟩
    have hlen := R.len
    simp only [if_true] at HG HA
    generalize goL rows 0 s.data.toList = x at HG HA hin
    have hgo := rgo_ev R s hs
    have hx : Evn (fun k => topiaryref08_Go.f k rows acc 0 s) x := by
      have e := HG.uniq (go_ev rows acc s hs)
      rw [hR] at e
      simp only [if_true] at e
      rw [e]; exact hgo
    refine Evn.same (fun k => by rw [if_pos rfl]) (hx.bind (f := fun k t131 => (dfa_Right.f k rows acc).bind fun t132 => (if t132 = true then ((dfa_Go.f k rows acc s).bind fun t133 => (topiarylaw08_DfaRight.j1 k s t131 (t133 != t131) rows acc)) else (topiarylaw08_DfaRight.j1 k s t131 true rows acc))) ?_)
    refine HR.bind (f := fun k t132 => if t132 = true then ((dfa_Go.f k rows acc s).bind fun t133 => (topiarylaw08_DfaRight.j1 k s x (t133 != x) rows acc)) else (topiarylaw08_DfaRight.j1 k s x true rows acc)) ?_
    refine Evn.same (fun k => by rw [if_pos rfl]) (HG.bind (f := fun k t133 => topiarylaw08_DfaRight.j1 k s x (t133 != x) rows acc) ?_)
    by_cases h0 : x < 0
    · rw [if_pos h0] at HA
      refine Evn.succ (h := fun k => (dfa_Accepts.f k rows acc s).bind fun t134 => (if t134 = (-1) then (some true) else (if x ≥ 0 then ((dfa_Accepts.f k rows acc s).bind fun t135 => (if 0 ≤ x then (if x < (acc.length : Int) then (some (t135 == (rd acc x))) else (none)) else (none))) else (some false)))) (fun k => ?_) ?_
      · simp only [topiarylaw08_DfaRight.j1, bne_self_eq_false]
        rw [if_neg (by simp), if_pos h0]
      · refine HA.bind (f := fun k t134 => if t134 = (-1) then (some true) else (if x ≥ 0 then ((dfa_Accepts.f k rows acc s).bind fun t135 => (if 0 ≤ x then (if x < (acc.length : Int) then (some (t135 == (rd acc x))) else (none)) else (none))) else (some false))) ?_
        exact Evn.same (fun k => by rw [if_pos rfl]) Evn.pure
    · rw [if_neg h0] at HA
      refine Evn.succ (h := fun k => (dfa_Accepts.f k rows acc s).bind fun t137 => (if 0 ≤ x then (if x < (acc.length : Int) then (some (t137 == (rd acc x))) else (none)) else (none))) (fun k => ?_) ?_
      · simp only [topiarylaw08_DfaRight.j1, bne_self_eq_false]
        rw [if_neg (by simp), if_neg h0, if_pos (by omega)]
      · refine HA.bind (f := fun k t137 => if 0 ≤ x then (if x < (acc.length : Int) then (some (t137 == (rd acc x))) else (none)) else (none)) ?_
        have := hin.2
        refine Evn.same (fun k => ?_) Evn.pure
        rw [if_pos (by omega), if_pos (by omega)]
        simp [rd]
theorem law (rows : LLi) (acc : List Int) (s : ByteArray) (hs : s.size ≤ 140737488351232) : ∃ k, topiarylaw08_DfaRight.f k rows acc s = some true := by
  have hw : topiarylaw08_wakes.f = some true := by unfold topiarylaw08_wakes.f; first | rfl | (rw [if_pos (by omega)])
  have e : ∀ k, topiarylaw08_DfaRight.f k rows acc s = if (rows.length : Int) > 300 then (topiarylaw08_DfaRight.j0 k s true rows acc) else (topiarylaw08_DfaRight.j0 k s (decide ((s.size : Int) > 1000)) rows acc) := fun k => by
    unfold topiarylaw08_DfaRight.f
    rw [hw]
    rfl
  have yes : ∃ k, topiarylaw08_DfaRight.j0 k s true rows acc = some true := ⟨1, by simp [topiarylaw08_DfaRight.j0]⟩
  by_cases h1 : (rows.length : Int) > 300
  · obtain ⟨k, h⟩ := yes
    exact ⟨k, by rw [e, if_pos h1]; exact h⟩
  · by_cases h2 : (s.size : Int) > 1000
    · obtain ⟨k, h⟩ := yes
      exact ⟨k, by rw [e, if_neg h1, decide_eq_true h2]; exact h⟩
    · obtain ⟨k, h⟩ := (law_j0 rows acc s hs).get
      exact ⟨k, by rw [e, if_neg h1, decide_eq_false h2]; exact h⟩
end Go.Proofs.YtjdafbgpckmieaaGreatDoor.QDfaRight
