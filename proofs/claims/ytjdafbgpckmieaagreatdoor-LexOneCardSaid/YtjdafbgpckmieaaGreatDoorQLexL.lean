/-
  LexOne, in plain words: of any automaton and any place the longest match is the document's.
-/
import Derived.Test.YtjdafbgpckmieaaGreatDoorQLexf9
import Derived.Test.YtjdafbgpckmieaaGreatDoorShP2
set_option linter.unusedVariables false
set_option linter.unusedSimpArgs false
namespace Go.Proofs.YtjdafbgpckmieaaGreatDoor.QLex
open Go.RowKit Go.Proofs.YtjdafbgpckmieaaGreatDoorW.PrintWords Go.Sh.Pl

theorem rdL (rows : LLi) (i : Nat) : rd_L1 rows (i : Int) = rows.getD i [] := by unfold rd_L1; rw [Int.toNat_natCast]
theorem rdN (l : List Int) (i : Nat) : rd l (i : Int) = l.getD i 0 := by unfold rd; rw [Int.toNat_natCast]
theorem all_drop {p : Int → Bool} {r : List Int} {j : Nat} (hj : j < r.length) : (r.drop j).all p = (p (r.getD j 0) && (r.drop (j + 1)).all p) := by
  rw [List.drop_eq_getElem_cons hj, List.all_cons, List.getD_eq_getElem?_getD, List.getElem?_eq_getElem hj]; rfl

/-! ### dfa.Right -/
theorem right_l1 {n : Nat} {rows : LLi} {acc : List Int} {i : Nat} {r : List Int} (hr : r.length ≤ 256) {b : Bool} (H : Evn (fun k => dfa_Right.l0 k n rows (rows.length : Int) (wrap64 ((i : Int) + 1)) rows acc) b) :
    ∀ (d j : Nat), j + d = r.length → Evn (fun k => dfa_Right.l1 k n rows (rows.length : Int) i r (r.length : Int) j rows acc) (if (r.drop j).all (okX n) then b else false)
  | 0, j, h => by
    have : r.drop j = [] := List.drop_eq_nil_of_le (by omega)
    rw [this]
    refine Evn.succ (fun k => ?_) H
    simp only [dfa_Right.l1]
    rw [if_neg (by omega)]
  | d + 1, j, h => by
    rw [all_drop (by omega)]
    by_cases h1 : r.getD j 0 < -1
    · have : okX n (r.getD j 0) = false := okX_lo h1
      rw [this]
      refine Evn.const fun k => ?_
      simp only [dfa_Right.l1, rdN]
      rw [if_pos (by omega), if_pos (by omega), if_pos (by omega), if_pos h1]
      simp
    · by_cases h2 : r.getD j 0 ≥ n
      · have : okX n (r.getD j 0) = false := okX_hi h2
        rw [this]
        refine Evn.const fun k => ?_
        simp only [dfa_Right.l1, rdN]
        rw [if_pos (by omega), if_pos (by omega), if_pos (by omega), if_neg h1, if_pos h2]
        simp
      · have : okX n (r.getD j 0) = true := okX_in h1 h2
        rw [this, Bool.true_and]
        refine Evn.succ (fun k => ?_) (right_l1 hr H d (j + 1) (by omega))
        simp only [dfa_Right.l1, rdN]
        rw [if_pos (by omega), if_pos (by omega), if_pos (by omega), if_neg h1, if_neg h2, wrap_succ (m := 256) (by omega) (by omega)]
theorem right_l0 {rows : LLi} {acc : List Int} (hn : rows.length ≤ 240) (ha : acc.length = rows.length) :
    ∀ (d i : Nat), i + d = rows.length → Evn (fun k => dfa_Right.l0 k (rows.length : Int) rows (rows.length : Int) i rows acc) ((List.range' i d).all fun i => okRow rows.length (rows.getD i []) (acc.getD i 0))
  | 0, i, h => by
    refine Evn.const fun k => ?_
    simp only [dfa_Right.l0]
    rw [if_neg (by omega)]
    rfl
  | d + 1, i, h => by
    rw [List.range'_succ, List.all_cons]
    have ih := right_l0 hn ha d (i + 1) (by omega)
    by_cases h1 : (rows.getD i []).length = 256
    · by_cases h2 : acc.getD i 0 < -1
      · have : okRow rows.length (rows.getD i []) (acc.getD i 0) = false := okRow_lo h2
        rw [this]
        refine Evn.succ (h := fun k => dfa_Right.j2 k (rows.length : Int) (rows.getD i []) rows (rows.length : Int) i true rows acc) (fun k => ?_) (Evn.const fun k => ?_)
        · simp only [dfa_Right.l0, rdL, rdN]
          rw [if_pos (by omega), if_pos (by omega), if_pos (by omega), if_pos (by omega), if_pos (by omega), decide_eq_true h2]
        · simp only [dfa_Right.j2]; simp
      · have h3 : okRow rows.length (rows.getD i []) (acc.getD i 0) = (rows.getD i []).all (okX rows.length) := by
          unfold okRow; rw [decide_eq_true h1, decide_eq_true (by omega)]; rfl
        rw [h3]
        refine Evn.succ (h := fun k => dfa_Right.j2 k (rows.length : Int) (rows.getD i []) rows (rows.length : Int) i false rows acc) (fun k => ?_) (Evn.succ (h := fun k => dfa_Right.l1 k (rows.length : Int) rows (rows.length : Int) i (rows.getD i []) ((rows.getD i []).length : Int) (0 : Nat) rows acc) (fun k => ?_) ?_)
        · simp only [dfa_Right.l0, rdL, rdN]
          rw [if_pos (by omega), if_pos (by omega), if_pos (by omega), if_pos (by omega), if_pos (by omega), decide_eq_false h2]
        · simp only [dfa_Right.j2]; simp
        · have := right_l1 (n := rows.length) (rows := rows) (acc := acc) (i := i) (r := rows.getD i []) (by omega) (b := (List.range' (i + 1) d).all fun i => okRow rows.length (rows.getD i []) (acc.getD i 0)) (by
            refine Evn.same (fun k => ?_) ih
            rw [wrap_succ (m := 256) (by omega) (by omega)]) 256 0 (by omega)
          rw [List.drop_zero] at this
          cases hb : (rows.getD i []).all (okX rows.length) <;> rw [hb] at this <;> simpa using this
    · have : okRow rows.length (rows.getD i []) (acc.getD i 0) = false := by
        unfold okRow; rw [decide_eq_false h1]; rfl
      rw [this]
      refine Evn.succ (h := fun k => dfa_Right.j2 k (rows.length : Int) (rows.getD i []) rows (rows.length : Int) i true rows acc) (fun k => ?_) (Evn.const fun k => ?_)
      · simp only [dfa_Right.l0, rdL, rdN]
        rw [if_pos (by omega), if_pos (by omega), if_pos (by omega), if_neg (by omega)]
      · simp only [dfa_Right.j2]; simp
theorem right_ev (rows : LLi) (acc : List Int) : Evn (fun k => dfa_Right.f k rows acc) (rightS rows acc) := by
  have no : ∀ (n : Int), rightS rows acc = false → (∀ k, dfa_Right.f k rows acc = dfa_Right.j0 k n true rows acc) → Evn (fun k => dfa_Right.f k rows acc) (rightS rows acc) := fun n h e => by
    rw [h]
    refine Evn.same e (Evn.const fun k => ?_)
    simp only [dfa_Right.j0]; simp
  by_cases h1 : rows.length = 0
  · exact no rows.length (by unfold rightS; rw [decide_eq_false (by omega)]; rfl) fun k => by unfold dfa_Right.f; rw [if_pos (by omega)]
  · by_cases h2 : 240 < rows.length
    · exact no rows.length (by unfold rightS; rw [decide_eq_false (p := rows.length ≤ 240) (by omega)]; simp) fun k => by unfold dfa_Right.f; rw [if_neg (by omega), if_pos (by omega)]
    · by_cases h3 : acc.length = rows.length
      · have hs : rightS rows acc = (List.range' 0 rows.length).all fun i => okRow rows.length (rows.getD i []) (acc.getD i 0) := by
          unfold rightS
          rw [decide_eq_true (by omega), decide_eq_true (by omega), decide_eq_true (by omega), List.range_eq_range']; simp
        rw [hs]
        refine Evn.same (h := fun k => dfa_Right.j0 k (rows.length : Int) false rows acc) (fun k => ?_) (Evn.succ (h := fun k => dfa_Right.l0 k (rows.length : Int) rows (rows.length : Int) (0 : Nat) rows acc) (fun k => ?_) (right_l0 (by omega) h3 rows.length 0 (by omega)))
        · unfold dfa_Right.f
          rw [if_neg (by omega), if_neg (by omega)]
          congr 1
          simp; omega
        · simp only [dfa_Right.j0]; simp
      · refine no rows.length (by unfold rightS; rw [decide_eq_false (p := rows.length = acc.length) (by omega)]; simp) fun k => ?_
        unfold dfa_Right.f
        rw [if_neg (by omega), if_neg (by omega)]
        congr 1
        simp; omega

/-! ### the document's Right -/
theorem rref_l1 {rows : LLi} {acc : List Int} {i : Nat} (hi : i < rows.length) (hr : (rows.getD i []).length = 256) {b : Bool} (H : Evn (fun k => topiaryref08_Right.l0 k (wrap64 ((i : Int) + 1)) rows acc) b) :
    ∀ (d j : Nat), j + d = 256 → Evn (fun k => topiaryref08_Right.l1 k i j rows acc) (if ((rows.getD i []).drop j).all (okX rows.length) then b else false)
  | 0, j, h => by
    have : (rows.getD i []).drop j = [] := List.drop_eq_nil_of_le (by omega)
    rw [this]
    refine Evn.succ (fun k => ?_) H
    simp only [topiaryref08_Right.l1]
    rw [if_neg (by omega)]
  | d + 1, j, h => by
    rw [all_drop (by omega)]
    by_cases h1 : (rows.getD i []).getD j 0 < -1
    · have : okX rows.length ((rows.getD i []).getD j 0) = false := okX_lo h1
      rw [this]
      refine Evn.const fun k => ?_
      simp only [topiaryref08_Right.l1, rdL, rdN]
      rw [if_pos (by omega), if_pos (by omega), if_pos (by omega), if_pos (by omega), if_pos (by omega), if_pos h1]
      simp
    · by_cases h2 : (rows.getD i []).getD j 0 ≥ rows.length
      · have : okX rows.length ((rows.getD i []).getD j 0) = false := okX_hi h2
        rw [this]
        refine Evn.const fun k => ?_
        simp only [topiaryref08_Right.l1, rdL, rdN]
        rw [if_pos (by omega), if_pos (by omega), if_pos (by omega), if_pos (by omega), if_pos (by omega), if_neg h1, if_pos h2]
        simp
      · have : okX rows.length ((rows.getD i []).getD j 0) = true := okX_in h1 h2
        rw [this, Bool.true_and]
        refine Evn.succ (fun k => ?_) (rref_l1 hi hr H d (j + 1) (by omega))
        simp only [topiaryref08_Right.l1, rdL, rdN]
        rw [if_pos (by omega), if_pos (by omega), if_pos (by omega), if_pos (by omega), if_pos (by omega), if_neg h1, if_neg h2, wrap_succ (m := 256) (by omega) (by omega)]
theorem rref_l0 {rows : LLi} {acc : List Int} (hn : rows.length ≤ 240) (ha : acc.length = rows.length) :
    ∀ (d i : Nat), i + d = rows.length → Evn (fun k => topiaryref08_Right.l0 k i rows acc) ((List.range' i d).all fun i => okRow rows.length (rows.getD i []) (acc.getD i 0))
  | 0, i, h => by
    refine Evn.const fun k => ?_
    simp only [topiaryref08_Right.l0]
    rw [if_neg (by omega)]
    rfl
  | d + 1, i, h => by
    rw [List.range'_succ, List.all_cons]
    have ih := rref_l0 hn ha d (i + 1) (by omega)
    by_cases h1 : (rows.getD i []).length = 256
    · by_cases h2 : acc.getD i 0 < -1
      · have : okRow rows.length (rows.getD i []) (acc.getD i 0) = false := okRow_lo h2
        rw [this]
        refine Evn.succ (h := fun k => topiaryref08_Right.j2 k i true rows acc) (fun k => ?_) (Evn.const fun k => ?_)
        · simp only [topiaryref08_Right.l0, rdL, rdN]
          rw [if_pos (by omega), if_pos (by omega), if_pos (by omega), if_pos (by omega), decide_eq_true h2]
        · simp only [topiaryref08_Right.j2]; simp
      · have h3 : okRow rows.length (rows.getD i []) (acc.getD i 0) = (rows.getD i []).all (okX rows.length) := by
          unfold okRow; rw [decide_eq_true h1, decide_eq_true (by omega)]; rfl
        rw [h3]
        refine Evn.succ (h := fun k => topiaryref08_Right.j2 k i false rows acc) (fun k => ?_) (Evn.succ (h := fun k => topiaryref08_Right.l1 k i (0 : Nat) rows acc) (fun k => ?_) ?_)
        · simp only [topiaryref08_Right.l0, rdL, rdN]
          rw [if_pos (by omega), if_pos (by omega), if_pos (by omega), if_pos (by omega), decide_eq_false h2]
        · simp only [topiaryref08_Right.j2]; simp
        · have := rref_l1 (rows := rows) (acc := acc) (i := i) (by omega) h1 (b := (List.range' (i + 1) d).all fun i => okRow rows.length (rows.getD i []) (acc.getD i 0)) (by
            refine Evn.same (fun k => ?_) ih
            rw [wrap_succ (m := 256) (by omega) (by omega)]) 256 0 (by omega)
          rw [List.drop_zero] at this
          cases hb : (rows.getD i []).all (okX rows.length) <;> rw [hb] at this <;> simpa using this
    · have : okRow rows.length (rows.getD i []) (acc.getD i 0) = false := by
        unfold okRow; rw [decide_eq_false h1]; rfl
      rw [this]
      refine Evn.succ (h := fun k => topiaryref08_Right.j2 k i true rows acc) (fun k => ?_) (Evn.const fun k => ?_)
      · simp only [topiaryref08_Right.l0, rdL, rdN]
        rw [if_pos (by omega), if_pos (by omega), if_neg (by omega)]
      · simp only [topiaryref08_Right.j2]; simp
theorem rref_ev (rows : LLi) (acc : List Int) : Evn (fun k => topiaryref08_Right.f k rows acc) (rightS rows acc) := by
  have no : rightS rows acc = false → (∀ k, topiaryref08_Right.f k rows acc = topiaryref08_Right.j0 k true rows acc) → Evn (fun k => topiaryref08_Right.f k rows acc) (rightS rows acc) := fun h e => by
    rw [h]
    refine Evn.same e (Evn.const fun k => ?_)
    simp only [topiaryref08_Right.j0]; simp
  by_cases h1 : rows.length = 0
  · exact no (by unfold rightS; rw [decide_eq_false (by omega)]; rfl) fun k => by unfold topiaryref08_Right.f; rw [if_pos (by omega)]
  · by_cases h2 : 240 < rows.length
    · exact no (by unfold rightS; rw [decide_eq_false (p := rows.length ≤ 240) (by omega)]; simp) fun k => by unfold topiaryref08_Right.f; rw [if_neg (by omega), if_pos (by omega)]
    · by_cases h3 : acc.length = rows.length
      · have hs : rightS rows acc = (List.range' 0 rows.length).all fun i => okRow rows.length (rows.getD i []) (acc.getD i 0) := by
          unfold rightS
          rw [decide_eq_true (by omega), decide_eq_true (by omega), decide_eq_true (by omega), List.range_eq_range']; simp
        rw [hs]
        refine Evn.same (h := fun k => topiaryref08_Right.j0 k false rows acc) (fun k => ?_) (Evn.succ (h := fun k => topiaryref08_Right.l0 k (0 : Nat) rows acc) (fun k => ?_) (rref_l0 (by omega) h3 rows.length 0 (by omega)))
        · unfold topiaryref08_Right.f
          rw [if_neg (by omega), if_neg (by omega)]
          congr 1
          simp; omega
        · simp only [topiaryref08_Right.j0]; simp
      · refine no (by unfold rightS; rw [decide_eq_false (p := rows.length = acc.length) (by omega)]; simp) fun k => ?_
        unfold topiaryref08_Right.f
        rw [if_neg (by omega), if_neg (by omega)]
        congr 1
        simp; omega

/-! ### where a text leads -/
theorem btN (s : ByteArray) (i : Nat) (h : i < s.size) : bt s (i : Int) = ((s.data.toList[i]'(by simpa using h)).toNat : Int) := by
  unfold bt
  rw [dif_pos (by rw [Int.toNat_natCast]; exact h)]
  rfl
theorem drop_bt (s : ByteArray) (i : Nat) (h : i < s.size) : s.data.toList.drop i = (s.data.toList[i]'(by simpa using h)) :: s.data.toList.drop (i + 1) := List.drop_eq_getElem_cons (by simpa using h)
theorem cellN {rows : LLi} {x : Int} (h0 : 0 ≤ x) (b : UInt8) : rd (rd_L1 rows x) (b.toNat : Int) = (rows.getD x.toNat []).getD b.toNat 0 := by
  obtain ⟨n, rfl⟩ := Int.eq_ofNat_of_zero_le h0
  rw [rdL, rdN, Int.toNat_natCast]
theorem lenN {rows : LLi} {x : Int} (h0 : 0 ≤ x) : rd_L1 rows x = rows.getD x.toNat [] := by
  obtain ⟨n, rfl⟩ := Int.eq_ofNat_of_zero_le h0
  rw [rdL, Int.toNat_natCast]
theorem rgo_l0 {rows : LLi} {acc : List Int} (R : RightP rows acc) (s : ByteArray) (hs : s.size ≤ 140737488351232) : ∀ (d i : Nat) (x : Int), i + d = s.size → InR rows x → Evn (fun k => topiaryref08_Go.l0 k x s i rows acc) (goL rows x (s.data.toList.drop i))
  | 0, i, x, h, hx => by
    rw [List.drop_eq_nil_of_le (by simp; omega)]
    refine Evn.const fun k => ?_
    simp only [topiaryref08_Go.l0]
    rw [if_neg (by omega)]
    rfl
  | d + 1, i, x, h, hx => by
    have hi : i < s.size := by omega
    rw [drop_bt s i hi]
    by_cases h0 : x < 0
    · rw [goL_neg h0]
      have : x = -1 := by have := hx.1; omega
      subst this
      refine Evn.const fun k => ?_
      simp only [topiaryref08_Go.l0]
      rw [if_pos (by omega), if_pos (by omega)]
    · rw [goL_cons h0]
      have hb := (s.data.toList[i]'(by simpa using hi)).toNat_lt
      have hr := R.row x.toNat (by have := hx.2; omega)
      refine Evn.succ (fun k => ?_) (rgo_l0 R s hs d (i + 1) _ (by omega) (R.next (by omega) hx.2 _))
      simp only [topiaryref08_Go.l0]
      have := hx.2
      have hw : wrap64 (((s.data.toList[i]'(by simpa using hi)).toNat : Int)) = ((s.data.toList[i]'(by simpa using hi)).toNat : Int) := by unfold wrap64; omega
      rw [btN s i hi, hw, cellN (by omega), lenN (by omega), if_pos (by omega), if_neg (by omega), if_pos (by omega), if_pos (by omega), if_pos (by omega), if_pos (by omega), if_pos (by omega), wrap_succ (m := 140737488351232) (by omega) (by omega)]
theorem rgo_ev {rows : LLi} {acc : List Int} (R : RightP rows acc) (s : ByteArray) (hs : s.size ≤ 140737488351232) : Evn (fun k => topiaryref08_Go.f k rows acc 0 s) (goL rows 0 s.data.toList) := by
  have := rgo_l0 R s hs s.size 0 0 (by omega) ⟨by omega, by have := R.pos; omega⟩
  rw [List.drop_zero] at this
  exact Evn.same (fun k => rfl) this

/-! ### the longest match, by the program -/
theorem one_upd {rows : LLi} {acc : List Int} {s : ByteArray} {a n : Nat} {x : Int} {b : Int × Nat} {r : Int × Int × Int × Int} (h0 : 0 ≤ x) (h1 : x < acc.length) (hn : a + n ≤ 140737488351232)
    (H : Evn (fun k => lex_one.j2 k s (a : Int) x ((a + n : Nat) : Int) rows acc (upd acc x n b).1 (a : Int) ((upd acc x n b).2 : Int)) r) : Evn (fun k => lex_one.l0 k s (a : Int) x ((a + n : Nat) : Int) rows acc b.1 (a : Int) (b.2 : Int)) r := by
  by_cases hp : 0 < n
  · by_cases ha : 0 ≤ acc.getD x.toNat 0
    · have e : upd acc x n b = (acc.getD x.toNat 0, n) := by unfold upd; rw [if_pos ⟨hp, ha⟩]
      rw [e] at H
      refine Evn.succ (h := fun k => lex_one.j1 k s (a : Int) x ((a + n : Nat) : Int) true rows acc b.1 (a : Int) (b.2 : Int)) (fun k => ?_) (Evn.succ (fun k => ?_) H)
      · simp only [lex_one.l0]
        rw [if_pos (by omega), if_pos h0, if_pos h1, decide_eq_true (show rd acc x ≥ 0 from ha)]
      · simp only [lex_one.j1]
        rw [if_pos (by simp), if_pos h0, if_pos h1, show wrap64 (((a + n : Nat) : Int) - (a : Int)) = (n : Int) by unfold wrap64; omega]
        rfl
    · have e : upd acc x n b = b := by unfold upd; rw [if_neg (by omega)]
      rw [e] at H
      refine Evn.succ (h := fun k => lex_one.j1 k s (a : Int) x ((a + n : Nat) : Int) false rows acc b.1 (a : Int) (b.2 : Int)) (fun k => ?_) (Evn.succ (fun k => ?_) H)
      · simp only [lex_one.l0]
        rw [if_pos (by omega), if_pos h0, if_pos h1, decide_eq_false (show ¬ rd acc x ≥ 0 from by have : rd acc x = acc.getD x.toNat 0 := rfl; omega)]
      · simp only [lex_one.j1]
        rw [if_neg (by simp)]
  · have e : upd acc x n b = b := by unfold upd; rw [if_neg (by omega)]
    rw [e] at H
    refine Evn.succ (h := fun k => lex_one.j1 k s (a : Int) x ((a + n : Nat) : Int) false rows acc b.1 (a : Int) (b.2 : Int)) (fun k => ?_) (Evn.succ (fun k => ?_) H)
    · simp only [lex_one.l0]
      rw [if_neg (by omega)]
    · simp only [lex_one.j1]
      rw [if_neg (by simp)]
theorem one_l0 {rows : LLi} {acc : List Int} (R : RightP rows acc) (s : ByteArray) (hs : s.size ≤ 140737488351232) (a : Nat) : ∀ (d n : Nat) (x : Int) (b : Int × Nat), a + n + d = s.size → 0 ≤ x → x < rows.length →
    Evn (fun k => lex_one.l0 k s (a : Int) x ((a + n : Nat) : Int) rows acc b.1 (a : Int) (b.2 : Int)) ((scan rows acc x n (s.data.toList.drop (a + n)) b).1, (a : Int), ((scan rows acc x n (s.data.toList.drop (a + n)) b).2.1 : Int), ((a + (scan rows acc x n (s.data.toList.drop (a + n)) b).2.2 : Nat) : Int))
  | 0, n, x, b, h, h0, h1 => by
    have hl := R.len
    rw [List.drop_eq_nil_of_le (by simp; omega)]
    refine one_upd h0 (by omega) (by omega) (Evn.const fun k => ?_)
    simp only [lex_one.j2, scan]
    rw [if_pos (by omega), show wrap64 (((a + n : Nat) : Int) + 1) = ((a + (n + 1) : Nat) : Int) by unfold wrap64; omega]
  | d + 1, n, x, b, h, h0, h1 => by
    have hl := R.len
    have hi : a + n < s.size := by omega
    have hr := R.row x.toNat (by omega)
    have hb := (s.data.toList[a + n]'(by simpa using hi)).toNat_lt
    rw [drop_bt s (a + n) hi]
    have e2 : ∀ k, lex_one.j2 (k + 1) s (a : Int) x ((a + n : Nat) : Int) rows acc (upd acc x n b).1 (a : Int) ((upd acc x n b).2 : Int) = if (rows.getD x.toNat []).getD ((s.data.toList[a + n]'(by simpa using hi)).toNat) 0 < 0 then (some ((upd acc x n b).1, (a : Int), ((upd acc x n b).2 : Int), wrap64 (((a + n : Nat) : Int) + 1))) else (lex_one.l0 k s (a : Int) ((rows.getD x.toNat []).getD ((s.data.toList[a + n]'(by simpa using hi)).toNat) 0) (wrap64 (((a + n : Nat) : Int) + 1)) rows acc (upd acc x n b).1 (a : Int) ((upd acc x n b).2 : Int)) := fun k => by
      simp only [lex_one.j2]
      rw [if_neg (by omega), if_pos h0, if_pos h1, if_pos (by omega), if_pos (by omega), btN s (a + n) hi, cellN h0, lenN h0, if_pos (by omega), if_pos (by omega)]
    have hw : wrap64 (((a + n : Nat) : Int) + 1) = ((a + (n + 1) : Nat) : Int) := by unfold wrap64; omega
    by_cases hn : (rows.getD x.toNat []).getD ((s.data.toList[a + n]'(by simpa using hi)).toNat) 0 < 0
    · refine one_upd h0 (by omega) (by omega) (Evn.const fun k => ?_)
      rw [e2, if_pos hn, hw]
      simp only [scan]
      rw [if_pos hn]
    · have hin := R.next h0 h1 (s.data.toList[a + n]'(by simpa using hi))
      refine one_upd h0 (by omega) (by omega) (Evn.succ (fun k => (e2 k).trans (by rw [if_neg hn, hw])) ?_)
      simp only [scan]
      rw [if_neg hn]
      exact one_l0 R s hs a d (n + 1) _ (upd acc x n b) (by omega) (by omega) hin.2
theorem one_ev {rows : LLi} {acc : List Int} (R : RightP rows acc) (s : ByteArray) (hs : s.size ≤ 140737488351232) (a : Nat) (ha : a ≤ s.size) : Evn (fun k => lex_one.f k rows acc s (a : Int)) ((tok rows acc (s.data.toList.drop a)).1, (a : Int), ((tok rows acc (s.data.toList.drop a)).2.1 : Int), ((a + (tok rows acc (s.data.toList.drop a)).2.2 : Nat) : Int)) :=
  one_l0 R s hs a (s.size - a) 0 0 (0, 0) (by omega) (by omega) (by have := R.pos; omega)

/-! ### the longest match, by the document -/
theorem rone_l0 {rows : LLi} {acc : List Int} (R : RightP rows acc) (s : ByteArray) (hs : s.size ≤ 140737488351232) (a : Nat) : ∀ (d n : Nat) (b : Int × Nat) (z : Int), a + n + d = s.size → 0 ≤ goL rows 0 ((s.data.toList.drop a).take n) →
    Evn (fun k => topiaryref10_One.l0 k s (a : Int) (n : Int) rows acc b.1 (b.2 : Int) z) ((scan rows acc (goL rows 0 ((s.data.toList.drop a).take n)) n (s.data.toList.drop (a + n)) b).1, ((scan rows acc (goL rows 0 ((s.data.toList.drop a).take n)) n (s.data.toList.drop (a + n)) b).2.1 : Int), ((a + (scan rows acc (goL rows 0 ((s.data.toList.drop a).take n)) n (s.data.toList.drop (a + n)) b).2.2 : Nat) : Int)) := by
  -- one round
  have rnd : ∀ (n : Nat) (b : Int × Nat) (z : Int) (r : Int × Int × Int), a + n ≤ s.size → 0 ≤ goL rows 0 ((s.data.toList.drop a).take n) → Evn (fun k => topiaryref10_One.l0 k s (a : Int) ((n + 1 : Nat) : Int) rows acc (upd acc (goL rows 0 ((s.data.toList.drop a).take n)) n b).1 ((upd acc (goL rows 0 ((s.data.toList.drop a).take n)) n b).2 : Int) ((a + n : Nat) : Int)) r → Evn (fun k => topiaryref10_One.l0 k s (a : Int) (n : Int) rows acc b.1 (b.2 : Int) z) r := fun n b z r hn h0 H => by
    have hw : wrap64 ((a : Int) + (n : Int)) = ((a + n : Nat) : Int) := by unfold wrap64; omega
    have hw1 : wrap64 ((n : Int) + 1) = ((n + 1 : Nat) : Int) := by unfold wrap64; omega
    have hx := (goL_in R ((s.data.toList.drop a).take n) 0 ⟨by omega, by have := R.pos; omega⟩).2
    have hl := R.len
    have hg := rgo_ev R (s.extract a (a + n)) (by rw [extract_size s a (a + n) hn]; omega)
    rw [extract_list s a (a + n) hn, show a + n - a = n by omega] at hg
    generalize goL rows 0 ((s.data.toList.drop a).take n) = x at *
    refine Evn.succ (h := fun k => (topiaryref08_Go.f k rows acc 0 (s.extract a (a + n))).bind fun t136 => (if t136 < 0 then (some (b.1, (b.2 : Int), ((a + n : Nat) : Int))) else (if (n : Int) > 0 then (if 0 ≤ t136 then (if t136 < (acc.length : Int) then (if (rd acc t136) ≥ 0 then (topiaryref10_One.l0 k s a ((n + 1 : Nat) : Int) rows acc (rd acc t136) (n : Int) ((a + n : Nat) : Int)) else (topiaryref10_One.l0 k s a ((n + 1 : Nat) : Int) rows acc b.1 (b.2 : Int) ((a + n : Nat) : Int))) else (none)) else (none)) else (topiaryref10_One.l0 k s a ((n + 1 : Nat) : Int) rows acc b.1 (b.2 : Int) ((a + n : Nat) : Int))))) (fun k => ?_) ?_
    · simp only [topiaryref10_One.l0, hw, hw1]
      rw [if_pos (by omega), if_pos (by omega), if_pos (by omega)]
      rfl
    · refine hg.bind (f := fun k t136 => if t136 < 0 then (some (b.1, (b.2 : Int), ((a + n : Nat) : Int))) else (if (n : Int) > 0 then (if 0 ≤ t136 then (if t136 < (acc.length : Int) then (if (rd acc t136) ≥ 0 then (topiaryref10_One.l0 k s a ((n + 1 : Nat) : Int) rows acc (rd acc t136) (n : Int) ((a + n : Nat) : Int)) else (topiaryref10_One.l0 k s a ((n + 1 : Nat) : Int) rows acc b.1 (b.2 : Int) ((a + n : Nat) : Int))) else (none)) else (none)) else (topiaryref10_One.l0 k s a ((n + 1 : Nat) : Int) rows acc b.1 (b.2 : Int) ((a + n : Nat) : Int)))) ?_
      refine Evn.same (fun k => ?_) H
      rw [if_neg (by omega)]
      unfold upd
      by_cases hp : 0 < n
      · rw [if_pos (by omega), if_pos h0, if_pos (by omega)]
        by_cases ha : 0 ≤ acc.getD x.toNat 0
        · rw [if_pos (show rd acc x ≥ 0 from ha), if_pos ⟨hp, ha⟩]; rfl
        · rw [if_neg (show ¬ rd acc x ≥ 0 from by have : rd acc x = acc.getD x.toNat 0 := rfl; omega), if_neg (by omega)]
      · rw [if_neg (by omega), if_neg (by omega)]
  intro d
  induction d with
  | zero =>
    intro n b z h h0
    refine rnd n b z _ (by omega) h0 (Evn.const fun k => ?_)
    rw [show s.data.toList.drop (a + n) = [] from List.drop_eq_nil_of_le (by simp; omega)]
    have hw : wrap64 ((a : Int) + ((n + 1 : Nat) : Int)) = ((a + n + 1 : Nat) : Int) := by unfold wrap64; omega
    simp only [topiaryref10_One.l0, hw, scan]
    rw [if_neg (by omega), show wrap64 ((s.size : Int) + 1) = ((a + (n + 1) : Nat) : Int) by unfold wrap64; omega]
  | succ d ih =>
    intro n b z h h0
    have hi : a + n < s.size := by omega
    have hsn := goL_snoc (rows := rows) ((s.data.toList.drop a).take n) (s.data.toList[a + n]'(by simpa using hi)) 0 h0
    rw [← take_succ_drop (l := s.data.toList) (a := a) (n := n) (by simpa using hi)] at hsn
    refine rnd n b z _ (by omega) h0 ?_
    rw [drop_bt s (a + n) hi]
    simp only [scan]
    rw [← hsn]
    by_cases hn : goL rows 0 ((s.data.toList.drop a).take (n + 1)) < 0
    · rw [if_pos hn]
      have hg := rgo_ev R (s.extract a (a + n + 1)) (by rw [extract_size s a (a + n + 1) (by omega)]; omega)
      rw [extract_list s a (a + n + 1) (by omega), show a + n + 1 - a = n + 1 by omega] at hg
      have hw : wrap64 ((a : Int) + ((n + 1 : Nat) : Int)) = ((a + n + 1 : Nat) : Int) := by unfold wrap64; omega
      refine Evn.succ (h := fun k => (topiaryref08_Go.f k rows acc 0 (s.extract a (a + n + 1))).bind fun t136 => (if t136 < 0 then (some ((upd acc (goL rows 0 ((s.data.toList.drop a).take n)) n b).1, ((upd acc (goL rows 0 ((s.data.toList.drop a).take n)) n b).2 : Int), ((a + n + 1 : Nat) : Int))) else (if ((n + 1 : Nat) : Int) > 0 then (if 0 ≤ t136 then (if t136 < (acc.length : Int) then (if (rd acc t136) ≥ 0 then (topiaryref10_One.l0 k s a (wrap64 (((n + 1 : Nat) : Int) + 1)) rows acc (rd acc t136) ((n + 1 : Nat) : Int) ((a + n + 1 : Nat) : Int)) else (topiaryref10_One.l0 k s a (wrap64 (((n + 1 : Nat) : Int) + 1)) rows acc (upd acc (goL rows 0 ((s.data.toList.drop a).take n)) n b).1 ((upd acc (goL rows 0 ((s.data.toList.drop a).take n)) n b).2 : Int) ((a + n + 1 : Nat) : Int))) else (none)) else (none)) else (topiaryref10_One.l0 k s a (wrap64 (((n + 1 : Nat) : Int) + 1)) rows acc (upd acc (goL rows 0 ((s.data.toList.drop a).take n)) n b).1 ((upd acc (goL rows 0 ((s.data.toList.drop a).take n)) n b).2 : Int) ((a + n + 1 : Nat) : Int))))) (fun k => ?_) ?_
      · simp only [topiaryref10_One.l0, hw]
        rw [if_pos (by omega), if_pos (by omega), if_pos (by omega)]
        rfl
      · obtain ⟨k0, hk⟩ := hg
        refine ⟨k0, fun k hk' => ?_⟩
        show (topiaryref08_Go.f k rows acc 0 (s.extract a (a + n + 1))).bind _ = _
        have e := hk k hk'
        dsimp only at e
        rw [e, Option.bind_some, if_pos hn]
        rfl
    · rw [if_neg hn]
      exact ih (n + 1) (upd acc (goL rows 0 ((s.data.toList.drop a).take n)) n b) ((a + n : Nat) : Int) (by omega) (by omega)
theorem rone_ev {rows : LLi} {acc : List Int} (R : RightP rows acc) (s : ByteArray) (hs : s.size ≤ 140737488351232) (a : Nat) (ha : a ≤ s.size) : Evn (fun k => topiaryref10_One.f k rows acc s (a : Int)) ((tok rows acc (s.data.toList.drop a)).1, ((tok rows acc (s.data.toList.drop a)).2.1 : Int), ((a + (tok rows acc (s.data.toList.drop a)).2.2 : Nat) : Int)) := by
  have := rone_l0 R s hs a (s.size - a) 0 (0, 0) 0 (by omega) (by simp [goL])
  exact Evn.same (h := fun k => topiaryref10_One.l0 k s (a : Int) 0 rows acc 0 0 0) (fun k => rfl) (by simpa [tok, goL] using this)

/-! ### LexOne -/
theorem One_bad (rows : LLi) (acc : List Int) (s : ByteArray) (a : Int) (h : rightS rows acc = false ∨ a < 0 ∨ a > s.size) : Evn (fun k => lex_One.f k rows acc s a) (0, 0, 0, 0, 10) := by
  have yes : Evn (fun k => lex_One.j0 k s a true rows acc) (0, 0, 0, 0, 10) := Evn.const fun k => by simp only [lex_One.j0]; simp
  by_cases h1 : a < 0
  · exact Evn.same (fun k => by unfold lex_One.f; rw [if_pos h1]) yes
  · by_cases h2 : a > s.size
    · exact Evn.same (fun k => by unfold lex_One.f; rw [if_neg h1, if_pos h2]) yes
    · have hR : rightS rows acc = false := by
        rcases h with h | h | h
        · exact h
        · exact absurd h h1
        · exact absurd h h2
      have HR := right_ev rows acc
      rw [hR] at HR
      exact Evn.same (fun k => by unfold lex_One.f; rw [if_neg h1, if_neg h2]) (HR.bind (f := fun k t124 => lex_One.j0 k s a (!t124) rows acc) yes)
theorem One_ev {rows : LLi} {acc : List Int} (R : RightP rows acc) (s : ByteArray) (hs : s.size ≤ 140737488351232) (a : Nat) (ha : a ≤ s.size) : Evn (fun k => lex_One.f k rows acc s (a : Int)) (if (tok rows acc (s.data.toList.drop a)).2.1 = 0 then (0, 0, 0, ((a + (tok rows acc (s.data.toList.drop a)).2.2 : Nat) : Int), 4) else ((tok rows acc (s.data.toList.drop a)).1, (a : Int), ((tok rows acc (s.data.toList.drop a)).2.1 : Int), ((a + (tok rows acc (s.data.toList.drop a)).2.2 : Nat) : Int), 0)) := by
  have HR := right_ev rows acc
  rw [rightS_iff.2 R] at HR
  have H1 := one_ev R s hs a ha
  generalize tok rows acc (s.data.toList.drop a) = t at *
  refine Evn.same (fun k => by unfold lex_One.f; rw [if_neg (by omega), if_neg (by omega)]) (HR.bind (f := fun k t124 => lex_One.j0 k s a (!t124) rows acc) ?_)
  refine Evn.succ (h := fun k => (lex_one.f k rows acc s a).bind fun bt125 => (if bt125.2.2.1 = 0 then (some ((0 : Int), (0 : Int), (0 : Int), bt125.2.2.2, (4 : Int))) else (some (bt125.1, bt125.2.1, bt125.2.2.1, bt125.2.2.2, (0 : Int))))) (fun k => by simp only [lex_One.j0]; simp) ?_
  refine H1.bind (f := fun k bt125 => if bt125.2.2.1 = 0 then (some ((0 : Int), (0 : Int), (0 : Int), bt125.2.2.2, (4 : Int))) else (some (bt125.1, bt125.2.1, bt125.2.2.1, bt125.2.2.2, (0 : Int)))) ?_
  refine Evn.same (fun k => ?_) Evn.pure
  by_cases h0 : t.2.1 = 0
  · rw [if_pos h0, if_pos (by show (t.2.1 : Int) = 0; omega)]
  · rw [if_neg h0, if_neg (by show ¬ (t.2.1 : Int) = 0; omega)]
theorem lawOne_j0 (rows : LLi) (acc : List Int) (s : ByteArray) (hs : s.size ≤ 140737488351232) (a : Int) : Evn (fun k => topiarylaw10_LexOne.j0 k s a false rows acc) true := by
  have HR := rref_ev rows acc
  by_cases hbad : rightS rows acc = false ∨ a < 0 ∨ a > s.size
  · have H1 := One_bad rows acc s a hbad
    have yes : Evn (fun k => topiarylaw10_LexOne.j1 k s a 0 10 true rows acc 0 0 0) true := Evn.const fun k => by simp only [topiarylaw10_LexOne.j1]; simp
    refine Evn.succ (h := fun k => (lex_One.f k rows acc s a).bind fun bt141 => ((topiaryref08_Right.f k rows acc).bind fun t147 => (if t147 = true then (if a < 0 then (topiarylaw10_LexOne.j1 k s a bt141.2.2.2.1 bt141.2.2.2.2 true rows acc bt141.1 bt141.2.1 bt141.2.2.1) else (topiarylaw10_LexOne.j1 k s a bt141.2.2.2.1 bt141.2.2.2.2 (decide (a > (s.size : Int))) rows acc bt141.1 bt141.2.1 bt141.2.2.1)) else (topiarylaw10_LexOne.j1 k s a bt141.2.2.2.1 bt141.2.2.2.2 true rows acc bt141.1 bt141.2.1 bt141.2.2.1)))) (fun k => by simp only [topiarylaw10_LexOne.j0]; simp) ?_
    refine H1.bind (f := fun k bt141 => (topiaryref08_Right.f k rows acc).bind fun t147 => (if t147 = true then (if a < 0 then (topiarylaw10_LexOne.j1 k s a bt141.2.2.2.1 bt141.2.2.2.2 true rows acc bt141.1 bt141.2.1 bt141.2.2.1) else (topiarylaw10_LexOne.j1 k s a bt141.2.2.2.1 bt141.2.2.2.2 (decide (a > (s.size : Int))) rows acc bt141.1 bt141.2.1 bt141.2.2.1)) else (topiarylaw10_LexOne.j1 k s a bt141.2.2.2.1 bt141.2.2.2.2 true rows acc bt141.1 bt141.2.1 bt141.2.2.1))) ?_
    refine HR.bind (f := fun k t147 => if t147 = true then (if a < 0 then (topiarylaw10_LexOne.j1 k s a 0 10 true rows acc 0 0 0) else (topiarylaw10_LexOne.j1 k s a 0 10 (decide (a > (s.size : Int))) rows acc 0 0 0)) else (topiarylaw10_LexOne.j1 k s a 0 10 true rows acc 0 0 0)) ?_
    refine Evn.same (fun k => ?_) yes
    by_cases hR : rightS rows acc = true
    · rw [if_pos hR]
      by_cases h1 : a < 0
      · rw [if_pos h1]
      · have h2 : a > s.size := by
          rcases hbad with h | h | h
          · exact absurd h (by simp [hR])
          · exact absurd h h1
          · exact h
        rw [if_neg h1, decide_eq_true h2]
    · rw [if_neg hR]
  · have hR : rightS rows acc = true := by
      cases h : rightS rows acc with
      | false => exact absurd (.inl h) hbad
      | true => rfl
    have R := rightS_iff.1 hR
    obtain ⟨a, rfl⟩ := Int.eq_ofNat_of_zero_le (a := a) (by omega)
    have ha : a ≤ s.size := by omega
    have H1 := One_ev R s hs a ha
    have H2 := rone_ev R s hs a ha
    rw [hR] at HR
    generalize tok rows acc (s.data.toList.drop a) = t at H1 H2
    refine Evn.succ (h := fun k => (lex_One.f k rows acc s a).bind fun bt141 => ((topiaryref08_Right.f k rows acc).bind fun t147 => (if t147 = true then (if (a : Int) < 0 then (topiarylaw10_LexOne.j1 k s a bt141.2.2.2.1 bt141.2.2.2.2 true rows acc bt141.1 bt141.2.1 bt141.2.2.1) else (topiarylaw10_LexOne.j1 k s a bt141.2.2.2.1 bt141.2.2.2.2 (decide ((a : Int) > (s.size : Int))) rows acc bt141.1 bt141.2.1 bt141.2.2.1)) else (topiarylaw10_LexOne.j1 k s a bt141.2.2.2.1 bt141.2.2.2.2 true rows acc bt141.1 bt141.2.1 bt141.2.2.1)))) (fun k => by simp only [topiarylaw10_LexOne.j0]; simp) ?_
    refine H1.bind (f := fun k bt141 => (topiaryref08_Right.f k rows acc).bind fun t147 => (if t147 = true then (if (a : Int) < 0 then (topiarylaw10_LexOne.j1 k s a bt141.2.2.2.1 bt141.2.2.2.2 true rows acc bt141.1 bt141.2.1 bt141.2.2.1) else (topiarylaw10_LexOne.j1 k s a bt141.2.2.2.1 bt141.2.2.2.2 (decide ((a : Int) > (s.size : Int))) rows acc bt141.1 bt141.2.1 bt141.2.2.1)) else (topiarylaw10_LexOne.j1 k s a bt141.2.2.2.1 bt141.2.2.2.2 true rows acc bt141.1 bt141.2.1 bt141.2.2.1))) ?_
    by_cases h0 : t.2.1 = 0
    · simp only [h0, if_true]
      refine HR.bind (f := fun k t147 => if t147 = true then (if (a : Int) < 0 then (topiarylaw10_LexOne.j1 k s a ((a + t.2.2 : Nat) : Int) 4 true rows acc 0 0 0) else (topiarylaw10_LexOne.j1 k s a ((a + t.2.2 : Nat) : Int) 4 (decide ((a : Int) > (s.size : Int))) rows acc 0 0 0)) else (topiarylaw10_LexOne.j1 k s a ((a + t.2.2 : Nat) : Int) 4 true rows acc 0 0 0)) ?_
      refine Evn.same (fun k => by rw [if_pos rfl, if_neg (by omega), decide_eq_false (by omega)]) (Evn.succ (h := fun k => (topiaryref10_One.f k rows acc s a).bind fun bt148 => (if bt148.2.1 = 0 then (if ((0 : Int) == 0 && ((0 : Int) == 0 && ((0 : Int) == 0))) = true then (if ((a + t.2.2 : Nat) : Int) = bt148.2.2 then (some ((4 : Int) == 4)) else (some false)) else (some false)) else (if ((0 : Int) == bt148.1 && ((0 : Int) == (a : Int) && ((0 : Int) == bt148.2.1))) = true then (if ((a + t.2.2 : Nat) : Int) = bt148.2.2 then (some ((4 : Int) == 0)) else (some false)) else (some false)))) (fun k => by simp only [topiarylaw10_LexOne.j1]; rw [if_neg (by simp)]) ?_)
      refine H2.bind (f := fun k bt148 => if bt148.2.1 = 0 then (if ((0 : Int) == 0 && ((0 : Int) == 0 && ((0 : Int) == 0))) = true then (if ((a + t.2.2 : Nat) : Int) = bt148.2.2 then (some ((4 : Int) == 4)) else (some false)) else (some false)) else (if ((0 : Int) == bt148.1 && ((0 : Int) == (a : Int) && ((0 : Int) == bt148.2.1))) = true then (if ((a + t.2.2 : Nat) : Int) = bt148.2.2 then (some ((4 : Int) == 0)) else (some false)) else (some false))) ?_
      exact Evn.same (fun k => by simp [h0]) Evn.pure
    · simp only [h0, if_false]
      refine HR.bind (f := fun k t147 => if t147 = true then (if (a : Int) < 0 then (topiarylaw10_LexOne.j1 k s a ((a + t.2.2 : Nat) : Int) 0 true rows acc t.1 a (t.2.1 : Int)) else (topiarylaw10_LexOne.j1 k s a ((a + t.2.2 : Nat) : Int) 0 (decide ((a : Int) > (s.size : Int))) rows acc t.1 a (t.2.1 : Int))) else (topiarylaw10_LexOne.j1 k s a ((a + t.2.2 : Nat) : Int) 0 true rows acc t.1 a (t.2.1 : Int))) ?_
      refine Evn.same (fun k => by rw [if_pos rfl, if_neg (by omega), decide_eq_false (by omega)]) (Evn.succ (h := fun k => (topiaryref10_One.f k rows acc s a).bind fun bt148 => (if bt148.2.1 = 0 then (if (t.1 == 0 && ((a : Int) == 0 && ((t.2.1 : Int) == 0))) = true then (if ((a + t.2.2 : Nat) : Int) = bt148.2.2 then (some ((0 : Int) == 4)) else (some false)) else (some false)) else (if (t.1 == bt148.1 && ((a : Int) == (a : Int) && ((t.2.1 : Int) == bt148.2.1))) = true then (if ((a + t.2.2 : Nat) : Int) = bt148.2.2 then (some ((0 : Int) == 0)) else (some false)) else (some false)))) (fun k => by simp only [topiarylaw10_LexOne.j1]; rw [if_neg (by simp)]) ?_)
      refine H2.bind (f := fun k bt148 => if bt148.2.1 = 0 then (if (t.1 == 0 && ((a : Int) == 0 && ((t.2.1 : Int) == 0))) = true then (if ((a + t.2.2 : Nat) : Int) = bt148.2.2 then (some ((0 : Int) == 4)) else (some false)) else (some false)) else (if (t.1 == bt148.1 && ((a : Int) == (a : Int) && ((t.2.1 : Int) == bt148.2.1))) = true then (if ((a + t.2.2 : Nat) : Int) = bt148.2.2 then (some ((0 : Int) == 0)) else (some false)) else (some false))) ?_
      exact Evn.same (fun k => by rw [if_neg (by simpa using h0)]; simp) Evn.pure
theorem lawOne (rows : LLi) (acc : List Int) (s : ByteArray) (a : Int) (hs : s.size ≤ 140737488351232) (ha : (Lit.int .i64 a).wf = true) : ∃ k, topiarylaw10_LexOne.f k rows acc s a = some true := by
  have hw : topiarylaw10_wakes.f = some true := by unfold topiarylaw10_wakes.f; first | rfl | (rw [if_pos (by omega)])
  have e : ∀ k, topiarylaw10_LexOne.f k rows acc s a = if (s.size : Int) > 300 then (topiarylaw10_LexOne.j0 k s a true rows acc) else (topiarylaw10_LexOne.j0 k s a (decide ((rows.length : Int) > 300)) rows acc) := fun k => by
    unfold topiarylaw10_LexOne.f
    rw [hw]
    rfl
  have yes : ∃ k, topiarylaw10_LexOne.j0 k s a true rows acc = some true := ⟨1, by simp [topiarylaw10_LexOne.j0]⟩
  by_cases h1 : (s.size : Int) > 300
  · obtain ⟨k, h⟩ := yes
    exact ⟨k, by rw [e, if_pos h1]; exact h⟩
  · by_cases h2 : (rows.length : Int) > 300
    · obtain ⟨k, h⟩ := yes
      exact ⟨k, by rw [e, if_neg h1, decide_eq_true h2]; exact h⟩
    · obtain ⟨k, h⟩ := (lawOne_j0 rows acc s hs a).get
      exact ⟨k, by rw [e, if_neg h1, decide_eq_false h2]; exact h⟩
end Go.Proofs.YtjdafbgpckmieaaGreatDoor.QLex
