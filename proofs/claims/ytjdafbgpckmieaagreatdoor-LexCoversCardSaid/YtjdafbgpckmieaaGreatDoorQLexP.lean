/-
  The program's lexer in plain words: the longest match, all tokens.
-/
import Derived.Test.YtjdafbgpckmieaaGreatDoorQLexf23
import Derived.Test.YtjdafbgpckmieaaGreatDoorQLexf77
import Derived.Test.YtjdafbgpckmieaaGreatDoorQLexf75
import Derived.Test.YtjdafbgpckmieaaGreatDoorQLexf34
import Derived.Test.YtjdafbgpckmieaaGreatDoorShP2
set_option linter.unusedVariables false
set_option linter.unusedSimpArgs false
namespace Go.Proofs.YtjdafbgpckmieaaGreatDoor.QLex
open Go.RowKit Go.Proofs.YtjdafbgpckmieaaGreatDoorW.PrintWords Go.Sh.Pl

theorem rdL (rows : LLi) (i : Nat) : rd_L1 rows (i : Int) = rows.getD i [] := by unfold rd_L1; rw [Int.toNat_natCast]
theorem rdN (l : List Int) (i : Nat) : rd l (i : Int) = l.getD i 0 := by unfold rd; rw [Int.toNat_natCast]
theorem all_drop {p : Int → Bool} {r : List Int} {j : Nat} (hj : j < r.length) : (r.drop j).all p = (p (r.getD j 0) && (r.drop (j + 1)).all p) := by
  rw [List.drop_eq_getElem_cons hj, List.all_cons, List.getD_eq_getElem?_getD, List.getElem?_eq_getElem hj]; rfl

/-! ### dfa.Right -/
theorem right_l1 {n : Nat} {rows : LLi} {acc : List Int} {i : Nat} {r : List Int} (hr : r.length ≤ 256) {b : Bool} (H : Evn (fun k => dfa_Right.l0 k n rows (rows.length : Int) (wrap64 ((i : Int) + 1)) rows acc) b) :
    ∀ (d j : Nat), j + d = r.length → Evn (fun k => dfa_Right.l1 k n rows (rows.length : Int) i r (r.length : Int) j rows acc) (if (r.drop j).all (okX n) then b else false)
  | 0, j, h => by
    have : r.drop j = [] := List.drop_eq_nil_of_le (by omega)
    rw [this]
    refine Evn.succ (fun k => ?_) H
    simp only [dfa_Right.l1]
    rw [if_neg (by omega)]
  | d + 1, j, h => by
    rw [all_drop (by omega)]
    by_cases h1 : r.getD j 0 < -1
    · have : okX n (r.getD j 0) = false := okX_lo h1
      rw [this]
      refine Evn.const fun k => ?_
      simp only [dfa_Right.l1, rdN]
      rw [if_pos (by omega), if_pos (by omega), if_pos (by omega), if_pos h1]
      simp
    · by_cases h2 : r.getD j 0 ≥ n
      · have : okX n (r.getD j 0) = false := okX_hi h2
        rw [this]
        refine Evn.const fun k => ?_
        simp only [dfa_Right.l1, rdN]
        rw [if_pos (by omega), if_pos (by omega), if_pos (by omega), if_neg h1, if_pos h2]
        simp
      · have : okX n (r.getD j 0) = true := okX_in h1 h2
        rw [this, Bool.true_and]
        refine Evn.succ (fun k => ?_) (right_l1 hr H d (j + 1) (by omega))
        simp only [dfa_Right.l1, rdN]
        rw [if_pos (by omega), if_pos (by omega), if_pos (by omega), if_neg h1, if_neg h2, wrap_succ (m := 256) (by omega) (by omega)]
theorem right_l0 {rows : LLi} {acc : List Int} (hn : rows.length ≤ 240) (ha : acc.length = rows.length) :
    ∀ (d i : Nat), i + d = rows.length → Evn (fun k => dfa_Right.l0 k (rows.length : Int) rows (rows.length : Int) i rows acc) ((List.range' i d).all fun i => okRow rows.length (rows.getD i []) (acc.getD i 0))
  | 0, i, h => by
    refine Evn.const fun k => ?_
    simp only [dfa_Right.l0]
    rw [if_neg (by omega)]
    rfl
  | d + 1, i, h => by
    rw [List.range'_succ, List.all_cons]
    have ih := right_l0 hn ha d (i + 1) (by omega)
    by_cases h1 : (rows.getD i []).length = 256
    · by_cases h2 : acc.getD i 0 < -1
      · have : okRow rows.length (rows.getD i []) (acc.getD i 0) = false := okRow_lo h2
        rw [this]
        refine Evn.succ (h := fun k => dfa_Right.j2 k (rows.length : Int) (rows.getD i []) rows (rows.length : Int) i true rows acc) (fun k => ?_) (Evn.const fun k => ?_)
        · simp only [dfa_Right.l0, rdL, rdN]
          rw [if_pos (by omega), if_pos (by omega), if_pos (by omega), if_pos (by omega), if_pos (by omega), decide_eq_true h2]
        · simp only [dfa_Right.j2]; simp
      · have h3 : okRow rows.length (rows.getD i []) (acc.getD i 0) = (rows.getD i []).all (okX rows.length) := by
          unfold okRow; rw [decide_eq_true h1, decide_eq_true (by omega)]; rfl
        rw [h3]
        refine Evn.succ (h := fun k => dfa_Right.j2 k (rows.length : Int) (rows.getD i []) rows (rows.length : Int) i false rows acc) (fun k => ?_) (Evn.succ (h := fun k => dfa_Right.l1 k (rows.length : Int) rows (rows.length : Int) i (rows.getD i []) ((rows.getD i []).length : Int) (0 : Nat) rows acc) (fun k => ?_) ?_)
        · simp only [dfa_Right.l0, rdL, rdN]
          rw [if_pos (by omega), if_pos (by omega), if_pos (by omega), if_pos (by omega), if_pos (by omega), decide_eq_false h2]
        · simp only [dfa_Right.j2]; simp
        · have := right_l1 (n := rows.length) (rows := rows) (acc := acc) (i := i) (r := rows.getD i []) (by omega) (b := (List.range' (i + 1) d).all fun i => okRow rows.length (rows.getD i []) (acc.getD i 0)) (by
            refine Evn.same (fun k => ?_) ih
            rw [wrap_succ (m := 256) (by omega) (by omega)]) 256 0 (by omega)
          rw [List.drop_zero] at this
          cases hb : (rows.getD i []).all (okX rows.length) <;> rw [hb] at this <;> simpa using this
    · have : okRow rows.length (rows.getD i []) (acc.getD i 0) = false := by
        unfold okRow; rw [decide_eq_false h1]; rfl
      rw [this]
      refine Evn.succ (h := fun k => dfa_Right.j2 k (rows.length : Int) (rows.getD i []) rows (rows.length : Int) i true rows acc) (fun k => ?_) (Evn.const fun k => ?_)
      · simp only [dfa_Right.l0, rdL, rdN]
        rw [if_pos (by omega), if_pos (by omega), if_pos (by omega), if_neg (by omega)]
      · simp only [dfa_Right.j2]; simp
theorem right_ev (rows : LLi) (acc : List Int) : Evn (fun k => dfa_Right.f k rows acc) (rightS rows acc) := by
  have no : ∀ (n : Int), rightS rows acc = false → (∀ k, dfa_Right.f k rows acc = dfa_Right.j0 k n true rows acc) → Evn (fun k => dfa_Right.f k rows acc) (rightS rows acc) := fun n h e => by
    rw [h]
    refine Evn.same e (Evn.const fun k => ?_)
    simp only [dfa_Right.j0]; simp
  by_cases h1 : rows.length = 0
  · exact no rows.length (by unfold rightS; rw [decide_eq_false (by omega)]; rfl) fun k => by unfold dfa_Right.f; rw [if_pos (by omega)]
  · by_cases h2 : 240 < rows.length
    · exact no rows.length (by unfold rightS; rw [decide_eq_false (p := rows.length ≤ 240) (by omega)]; simp) fun k => by unfold dfa_Right.f; rw [if_neg (by omega), if_pos (by omega)]
    · by_cases h3 : acc.length = rows.length
      · have hs : rightS rows acc = (List.range' 0 rows.length).all fun i => okRow rows.length (rows.getD i []) (acc.getD i 0) := by
          unfold rightS
          rw [decide_eq_true (by omega), decide_eq_true (by omega), decide_eq_true (by omega), List.range_eq_range']; simp
        rw [hs]
        refine Evn.same (h := fun k => dfa_Right.j0 k (rows.length : Int) false rows acc) (fun k => ?_) (Evn.succ (h := fun k => dfa_Right.l0 k (rows.length : Int) rows (rows.length : Int) (0 : Nat) rows acc) (fun k => ?_) (right_l0 (by omega) h3 rows.length 0 (by omega)))
        · unfold dfa_Right.f
          rw [if_neg (by omega), if_neg (by omega)]
          congr 1
          simp; omega
        · simp only [dfa_Right.j0]; simp
      · refine no rows.length (by unfold rightS; rw [decide_eq_false (p := rows.length = acc.length) (by omega)]; simp) fun k => ?_
        unfold dfa_Right.f
        rw [if_neg (by omega), if_neg (by omega)]
        congr 1
        simp; omega

/-! ### where a text leads -/
theorem btN (s : ByteArray) (i : Nat) (h : i < s.size) : bt s (i : Int) = ((s.data.toList[i]'(by simpa using h)).toNat : Int) := by
  unfold bt
  rw [dif_pos (by rw [Int.toNat_natCast]; exact h)]
  rfl
theorem drop_bt (s : ByteArray) (i : Nat) (h : i < s.size) : s.data.toList.drop i = (s.data.toList[i]'(by simpa using h)) :: s.data.toList.drop (i + 1) := List.drop_eq_getElem_cons (by simpa using h)
theorem cellN {rows : LLi} {x : Int} (h0 : 0 ≤ x) (b : UInt8) : rd (rd_L1 rows x) (b.toNat : Int) = (rows.getD x.toNat []).getD b.toNat 0 := by
  obtain ⟨n, rfl⟩ := Int.eq_ofNat_of_zero_le h0
  rw [rdL, rdN, Int.toNat_natCast]
theorem lenN {rows : LLi} {x : Int} (h0 : 0 ≤ x) : rd_L1 rows x = rows.getD x.toNat [] := by
  obtain ⟨n, rfl⟩ := Int.eq_ofNat_of_zero_le h0
  rw [rdL, Int.toNat_natCast]

/-! ### the longest match, by the program -/
theorem one_upd {rows : LLi} {acc : List Int} {s : ByteArray} {a n : Nat} {x : Int} {b : Int × Nat} {r : Int × Int × Int × Int} (h0 : 0 ≤ x) (h1 : x < acc.length) (hn : a + n ≤ 140737488351232)
    (H : Evn (fun k => lex_one.j2 k s (a : Int) x ((a + n : Nat) : Int) rows acc (upd acc x n b).1 (a : Int) ((upd acc x n b).2 : Int)) r) : Evn (fun k => lex_one.l0 k s (a : Int) x ((a + n : Nat) : Int) rows acc b.1 (a : Int) (b.2 : Int)) r := by
  by_cases hp : 0 < n
  · by_cases ha : 0 ≤ acc.getD x.toNat 0
    · have e : upd acc x n b = (acc.getD x.toNat 0, n) := by unfold upd; rw [if_pos ⟨hp, ha⟩]
      rw [e] at H
      refine Evn.succ (h := fun k => lex_one.j1 k s (a : Int) x ((a + n : Nat) : Int) true rows acc b.1 (a : Int) (b.2 : Int)) (fun k => ?_) (Evn.succ (fun k => ?_) H)
      · simp only [lex_one.l0]
        rw [if_pos (by omega), if_pos h0, if_pos h1, decide_eq_true (show rd acc x ≥ 0 from ha)]
      · simp only [lex_one.j1]
        rw [if_pos (by simp), if_pos h0, if_pos h1, show wrap64 (((a + n : Nat) : Int) - (a : Int)) = (n : Int) by unfold wrap64; omega]
        rfl
    · have e : upd acc x n b = b := by unfold upd; rw [if_neg (by omega)]
      rw [e] at H
      refine Evn.succ (h := fun k => lex_one.j1 k s (a : Int) x ((a + n : Nat) : Int) false rows acc b.1 (a : Int) (b.2 : Int)) (fun k => ?_) (Evn.succ (fun k => ?_) H)
      · simp only [lex_one.l0]
        rw [if_pos (by omega), if_pos h0, if_pos h1, decide_eq_false (show ¬ rd acc x ≥ 0 from by have : rd acc x = acc.getD x.toNat 0 := rfl; omega)]
      · simp only [lex_one.j1]
        rw [if_neg (by simp)]
  · have e : upd acc x n b = b := by unfold upd; rw [if_neg (by omega)]
    rw [e] at H
    refine Evn.succ (h := fun k => lex_one.j1 k s (a : Int) x ((a + n : Nat) : Int) false rows acc b.1 (a : Int) (b.2 : Int)) (fun k => ?_) (Evn.succ (fun k => ?_) H)
    · simp only [lex_one.l0]
      rw [if_neg (by omega)]
    · simp only [lex_one.j1]
      rw [if_neg (by simp)]
theorem one_l0 {rows : LLi} {acc : List Int} (R : RightP rows acc) (s : ByteArray) (hs : s.size ≤ 140737488351232) (a : Nat) : ∀ (d n : Nat) (x : Int) (b : Int × Nat), a + n + d = s.size → 0 ≤ x → x < rows.length →
    Evn (fun k => lex_one.l0 k s (a : Int) x ((a + n : Nat) : Int) rows acc b.1 (a : Int) (b.2 : Int)) ((scan rows acc x n (s.data.toList.drop (a + n)) b).1, (a : Int), ((scan rows acc x n (s.data.toList.drop (a + n)) b).2.1 : Int), ((a + (scan rows acc x n (s.data.toList.drop (a + n)) b).2.2 : Nat) : Int))
  | 0, n, x, b, h, h0, h1 => by
    have hl := R.len
    rw [List.drop_eq_nil_of_le (by simp; omega)]
    refine one_upd h0 (by omega) (by omega) (Evn.const fun k => ?_)
    simp only [lex_one.j2, scan]
    rw [if_pos (by omega), show wrap64 (((a + n : Nat) : Int) + 1) = ((a + (n + 1) : Nat) : Int) by unfold wrap64; omega]
  | d + 1, n, x, b, h, h0, h1 => by
    have hl := R.len
    have hi : a + n < s.size := by omega
    have hr := R.row x.toNat (by omega)
    have hb := (s.data.toList[a + n]'(by simpa using hi)).toNat_lt
    rw [drop_bt s (a + n) hi]
    have e2 : ∀ k, lex_one.j2 (k + 1) s (a : Int) x ((a + n : Nat) : Int) rows acc (upd acc x n b).1 (a : Int) ((upd acc x n b).2 : Int) = if (rows.getD x.toNat []).getD ((s.data.toList[a + n]'(by simpa using hi)).toNat) 0 < 0 then (some ((upd acc x n b).1, (a : Int), ((upd acc x n b).2 : Int), wrap64 (((a + n : Nat) : Int) + 1))) else (lex_one.l0 k s (a : Int) ((rows.getD x.toNat []).getD ((s.data.toList[a + n]'(by simpa using hi)).toNat) 0) (wrap64 (((a + n : Nat) : Int) + 1)) rows acc (upd acc x n b).1 (a : Int) ((upd acc x n b).2 : Int)) := fun k => by
      simp only [lex_one.j2]
      rw [if_neg (by omega), if_pos h0, if_pos h1, if_pos (by omega), if_pos (by omega), btN s (a + n) hi, cellN h0, lenN h0, if_pos (by omega), if_pos (by omega)]
    have hw : wrap64 (((a + n : Nat) : Int) + 1) = ((a + (n + 1) : Nat) : Int) := by unfold wrap64; omega
    by_cases hn : (rows.getD x.toNat []).getD ((s.data.toList[a + n]'(by simpa using hi)).toNat) 0 < 0
    · refine one_upd h0 (by omega) (by omega) (Evn.const fun k => ?_)
      rw [e2, if_pos hn, hw]
      simp only [scan]
      rw [if_pos hn]
    · have hin := R.next h0 h1 (s.data.toList[a + n]'(by simpa using hi))
      refine one_upd h0 (by omega) (by omega) (Evn.succ (fun k => (e2 k).trans (by rw [if_neg hn, hw])) ?_)
      simp only [scan]
      rw [if_neg hn]
      exact one_l0 R s hs a d (n + 1) _ (upd acc x n b) (by omega) (by omega) hin.2
theorem one_ev {rows : LLi} {acc : List Int} (R : RightP rows acc) (s : ByteArray) (hs : s.size ≤ 140737488351232) (a : Nat) (ha : a ≤ s.size) : Evn (fun k => lex_one.f k rows acc s (a : Int)) ((tok rows acc (s.data.toList.drop a)).1, (a : Int), ((tok rows acc (s.data.toList.drop a)).2.1 : Int), ((a + (tok rows acc (s.data.toList.drop a)).2.2 : Nat) : Int)) :=
  one_l0 R s hs a (s.size - a) 0 0 (0, 0) (by omega) (by omega) (by have := R.pos; omega)


/-! ### all tokens -/
theorem rd45 {l : List S45} {i : Nat} (h : i < l.length) : rd_T45 l (i : Int) = l[i] := by
  unfold rd_T45
  rw [Int.toNat_natCast, List.getD_eq_getElem?_getD, List.getElem?_eq_getElem h]; rfl
def tkS (q : Int × Nat × Nat × Nat) : S45 := ⟨q.1, (q.2.1 : Int), (q.2.2.1 : Int)⟩
def tkN (q : Int × Nat × Nat × Nat) : Int := (q.2.2.2 : Int)
theorem all_l0 {rows : LLi} {acc : List Int} (R : RightP rows acc) (s : ByteArray) (hs : s.size ≤ 200) : ∀ (f a : Nat) (ts : List S45) (sn : List Int), s.size ≤ a + f → a ≤ s.size → ts.length ≤ a → sn.length ≤ a →
    Evn (fun k => lex_all.l0 k s ts sn (a : Int) rows acc) (ts ++ (cutS rows acc f a (s.data.toList.drop a)).1.map tkS, sn ++ (cutS rows acc f a (s.data.toList.drop a)).1.map tkN, (cutS rows acc f a (s.data.toList.drop a)).2)
  | 0, a, ts, sn, h, ha, ht, hn => by
    refine Evn.const fun k => ?_
    simp only [lex_all.l0, cutS]
    rw [if_neg (by omega)]; simp
  | f + 1, a, ts, sn, h, ha, ht, hn => by
    by_cases he : a = s.size
    · rw [List.drop_eq_nil_of_le (by simp; omega)]
      refine Evn.const fun k => ?_
      simp only [lex_all.l0, cutS]
      rw [if_neg (by omega)]; simp
    · have hlen : (s.data.toList.drop a).length = s.size - a := by simp
      have H1 := one_ev R s (by omega) a ha
      have hle := tok_le (rows := rows) (acc := acc) (s.data.toList.drop a)
      have hdd : ∀ n, (s.data.toList.drop a).drop n = s.data.toList.drop (a + n) := fun n => by rw [List.drop_drop]
      have hc : cutS rows acc (f + 1) a (s.data.toList.drop a) = if (tok rows acc (s.data.toList.drop a)).2.1 = 0 then ([], (a : Int)) else (((tok rows acc (s.data.toList.drop a)).1, a, (tok rows acc (s.data.toList.drop a)).2.1, a + (tok rows acc (s.data.toList.drop a)).2.2) :: (cutS rows acc f (a + (tok rows acc (s.data.toList.drop a)).2.1) (s.data.toList.drop (a + (tok rows acc (s.data.toList.drop a)).2.1))).1, (cutS rows acc f (a + (tok rows acc (s.data.toList.drop a)).2.1) (s.data.toList.drop (a + (tok rows acc (s.data.toList.drop a)).2.1))).2) := by
        rw [cutS, if_neg (by omega), hdd]
      rw [hc]
      generalize tok rows acc (s.data.toList.drop a) = t at *
      refine Evn.succ (h := fun k => (lex_one.f k rows acc s a).bind fun bt154 => (if bt154.2.2.1 = 0 then (some (ts, sn, (a : Int))) else (if ts.length < 5864062014805 then (if sn.length < 17592186044416 then (lex_all.l0 k s (ts ++ [(⟨bt154.1, bt154.2.1, bt154.2.2.1⟩ : S45)]) (sn ++ [bt154.2.2.2]) (wrap64 ((a : Int) + bt154.2.2.1)) rows acc) else (none)) else (none)))) (fun k => by simp only [lex_all.l0]; rw [if_pos (by omega)]) ?_
      refine H1.bind (f := fun k bt154 => if bt154.2.2.1 = 0 then (some (ts, sn, (a : Int))) else (if ts.length < 5864062014805 then (if sn.length < 17592186044416 then (lex_all.l0 k s (ts ++ [(⟨bt154.1, bt154.2.1, bt154.2.2.1⟩ : S45)]) (sn ++ [bt154.2.2.2]) (wrap64 ((a : Int) + bt154.2.2.1)) rows acc) else (none)) else (none))) ?_
      by_cases h0 : t.2.1 = 0
      · rw [if_pos h0]
        exact Evn.same (fun k => by rw [if_pos (by simpa using h0)] <;> simp) Evn.pure
      · rw [if_neg h0]
        have ih := all_l0 R s hs f (a + t.2.1) (ts ++ [(⟨t.1, (a : Int), (t.2.1 : Int)⟩ : S45)]) (sn ++ [((a + t.2.2 : Nat) : Int)]) (by omega) (by omega) (by simp; omega) (by simp; omega)
        have hw : wrap64 ((a : Int) + (t.2.1 : Int)) = ((a + t.2.1 : Nat) : Int) := by unfold wrap64; omega
        refine Evn.same (fun k => ?_) (by simpa [tkS, tkN] using ih)
        simp only [hw]
        rw [if_neg (by omega), if_pos (by omega), if_pos (by omega)]
        simp
theorem all_ev {rows : LLi} {acc : List Int} (R : RightP rows acc) (s : ByteArray) (hs : s.size ≤ 200) : Evn (fun k => lex_all.f k rows acc s) ((cutS rows acc s.size 0 s.data.toList).1.map tkS, (cutS rows acc s.size 0 s.data.toList).1.map tkN, (cutS rows acc s.size 0 s.data.toList).2) := by
  have HR := right_ev rows acc
  rw [rightS_iff.2 R] at HR
  refine Evn.same (fun k => rfl) (HR.bind (f := fun k t153 => if t153 = true then (lex_all.l0 k s ([] : List (S45)) ([] : List Int) 0 rows acc) else (some (([] : List (S45)), ([] : List Int), 0))) ?_)
  have := all_l0 R s hs s.size 0 [] [] (by omega) (by omega) (by simp) (by simp)
  exact Evn.same (fun k => by rw [if_pos rfl]) (by simpa using this)
theorem all_bad {rows : LLi} {acc : List Int} (s : ByteArray) (h : rightS rows acc = false) : Evn (fun k => lex_all.f k rows acc s) ([], [], 0) := by
  have HR := right_ev rows acc
  rw [h] at HR
  exact Evn.same (fun k => rfl) (HR.bind (f := fun k t153 => if t153 = true then (lex_all.l0 k s ([] : List (S45)) ([] : List Int) 0 rows acc) else (some (([] : List (S45)), ([] : List Int), 0))) (Evn.same (fun k => by rw [if_neg (by simp)]) Evn.pure))
theorem All_ev {rows : LLi} {acc : List Int} (s : ByteArray) {T : List S45} {S : List Int} {e : Int} (h : Evn (fun k => lex_all.f k rows acc s) (T, S, e)) : Evn (fun k => lex_All.f k rows acc s) (T, e) :=
  Evn.same (fun k => rfl) (h.bind (f := fun k (bt : List S45 × List Int × Int) => some (bt.1, bt.2.2)) Evn.pure)
end Go.Proofs.YtjdafbgpckmieaaGreatDoor.QLex
