/-
  LexAll, in plain words: of any automaton and any text the tokens are the document's.
-/
import Derived.Test.YtjdafbgpckmieaaGreatDoorQLexP
import Derived.Test.YtjdafbgpckmieaaGreatDoorQLexf8
set_option linter.unusedVariables false
set_option linter.unusedSimpArgs false
namespace Go.Proofs.YtjdafbgpckmieaaGreatDoor.QLex
open Go.RowKit Go.Proofs.YtjdafbgpckmieaaGreatDoorW.PrintWords Go.Sh.Pl

/-! ### the document's Right -/
theorem rref_l1 {rows : LLi} {acc : List Int} {i : Nat} (hi : i < rows.length) (hr : (rows.getD i []).length = 256) {b : Bool} (H : Evn (fun k => topiaryref08_Right.l0 k (wrap64 ((i : Int) + 1)) rows acc) b) :
    ∀ (d j : Nat), j + d = 256 → Evn (fun k => topiaryref08_Right.l1 k i j rows acc) (if ((rows.getD i []).drop j).all (okX rows.length) then b else false)
  | 0, j, h => by
    have : (rows.getD i []).drop j = [] := List.drop_eq_nil_of_le (by omega)
    rw [this]
    refine Evn.succ (fun k => ?_) H
    simp only [topiaryref08_Right.l1]
    rw [if_neg (by omega)]
  | d + 1, j, h => by
    rw [all_drop (by omega)]
    by_cases h1 : (rows.getD i []).getD j 0 < -1
    · have : okX rows.length ((rows.getD i []).getD j 0) = false := okX_lo h1
      rw [this]
      refine Evn.const fun k => ?_
      simp only [topiaryref08_Right.l1, rdL, rdN]
      rw [if_pos (by omega), if_pos (by omega), if_pos (by omega), if_pos (by omega), if_pos (by omega), if_pos h1]
      simp
    · by_cases h2 : (rows.getD i []).getD j 0 ≥ rows.length
      · have : okX rows.length ((rows.getD i []).getD j 0) = false := okX_hi h2
        rw [this]
        refine Evn.const fun k => ?_
        simp only [topiaryref08_Right.l1, rdL, rdN]
        rw [if_pos (by omega), if_pos (by omega), if_pos (by omega), if_pos (by omega), if_pos (by omega), if_neg h1, if_pos h2]
        simp
      · have : okX rows.length ((rows.getD i []).getD j 0) = true := okX_in h1 h2
        rw [this, Bool.true_and]
        refine Evn.succ (fun k => ?_) (rref_l1 hi hr H d (j + 1) (by omega))
        simp only [topiaryref08_Right.l1, rdL, rdN]
        rw [if_pos (by omega), if_pos (by omega), if_pos (by omega), if_pos (by omega), if_pos (by omega), if_neg h1, if_neg h2, wrap_succ (m := 256) (by omega) (by omega)]
theorem rref_l0 {rows : LLi} {acc : List Int} (hn : rows.length ≤ 240) (ha : acc.length = rows.length) :
    ∀ (d i : Nat), i + d = rows.length → Evn (fun k => topiaryref08_Right.l0 k i rows acc) ((List.range' i d).all fun i => okRow rows.length (rows.getD i []) (acc.getD i 0))
  | 0, i, h => by
    refine Evn.const fun k => ?_
    simp only [topiaryref08_Right.l0]
    rw [if_neg (by omega)]
    rfl
  | d + 1, i, h => by
    rw [List.range'_succ, List.all_cons]
    have ih := rref_l0 hn ha d (i + 1) (by omega)
    by_cases h1 : (rows.getD i []).length = 256
    · by_cases h2 : acc.getD i 0 < -1
      · have : okRow rows.length (rows.getD i []) (acc.getD i 0) = false := okRow_lo h2
        rw [this]
        refine Evn.succ (h := fun k => topiaryref08_Right.j2 k i true rows acc) (fun k => ?_) (Evn.const fun k => ?_)
        · simp only [topiaryref08_Right.l0, rdL, rdN]
          rw [if_pos (by omega), if_pos (by omega), if_pos (by omega), if_pos (by omega), decide_eq_true h2]
        · simp only [topiaryref08_Right.j2]; simp
      · have h3 : okRow rows.length (rows.getD i []) (acc.getD i 0) = (rows.getD i []).all (okX rows.length) := by
          unfold okRow; rw [decide_eq_true h1, decide_eq_true (by omega)]; rfl
        rw [h3]
        refine Evn.succ (h := fun k => topiaryref08_Right.j2 k i false rows acc) (fun k => ?_) (Evn.succ (h := fun k => topiaryref08_Right.l1 k i (0 : Nat) rows acc) (fun k => ?_) ?_)
        · simp only [topiaryref08_Right.l0, rdL, rdN]
          rw [if_pos (by omega), if_pos (by omega), if_pos (by omega), if_pos (by omega), decide_eq_false h2]
        · simp only [topiaryref08_Right.j2]; simp
        · have := rref_l1 (rows := rows) (acc := acc) (i := i) (by omega) h1 (b := (List.range' (i + 1) d).all fun i => okRow rows.length (rows.getD i []) (acc.getD i 0)) (by
            refine Evn.same (fun k => ?_) ih
            rw [wrap_succ (m := 256) (by omega) (by omega)]) 256 0 (by omega)
          rw [List.drop_zero] at this
          cases hb : (rows.getD i []).all (okX rows.length) <;> rw [hb] at this <;> simpa using this
    · have : okRow rows.length (rows.getD i []) (acc.getD i 0) = false := by
        unfold okRow; rw [decide_eq_false h1]; rfl
      rw [this]
      refine Evn.succ (h := fun k => topiaryref08_Right.j2 k i true rows acc) (fun k => ?_) (Evn.const fun k => ?_)
      · simp only [topiaryref08_Right.l0, rdL, rdN]
        rw [if_pos (by omega), if_pos (by omega), if_neg (by omega)]
      · simp only [topiaryref08_Right.j2]; simp
theorem rref_ev (rows : LLi) (acc : List Int) : Evn (fun k => topiaryref08_Right.f k rows acc) (rightS rows acc) := by
  have no : rightS rows acc = false → (∀ k, topiaryref08_Right.f k rows acc = topiaryref08_Right.j0 k true rows acc) → Evn (fun k => topiaryref08_Right.f k rows acc) (rightS rows acc) := fun h e => by
    rw [h]
    refine Evn.same e (Evn.const fun k => ?_)
    simp only [topiaryref08_Right.j0]; simp
  by_cases h1 : rows.length = 0
  · exact no (by unfold rightS; rw [decide_eq_false (by omega)]; rfl) fun k => by unfold topiaryref08_Right.f; rw [if_pos (by omega)]
  · by_cases h2 : 240 < rows.length
    · exact no (by unfold rightS; rw [decide_eq_false (p := rows.length ≤ 240) (by omega)]; simp) fun k => by unfold topiaryref08_Right.f; rw [if_neg (by omega), if_pos (by omega)]
    · by_cases h3 : acc.length = rows.length
      · have hs : rightS rows acc = (List.range' 0 rows.length).all fun i => okRow rows.length (rows.getD i []) (acc.getD i 0) := by
          unfold rightS
          rw [decide_eq_true (by omega), decide_eq_true (by omega), decide_eq_true (by omega), List.range_eq_range']; simp
        rw [hs]
        refine Evn.same (h := fun k => topiaryref08_Right.j0 k false rows acc) (fun k => ?_) (Evn.succ (h := fun k => topiaryref08_Right.l0 k (0 : Nat) rows acc) (fun k => ?_) (rref_l0 (by omega) h3 rows.length 0 (by omega)))
        · unfold topiaryref08_Right.f
          rw [if_neg (by omega), if_neg (by omega)]
          congr 1
          simp; omega
        · simp only [topiaryref08_Right.j0]; simp
      · refine no (by unfold rightS; rw [decide_eq_false (p := rows.length = acc.length) (by omega)]; simp) fun k => ?_
        unfold topiaryref08_Right.f
        rw [if_neg (by omega), if_neg (by omega)]
        congr 1
        simp; omega

theorem rgo_l0 {rows : LLi} {acc : List Int} (R : RightP rows acc) (s : ByteArray) (hs : s.size ≤ 140737488351232) : ∀ (d i : Nat) (x : Int), i + d = s.size → InR rows x → Evn (fun k => topiaryref08_Go.l0 k x s i rows acc) (goL rows x (s.data.toList.drop i))
  | 0, i, x, h, hx => by
    rw [List.drop_eq_nil_of_le (by simp; omega)]
    refine Evn.const fun k => ?_
    simp only [topiaryref08_Go.l0]
    rw [if_neg (by omega)]
    rfl
  | d + 1, i, x, h, hx => by
    have hi : i < s.size := by omega
    rw [drop_bt s i hi]
    by_cases h0 : x < 0
    · rw [goL_neg h0]
      have : x = -1 := by have := hx.1; omega
      subst this
      refine Evn.const fun k => ?_
      simp only [topiaryref08_Go.l0]
      rw [if_pos (by omega), if_pos (by omega)]
    · rw [goL_cons h0]
      have hb := (s.data.toList[i]'(by simpa using hi)).toNat_lt
      have hr := R.row x.toNat (by have := hx.2; omega)
      refine Evn.succ (fun k => ?_) (rgo_l0 R s hs d (i + 1) _ (by omega) (R.next (by omega) hx.2 _))
      simp only [topiaryref08_Go.l0]
      have := hx.2
      have hw : wrap64 (((s.data.toList[i]'(by simpa using hi)).toNat : Int)) = ((s.data.toList[i]'(by simpa using hi)).toNat : Int) := by unfold wrap64; omega
      rw [btN s i hi, hw, cellN (by omega), lenN (by omega), if_pos (by omega), if_neg (by omega), if_pos (by omega), if_pos (by omega), if_pos (by omega), if_pos (by omega), if_pos (by omega), wrap_succ (m := 140737488351232) (by omega) (by omega)]
theorem rgo_ev {rows : LLi} {acc : List Int} (R : RightP rows acc) (s : ByteArray) (hs : s.size ≤ 140737488351232) : Evn (fun k => topiaryref08_Go.f k rows acc 0 s) (goL rows 0 s.data.toList) := by
  have := rgo_l0 R s hs s.size 0 0 (by omega) ⟨by omega, by have := R.pos; omega⟩
  rw [List.drop_zero] at this
  exact Evn.same (fun k => rfl) this
/-! ### the longest match, by the document -/
theorem rone_l0 {rows : LLi} {acc : List Int} (R : RightP rows acc) (s : ByteArray) (hs : s.size ≤ 140737488351232) (a : Nat) : ∀ (d n : Nat) (b : Int × Nat) (z : Int), a + n + d = s.size → 0 ≤ goL rows 0 ((s.data.toList.drop a).take n) →
    Evn (fun k => topiaryref10_One.l0 k s (a : Int) (n : Int) rows acc b.1 (b.2 : Int) z) ((scan rows acc (goL rows 0 ((s.data.toList.drop a).take n)) n (s.data.toList.drop (a + n)) b).1, ((scan rows acc (goL rows 0 ((s.data.toList.drop a).take n)) n (s.data.toList.drop (a + n)) b).2.1 : Int), ((a + (scan rows acc (goL rows 0 ((s.data.toList.drop a).take n)) n (s.data.toList.drop (a + n)) b).2.2 : Nat) : Int)) := by
  -- one round
  have rnd : ∀ (n : Nat) (b : Int × Nat) (z : Int) (r : Int × Int × Int), a + n ≤ s.size → 0 ≤ goL rows 0 ((s.data.toList.drop a).take n) → Evn (fun k => topiaryref10_One.l0 k s (a : Int) ((n + 1 : Nat) : Int) rows acc (upd acc (goL rows 0 ((s.data.toList.drop a).take n)) n b).1 ((upd acc (goL rows 0 ((s.data.toList.drop a).take n)) n b).2 : Int) ((a + n : Nat) : Int)) r → Evn (fun k => topiaryref10_One.l0 k s (a : Int) (n : Int) rows acc b.1 (b.2 : Int) z) r := fun n b z r hn h0 H => by
    have hw : wrap64 ((a : Int) + (n : Int)) = ((a + n : Nat) : Int) := by unfold wrap64; omega
    have hw1 : wrap64 ((n : Int) + 1) = ((n + 1 : Nat) : Int) := by unfold wrap64; omega
    have hx := (goL_in R ((s.data.toList.drop a).take n) 0 ⟨by omega, by have := R.pos; omega⟩).2
    have hl := R.len
    have hg := rgo_ev R (s.extract a (a + n)) (by rw [extract_size s a (a + n) hn]; omega)
    rw [extract_list s a (a + n) hn, show a + n - a = n by omega] at hg
    generalize goL rows 0 ((s.data.toList.drop a).take n) = x at *
    refine Evn.succ (h := fun k => (topiaryref08_Go.f k rows acc 0 (s.extract a (a + n))).bind fun t136 => (if t136 < 0 then (some (b.1, (b.2 : Int), ((a + n : Nat) : Int))) else (if (n : Int) > 0 then (if 0 ≤ t136 then (if t136 < (acc.length : Int) then (if (rd acc t136) ≥ 0 then (topiaryref10_One.l0 k s a ((n + 1 : Nat) : Int) rows acc (rd acc t136) (n : Int) ((a + n : Nat) : Int)) else (topiaryref10_One.l0 k s a ((n + 1 : Nat) : Int) rows acc b.1 (b.2 : Int) ((a + n : Nat) : Int))) else (none)) else (none)) else (topiaryref10_One.l0 k s a ((n + 1 : Nat) : Int) rows acc b.1 (b.2 : Int) ((a + n : Nat) : Int))))) (fun k => ?_) ?_
    · simp only [topiaryref10_One.l0, hw, hw1]
      rw [if_pos (by omega), if_pos (by omega), if_pos (by omega)]
      rfl
    · refine hg.bind (f := fun k t136 => if t136 < 0 then (some (b.1, (b.2 : Int), ((a + n : Nat) : Int))) else (if (n : Int) > 0 then (if 0 ≤ t136 then (if t136 < (acc.length : Int) then (if (rd acc t136) ≥ 0 then (topiaryref10_One.l0 k s a ((n + 1 : Nat) : Int) rows acc (rd acc t136) (n : Int) ((a + n : Nat) : Int)) else (topiaryref10_One.l0 k s a ((n + 1 : Nat) : Int) rows acc b.1 (b.2 : Int) ((a + n : Nat) : Int))) else (none)) else (none)) else (topiaryref10_One.l0 k s a ((n + 1 : Nat) : Int) rows acc b.1 (b.2 : Int) ((a + n : Nat) : Int)))) ?_
      refine Evn.same (fun k => ?_) H
      rw [if_neg (by omega)]
      unfold upd
      by_cases hp : 0 < n
      · rw [if_pos (by omega), if_pos h0, if_pos (by omega)]
        by_cases ha : 0 ≤ acc.getD x.toNat 0
        · rw [if_pos (show rd acc x ≥ 0 from ha), if_pos ⟨hp, ha⟩]; rfl
        · rw [if_neg (show ¬ rd acc x ≥ 0 from by have : rd acc x = acc.getD x.toNat 0 := rfl; omega), if_neg (by omega)]
      · rw [if_neg (by omega), if_neg (by omega)]
  intro d
  induction d with
  | zero =>
    intro n b z h h0
    refine rnd n b z _ (by omega) h0 (Evn.const fun k => ?_)
    rw [show s.data.toList.drop (a + n) = [] from List.drop_eq_nil_of_le (by simp; omega)]
    have hw : wrap64 ((a : Int) + ((n + 1 : Nat) : Int)) = ((a + n + 1 : Nat) : Int) := by unfold wrap64; omega
    simp only [topiaryref10_One.l0, hw, scan]
    rw [if_neg (by omega), show wrap64 ((s.size : Int) + 1) = ((a + (n + 1) : Nat) : Int) by unfold wrap64; omega]
  | succ d ih =>
    intro n b z h h0
    have hi : a + n < s.size := by omega
    have hsn := goL_snoc (rows := rows) ((s.data.toList.drop a).take n) (s.data.toList[a + n]'(by simpa using hi)) 0 h0
    rw [← take_succ_drop (l := s.data.toList) (a := a) (n := n) (by simpa using hi)] at hsn
    refine rnd n b z _ (by omega) h0 ?_
    rw [drop_bt s (a + n) hi]
    simp only [scan]
    rw [← hsn]
    by_cases hn : goL rows 0 ((s.data.toList.drop a).take (n + 1)) < 0
    · rw [if_pos hn]
      have hg := rgo_ev R (s.extract a (a + n + 1)) (by rw [extract_size s a (a + n + 1) (by omega)]; omega)
      rw [extract_list s a (a + n + 1) (by omega), show a + n + 1 - a = n + 1 by omega] at hg
      have hw : wrap64 ((a : Int) + ((n + 1 : Nat) : Int)) = ((a + n + 1 : Nat) : Int) := by unfold wrap64; omega
      refine Evn.succ (h := fun k => (topiaryref08_Go.f k rows acc 0 (s.extract a (a + n + 1))).bind fun t136 => (if t136 < 0 then (some ((upd acc (goL rows 0 ((s.data.toList.drop a).take n)) n b).1, ((upd acc (goL rows 0 ((s.data.toList.drop a).take n)) n b).2 : Int), ((a + n + 1 : Nat) : Int))) else (if ((n + 1 : Nat) : Int) > 0 then (if 0 ≤ t136 then (if t136 < (acc.length : Int) then (if (rd acc t136) ≥ 0 then (topiaryref10_One.l0 k s a (wrap64 (((n + 1 : Nat) : Int) + 1)) rows acc (rd acc t136) ((n + 1 : Nat) : Int) ((a + n + 1 : Nat) : Int)) else (topiaryref10_One.l0 k s a (wrap64 (((n + 1 : Nat) : Int) + 1)) rows acc (upd acc (goL rows 0 ((s.data.toList.drop a).take n)) n b).1 ((upd acc (goL rows 0 ((s.data.toList.drop a).take n)) n b).2 : Int) ((a + n + 1 : Nat) : Int))) else (none)) else (none)) else (topiaryref10_One.l0 k s a (wrap64 (((n + 1 : Nat) : Int) + 1)) rows acc (upd acc (goL rows 0 ((s.data.toList.drop a).take n)) n b).1 ((upd acc (goL rows 0 ((s.data.toList.drop a).take n)) n b).2 : Int) ((a + n + 1 : Nat) : Int))))) (fun k => ?_) ?_
      · simp only [topiaryref10_One.l0, hw]
        rw [if_pos (by omega), if_pos (by omega), if_pos (by omega)]
        rfl
      · obtain ⟨k0, hk⟩ := hg
        refine ⟨k0, fun k hk' => ?_⟩
        show (topiaryref08_Go.f k rows acc 0 (s.extract a (a + n + 1))).bind _ = _
        have e := hk k hk'
        dsimp only at e
        rw [e, Option.bind_some, if_pos hn]
        rfl
    · rw [if_neg hn]
      exact ih (n + 1) (upd acc (goL rows 0 ((s.data.toList.drop a).take n)) n b) ((a + n : Nat) : Int) (by omega) (by omega)
theorem rone_ev {rows : LLi} {acc : List Int} (R : RightP rows acc) (s : ByteArray) (hs : s.size ≤ 140737488351232) (a : Nat) (ha : a ≤ s.size) : Evn (fun k => topiaryref10_One.f k rows acc s (a : Int)) ((tok rows acc (s.data.toList.drop a)).1, ((tok rows acc (s.data.toList.drop a)).2.1 : Int), ((a + (tok rows acc (s.data.toList.drop a)).2.2 : Nat) : Int)) := by
  have := rone_l0 R s hs a (s.size - a) 0 (0, 0) 0 (by omega) (by simp [goL])
  exact Evn.same (h := fun k => topiaryref10_One.l0 k s (a : Int) 0 rows acc 0 0 0) (fun k => rfl) (by simpa [tok, goL] using this)

theorem rall_l0 {rows : LLi} {acc : List Int} (R : RightP rows acc) (s : ByteArray) (hs : s.size ≤ 200) : ∀ (f a : Nat) (ts : List S45) (sn : List Int), s.size ≤ a + f → a ≤ s.size → ts.length ≤ a → sn.length ≤ a →
    Evn (fun k => topiaryref10_All.l0 k s (a : Int) rows acc ts sn (-1)) (ts ++ (cutS rows acc f a (s.data.toList.drop a)).1.map tkS, sn ++ (cutS rows acc f a (s.data.toList.drop a)).1.map tkN, (cutS rows acc f a (s.data.toList.drop a)).2)
  | 0, a, ts, sn, h, ha, ht, hn => by
    refine Evn.const fun k => ?_
    simp only [topiaryref10_All.l0, cutS]
    rw [if_neg (by omega)]; simp
  | f + 1, a, ts, sn, h, ha, ht, hn => by
    by_cases he : a = s.size
    · rw [List.drop_eq_nil_of_le (by simp; omega)]
      refine Evn.const fun k => ?_
      simp only [topiaryref10_All.l0, cutS]
      rw [if_neg (by omega)]; simp
    · have hlen : (s.data.toList.drop a).length = s.size - a := by simp
      have H1 := rone_ev R s (by omega) a ha
      have hle := tok_le (rows := rows) (acc := acc) (s.data.toList.drop a)
      have hdd : ∀ n, (s.data.toList.drop a).drop n = s.data.toList.drop (a + n) := fun n => by rw [List.drop_drop]
      have hc : cutS rows acc (f + 1) a (s.data.toList.drop a) = if (tok rows acc (s.data.toList.drop a)).2.1 = 0 then ([], (a : Int)) else (((tok rows acc (s.data.toList.drop a)).1, a, (tok rows acc (s.data.toList.drop a)).2.1, a + (tok rows acc (s.data.toList.drop a)).2.2) :: (cutS rows acc f (a + (tok rows acc (s.data.toList.drop a)).2.1) (s.data.toList.drop (a + (tok rows acc (s.data.toList.drop a)).2.1))).1, (cutS rows acc f (a + (tok rows acc (s.data.toList.drop a)).2.1) (s.data.toList.drop (a + (tok rows acc (s.data.toList.drop a)).2.1))).2) := by
        rw [cutS, if_neg (by omega), hdd]
      rw [hc]
      generalize tok rows acc (s.data.toList.drop a) = t at *
      refine Evn.succ (h := fun k => (topiaryref10_One.f k rows acc s a).bind fun bt177 => (if bt177.2.1 = 0 then (some (ts, sn, (a : Int))) else (if ts.length < 5864062014805 then (if sn.length < 17592186044416 then (topiaryref10_All.l0 k s (wrap64 ((a : Int) + bt177.2.1)) rows acc (ts ++ [(⟨bt177.1, (a : Int), bt177.2.1⟩ : S45)]) (sn ++ [bt177.2.2]) (-1)) else (none)) else (none)))) (fun k => by simp only [topiaryref10_All.l0]; rw [if_pos (by omega)]) ?_
      refine H1.bind (f := fun k bt177 => if bt177.2.1 = 0 then (some (ts, sn, (a : Int))) else (if ts.length < 5864062014805 then (if sn.length < 17592186044416 then (topiaryref10_All.l0 k s (wrap64 ((a : Int) + bt177.2.1)) rows acc (ts ++ [(⟨bt177.1, (a : Int), bt177.2.1⟩ : S45)]) (sn ++ [bt177.2.2]) (-1)) else (none)) else (none))) ?_
      by_cases h0 : t.2.1 = 0
      · rw [if_pos h0]
        exact Evn.same (fun k => by rw [if_pos (by simpa using h0)] <;> simp) Evn.pure
      · rw [if_neg h0]
        have ih := rall_l0 R s hs f (a + t.2.1) (ts ++ [(⟨t.1, (a : Int), (t.2.1 : Int)⟩ : S45)]) (sn ++ [((a + t.2.2 : Nat) : Int)]) (by omega) (by omega) (by simp; omega) (by simp; omega)
        have hw : wrap64 ((a : Int) + (t.2.1 : Int)) = ((a + t.2.1 : Nat) : Int) := by unfold wrap64; omega
        refine Evn.same (fun k => ?_) (by simpa [tkS, tkN] using ih)
        simp only [hw]
        rw [if_neg (by omega), if_pos (by omega), if_pos (by omega)]
        simp
theorem rall_ev {rows : LLi} {acc : List Int} (R : RightP rows acc) (s : ByteArray) (hs : s.size ≤ 200) : Evn (fun k => topiaryref10_All.f k rows acc s) ((cutS rows acc s.size 0 s.data.toList).1.map tkS, (cutS rows acc s.size 0 s.data.toList).1.map tkN, (cutS rows acc s.size 0 s.data.toList).2) := by
  have HR := rref_ev rows acc
  rw [rightS_iff.2 R] at HR
  refine Evn.same (fun k => rfl) (HR.bind (f := fun k t176 => if t176 = true then (topiaryref10_All.l0 k s 0 rows acc ([] : List (S45)) ([] : List Int) (-1)) else (some (([] : List (S45)), ([] : List Int), 0))) ?_)
  have := rall_l0 R s hs s.size 0 [] [] (by omega) (by omega) (by simp) (by simp)
  exact Evn.same (fun k => by rw [if_pos rfl]) (by simpa using this)
theorem rall_bad {rows : LLi} {acc : List Int} (s : ByteArray) (h : rightS rows acc = false) : Evn (fun k => topiaryref10_All.f k rows acc s) ([], [], 0) := by
  have HR := rref_ev rows acc
  rw [h] at HR
  exact Evn.same (fun k => rfl) (HR.bind (f := fun k t176 => if t176 = true then (topiaryref10_All.l0 k s 0 rows acc ([] : List (S45)) ([] : List Int) (-1)) else (some (([] : List (S45)), ([] : List Int), 0))) (Evn.same (fun k => by rw [if_neg (by simp)]) Evn.pure))
theorem same_l0 (l : List S45) (hl : l.length ≤ 1000) : ∀ (d i : Nat), i + d = l.length → Evn (fun k => topiaryref10_Same.l0 k l l (i : Int)) true
  | 0, i, h => Evn.const fun k => by simp only [topiaryref10_Same.l0]; rw [if_neg (by omega)]
  | d + 1, i, h => by
    refine Evn.succ (fun k => ?_) (same_l0 l hl d (i + 1) (by omega))
    simp only [topiaryref10_Same.l0]
    rw [if_pos (by omega), if_pos (by omega), if_pos (by omega), if_neg (by simp), wrap_succ (m := 1000) (by omega) (by omega)]
theorem same_ev (l : List S45) (hl : l.length ≤ 1000) : Evn (fun k => topiaryref10_Same.f k l l) true :=
  Evn.same (fun k => by unfold topiaryref10_Same.f; rw [if_pos rfl]; rfl) (same_l0 l hl l.length 0 (by omega))
theorem order_l0 (l : List Int) (hl : l.length ≤ 1000) : ∀ (d i : Nat), i + d = l.length → Evn (fun k => topiaryref04_Order.l0 k l l (i : Int)) 0
  | 0, i, h => Evn.succ (h := fun k => topiaryref04_Order.j1 k l l i false) (fun k => by simp only [topiaryref04_Order.l0]; rw [if_neg (by omega)]) (Evn.const fun k => by simp only [topiaryref04_Order.j1]; rw [if_neg (by simp), if_neg (by omega), if_neg (by omega)])
  | d + 1, i, h => by
    refine Evn.succ (h := fun k => topiaryref04_Order.j1 k l l i true) (fun k => by simp only [topiaryref04_Order.l0]; rw [if_pos (by omega), decide_eq_true (by omega)]) (Evn.succ (fun k => ?_) (order_l0 l hl d (i + 1) (by omega)))
    simp only [topiaryref04_Order.j1]
    rw [if_pos (by simp), if_pos (by omega), if_pos (by omega), if_pos (by omega), if_neg (by omega), if_neg (by omega), wrap_succ (m := 1000) (by omega) (by omega)]
theorem rsame_ev (l : List Int) (hl : l.length ≤ 1000) : Evn (fun k => topiaryref04_Same.f k l l) true :=
  Evn.same (fun k => rfl) ((order_l0 l hl l.length 0 (by omega)).bind (f := fun k t => some (t == 0)) Evn.pure)
theorem lawAll_j0 (rows : LLi) (acc : List Int) (s : ByteArray) (hs : s.size ≤ 200) : Evn (fun k => topiarylaw10_LexAll.j0 k s false rows acc) true := by
  have fin : ∀ (T : List S45) (S : List Int) (e : Int), T.length ≤ 1000 → S.length ≤ 1000 → Evn (fun k => lex_all.f k rows acc s) (T, S, e) → Evn (fun k => topiaryref10_All.f k rows acc s) (T, S, e) → Evn (fun k => topiarylaw10_LexAll.j0 k s false rows acc) true := fun T S e hT hS H1 H2 => by
    have HA := All_ev s H1
    have HS : Evn (fun k => lex_Seen.f k rows acc s) S := Evn.same (fun k => rfl) (H1.bind (f := fun k (bt : List S45 × List Int × Int) => some bt.2.1) Evn.pure)
    refine Evn.succ (h := fun k => (lex_All.f k rows acc s).bind fun bt204 => ((topiaryref10_All.f k rows acc s).bind fun bt208 => ((topiaryref10_Same.f k bt204.1 bt208.1).bind fun t216 => (if t216 = true then (if bt204.2 = bt208.2.2 then ((lex_Seen.f k rows acc s).bind fun t217 => ((topiaryref04_Same.f k t217 bt208.2.1).bind fun t220 => (some t220))) else (some false)) else (some false))))) (fun k => by simp only [topiarylaw10_LexAll.j0]; simp) ?_
    refine HA.bind (f := fun k bt204 => (topiaryref10_All.f k rows acc s).bind fun bt208 => ((topiaryref10_Same.f k bt204.1 bt208.1).bind fun t216 => (if t216 = true then (if bt204.2 = bt208.2.2 then ((lex_Seen.f k rows acc s).bind fun t217 => ((topiaryref04_Same.f k t217 bt208.2.1).bind fun t220 => (some t220))) else (some false)) else (some false)))) ?_
    refine H2.bind (f := fun k bt208 => (topiaryref10_Same.f k T bt208.1).bind fun t216 => (if t216 = true then (if e = bt208.2.2 then ((lex_Seen.f k rows acc s).bind fun t217 => ((topiaryref04_Same.f k t217 bt208.2.1).bind fun t220 => (some t220))) else (some false)) else (some false))) ?_
    refine (same_ev T hT).bind (f := fun k t216 => if t216 = true then (if e = e then ((lex_Seen.f k rows acc s).bind fun t217 => ((topiaryref04_Same.f k t217 S).bind fun t220 => (some t220))) else (some false)) else (some false)) ?_
    refine Evn.same (fun k => by rw [if_pos rfl, if_pos rfl]) (HS.bind (f := fun k t217 => (topiaryref04_Same.f k t217 S).bind fun t220 => (some t220)) ?_)
    exact (rsame_ev S hS).bind (f := fun k t220 => some t220) Evn.pure
  cases hR : rightS rows acc with
  | false => exact fin [] [] 0 (by simp) (by simp) (all_bad s hR) (rall_bad s hR)
  | true =>
    have R := rightS_iff.1 hR
    have hl := cutS_len (rows := rows) (acc := acc) s.size 0 s.data.toList
    exact fin _ _ _ (by simp; omega) (by simp; omega) (all_ev R s hs) (rall_ev R s hs)
theorem lawAll (rows : LLi) (acc : List Int) (s : ByteArray) (hs : s.size ≤ 140737488351232) : ∃ k, topiarylaw10_LexAll.f k rows acc s = some true := by
  have hw : topiarylaw10_wakes.f = some true := by unfold topiarylaw10_wakes.f; first | rfl | (rw [if_pos (by omega)])
  have e : ∀ k, topiarylaw10_LexAll.f k rows acc s = if (s.size : Int) > 200 then (topiarylaw10_LexAll.j0 k s true rows acc) else (topiarylaw10_LexAll.j0 k s (decide ((rows.length : Int) > 300)) rows acc) := fun k => by
    unfold topiarylaw10_LexAll.f
    rw [hw]
    rfl
  have yes : ∃ k, topiarylaw10_LexAll.j0 k s true rows acc = some true := ⟨1, by simp [topiarylaw10_LexAll.j0]⟩
  by_cases h1 : (s.size : Int) > 200
  · obtain ⟨k, h⟩ := yes
    exact ⟨k, by rw [e, if_pos h1]; exact h⟩
  · by_cases h2 : (rows.length : Int) > 300
    · obtain ⟨k, h⟩ := yes
      exact ⟨k, by rw [e, if_neg h1, decide_eq_true h2]; exact h⟩
    · obtain ⟨k, h⟩ := (lawAll_j0 rows acc s (by omega)).get
      exact ⟨k, by rw [e, if_neg h1, decide_eq_false h2]; exact h⟩
end Go.Proofs.YtjdafbgpckmieaaGreatDoor.QLex
