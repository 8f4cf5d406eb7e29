/-
  LexCovers, in plain words: the tokens cover the text, and from any of them on the rest has the rest.
-/
import Derived.Test.YtjdafbgpckmieaaGreatDoorQLexP
import Derived.Test.YtjdafbgpckmieaaGreatDoorQLexf7
import Derived.Test.YtjdafbgpckmieaaGreatDoorShP3
set_option linter.unusedVariables false
set_option linter.unusedSimpArgs false
namespace Go.Proofs.YtjdafbgpckmieaaGreatDoor.QLex
open Go.RowKit Go.Proofs.YtjdafbgpckmieaaGreatDoorW.PrintWords Go.Sh.Pl


/-! ### the tokens cover the text, and from the end of any of them on the rest has the rest -/
theorem rdT {qs : List (Int × Nat × Nat × Nat)} {i : Nat} (h : i < qs.length) : rd_T45 (qs.map tkS) (i : Int) = tkS qs[i] := by
  rw [rd45 (by simpa using h), List.getElem_map]
theorem cov_l1 {qs ms : List (Int × Nat × Nat × Nat)} {n0 c : Nat} (hq : qs.drop n0 = ms.map (shf c)) (hl : qs.length ≤ 200) (hb : ∀ q ∈ qs, q.2.1 ≤ 200) : ∀ (d i : Nat), i + d = ms.length → Evn (fun k => topiarylaw10_LexCovers.l1 k (qs.map tkS) (n0 : Int) (c : Int) (ms.map tkS) (ms.length : Int) (i : Int)) true
  | 0, i, h => Evn.const fun k => by simp only [topiarylaw10_LexCovers.l1]; rw [if_neg (by omega)]
  | d + 1, i, h => by
    have hi : i < ms.length := by omega
    have hlen : (qs.drop n0).length = ms.length := by rw [hq]; simp
    rw [List.length_drop] at hlen
    have hqi : n0 + i < qs.length := by omega
    have he : qs[n0 + i] = shf c ms[i] := by
      have := congrArg (fun l => l[i]?) hq
      simp only [List.getElem?_drop, List.getElem?_map, List.getElem?_eq_getElem hqi, List.getElem?_eq_getElem hi, Option.map_some] at this
      exact Option.some.inj this
    have hbi := hb _ (List.getElem_mem hqi)
    rw [he] at hbi
    refine Evn.succ (fun k => ?_) (cov_l1 hq hl hb d (i + 1) (by omega))
    have hw : wrap64 ((n0 : Int) + (i : Int)) = ((n0 + i : Nat) : Int) := by unfold wrap64; omega
    simp only [topiarylaw10_LexCovers.l1, hw, rdT hqi, rdT hi, he]
    have hbi' : ms[i].2.1 + c ≤ 200 := hbi
    rw [if_pos (by omega), if_pos (by omega), if_pos (by simp; omega), if_pos (by omega), if_pos (by simp; omega), if_pos (show (tkS ms[i]).f0 = (tkS (shf c ms[i])).f0 from rfl), if_pos (show (tkS ms[i]).f2 = (tkS (shf c ms[i])).f2 from rfl), if_pos (show wrap64 ((tkS ms[i]).f1 + (c : Int)) = (tkS (shf c ms[i])).f1 by show wrap64 ((ms[i].2.1 : Int) + (c : Int)) = ((ms[i].2.1 + c : Nat) : Int); unfold wrap64; omega), wrap_succ (m := 1000) (by omega) (by omega)]
theorem cov_l0 {rows : LLi} {acc : List Int} {s : ByteArray} {x2 e : Int} {qs : List (Int × Nat × Nat × Nat)} (hs : s.size ≤ 200) (hl : qs.length ≤ 200) (H : Evn (fun k => topiarylaw10_LexCovers.j2 k s x2 (qs.map tkS) false rows acc) true) : ∀ (d i a : Nat), i + d = qs.length → a ≤ s.size → chainOk s.size a (qs.drop i) → (e = -1 → endOf a (qs.drop i) = s.size) → (e ≠ -1 → e = (endOf a (qs.drop i) : Int)) →
    Evn (fun k => topiarylaw10_LexCovers.l0 k s x2 (qs.map tkS) e (a : Int) (qs.map tkS) (qs.length : Int) (i : Int) rows acc) true
  | 0, i, a, h, ha, hc, h1, h2 => by
    rw [List.drop_eq_nil_of_le (by omega)] at h1 h2
    refine Evn.succ (fun k => ?_) H
    simp only [topiarylaw10_LexCovers.l0]
    rw [if_neg (by omega)]
    by_cases he : e = -1
    · have := h1 he
      simp only [endOf] at this
      rw [if_pos he, if_pos (by omega)]
    · have := h2 he
      simp only [endOf] at this
      rw [if_neg he, show (e != (a : Int)) = false by rw [this]; simp]
  | d + 1, i, a, h, ha, hc, h1, h2 => by
    have hi : i < qs.length := by omega
    rw [List.drop_eq_getElem_cons hi] at hc h1 h2
    obtain ⟨c1, c2, c3, c4⟩ := hc
    refine Evn.succ (fun k => ?_) (cov_l0 hs hl H d (i + 1) (a + qs[i].2.2.1) (by omega) c3 c4 h1 h2)
    have hw : wrap64 ((a : Int) + (qs[i].2.2.1 : Int)) = ((a + qs[i].2.2.1 : Nat) : Int) := by unfold wrap64; omega
    have hw2 : wrap64 ((s.size : Int) - (a : Int)) = ((s.size - a : Nat) : Int) := by unfold wrap64; omega
    simp only [topiarylaw10_LexCovers.l0, rdT hi, tkS, hw, hw2]
    rw [if_pos (by omega), if_pos (by omega), if_pos (by simp; omega), if_pos (by omega), if_neg (by omega), if_neg (by omega), wrap_succ (m := 1000) (by omega) (by omega)]
theorem cov_j2 {rows : LLi} {acc : List Int} (R : RightP rows acc) (s : ByteArray) (hs : s.size ≤ 200) (x2 : Int) (h0 : 0 ≤ x2) (h1 : x2 < 256) : Evn (fun k => topiarylaw10_LexCovers.j2 k s x2 ((cutS rows acc s.size 0 s.data.toList).1.map tkS) false rows acc) true := by
  have hlen := cutS_len (rows := rows) (acc := acc) s.size 0 s.data.toList
  have hL : s.data.toList.length = s.size := by simp
  have hch := (cutS_chain (rows := rows) (acc := acc) s.size s.size 0 s.data.toList (by omega)).1
  by_cases hn : (cutS rows acc s.size 0 s.data.toList).1.length = 0
  · refine Evn.const fun k => ?_
    simp only [topiarylaw10_LexCovers.j2]
    rw [if_neg (by simp), if_pos (by simp only [List.length_map]; omega)]
  · have hw : wrap64 x2 = x2 := by unfold wrap64; omega
    obtain ⟨x, rfl⟩ := Int.eq_ofNat_of_zero_le h0
    generalize hn0 : x % (cutS rows acc s.size 0 s.data.toList).1.length = n0
    have hn0l : n0 < (cutS rows acc s.size 0 s.data.toList).1.length := by rw [← hn0]; exact Nat.mod_lt _ (by omega)
    have htm : Int.tmod (x : Int) ((cutS rows acc s.size 0 s.data.toList).1.length : Int) = (n0 : Int) := by rw [← hn0]; exact (Int.ofNat_tmod _ _).symm
    obtain ⟨d1, d2, d3⟩ := cutS_drop (rows := rows) (acc := acc) n0 s.size 0 s.data.toList (by omega) hn0l
    have hb : ∀ q ∈ (cutS rows acc s.size 0 s.data.toList).1, q.2.1 ≤ 200 := fun q hq => by have := chain_le hch q hq; omega
    have hfl := chain_le hch _ (List.getElem_mem hn0l)
    generalize hc : ((cutS rows acc s.size 0 s.data.toList).1[n0]).2.1 = c at d1 d2 d3 hfl
    have hex : (s.extract c s.size).data.toList = s.data.toList.drop c := by
      rw [extract_list s c s.size (Nat.le_refl _), List.take_of_length_le (by simp)]
    have hexs : (s.extract c s.size).size = s.size - c := extract_size s c s.size (Nat.le_refl _)
    have HA := All_ev _ (all_ev R (s.extract c s.size) (by omega))
    rw [hex, hexs] at HA
    have hq : (cutS rows acc s.size 0 s.data.toList).1.drop n0 = (cutS rows acc (s.size - c) 0 (s.data.toList.drop c)).1.map (shf c) := by
      rw [d3, Nat.sub_zero, cutS_fuel s.size (s.size - c) c (s.data.toList.drop c) (by simp <;> omega) (by simp <;> omega)]
      have := cutS_shift (rows := rows) (acc := acc) (s.size - c) 0 c (s.data.toList.drop c)
      rw [Nat.zero_add] at this
      exact this
    have hm : (cutS rows acc (s.size - c) 0 (s.data.toList.drop c)).1.length = (cutS rows acc s.size 0 s.data.toList).1.length - n0 := by
      have := congrArg List.length hq
      simp only [List.length_drop, List.length_map] at this
      omega
    generalize (cutS rows acc (s.size - c) 0 (s.data.toList.drop c)).2 = e2 at HA
    generalize (cutS rows acc (s.size - c) 0 (s.data.toList.drop c)).1 = ms at HA hq hm
    have hrd : (rd_T45 ((cutS rows acc s.size 0 s.data.toList).1.map tkS) (n0 : Int)).f1 = (c : Int) := by rw [rdT hn0l, ← hc]; rfl
    generalize (cutS rows acc s.size 0 s.data.toList).1 = qs at *
    refine Evn.succ (h := fun k => (lex_All.f k rows acc (s.extract c s.size)).bind fun bt145 => (if (bt145.1.length : Int) = (wrap64 ((qs.length : Int) - (n0 : Int))) then (topiarylaw10_LexCovers.l1 k (qs.map tkS) (n0 : Int) (c : Int) bt145.1 (bt145.1.length : Int) 0) else (some false))) (fun k => ?_) ?_
    · simp only [topiarylaw10_LexCovers.j2, hw, List.length_map, htm, hrd]
      rw [if_neg (by simp), if_neg (by omega), if_pos (by omega), if_pos (by omega), if_pos (by omega), if_pos (by omega)]
      rfl
    · refine HA.bind (f := fun k bt145 => if (bt145.1.length : Int) = (wrap64 ((qs.length : Int) - (n0 : Int))) then (topiarylaw10_LexCovers.l1 k (qs.map tkS) (n0 : Int) (c : Int) bt145.1 (bt145.1.length : Int) 0) else (some false)) ?_
      refine Evn.same (fun k => ?_) (cov_l1 hq (by omega) hb ms.length 0 (by omega))
      simp only [List.length_map]
      rw [if_pos (by unfold wrap64; omega)]
      rfl
theorem lawCov_j0 (rows : LLi) (acc : List Int) (s : ByteArray) (hs : s.size ≤ 200) (x2 : Int) (h0 : 0 ≤ x2) (h1 : x2 < 256) : Evn (fun k => topiarylaw10_LexCovers.j0 k s x2 false rows acc) true := by
  have st : ∀ k, topiarylaw10_LexCovers.j0 (k + 1) s x2 false rows acc = (lex_All.f k rows acc s).bind fun bt138 => (topiarylaw10_LexCovers.l0 k s x2 bt138.1 bt138.2 0 bt138.1 (bt138.1.length : Int) 0 rows acc) := fun k => by simp only [topiarylaw10_LexCovers.j0]; simp
  cases hR : rightS rows acc with
  | false =>
    refine Evn.succ st ((All_ev s (all_bad s hR)).bind (f := fun k bt138 => topiarylaw10_LexCovers.l0 k s x2 bt138.1 bt138.2 0 bt138.1 (bt138.1.length : Int) 0 rows acc) ?_)
    exact cov_l0 (qs := []) (e := 0) hs (by simp) (Evn.const fun k => by simp only [topiarylaw10_LexCovers.j2]; simp) 0 0 0 (by simp) (by omega) trivial (by omega) (fun _ => rfl)
  | true =>
    have R := rightS_iff.1 hR
    have hlen := cutS_len (rows := rows) (acc := acc) s.size 0 s.data.toList
    obtain ⟨c1, c2, c3⟩ := cutS_chain (rows := rows) (acc := acc) s.size s.size 0 s.data.toList (by simp)
    refine Evn.succ st ((All_ev s (all_ev R s hs)).bind (f := fun k bt138 => topiarylaw10_LexCovers.l0 k s x2 bt138.1 bt138.2 0 bt138.1 (bt138.1.length : Int) 0 rows acc) ?_)
    have := cov_l0 (rows := rows) (acc := acc) (s := s) (x2 := x2) (e := (cutS rows acc s.size 0 s.data.toList).2) hs (by omega) (cov_j2 R s hs x2 h0 h1) (cutS rows acc s.size 0 s.data.toList).1.length 0 0 (by omega) (by omega) (by rw [List.drop_zero]; exact c1) (by rw [List.drop_zero]; exact c2 (by simp)) (by rw [List.drop_zero]; exact c3)
    simpa using this
theorem lawCov (rows : LLi) (acc : List Int) (s : ByteArray) (x2 : Int) (hs : s.size ≤ 140737488351232) (hx : (Lit.int .u8 x2).wf = true) : ∃ k, topiarylaw10_LexCovers.f k rows acc s x2 = some true := by
  have hr : 0 ≤ x2 ∧ x2 < 256 := by
    simp [Lit.wf, IntKind.min, IntKind.max, IntKind.signed, IntKind.bits] at hx
    omega
  have hw : topiarylaw10_wakes.f = some true := by unfold topiarylaw10_wakes.f; first | rfl | (rw [if_pos (by omega)])
  have e : ∀ k, topiarylaw10_LexCovers.f k rows acc s x2 = if (s.size : Int) > 200 then (topiarylaw10_LexCovers.j0 k s x2 true rows acc) else (topiarylaw10_LexCovers.j0 k s x2 (decide ((rows.length : Int) > 300)) rows acc) := fun k => by
    unfold topiarylaw10_LexCovers.f
    rw [hw]
    rfl
  have yes : ∃ k, topiarylaw10_LexCovers.j0 k s x2 true rows acc = some true := ⟨1, by simp [topiarylaw10_LexCovers.j0]⟩
  by_cases h1 : (s.size : Int) > 200
  · obtain ⟨k, h⟩ := yes
    exact ⟨k, by rw [e, if_pos h1]; exact h⟩
  · by_cases h2 : (rows.length : Int) > 300
    · obtain ⟨k, h⟩ := yes
      exact ⟨k, by rw [e, if_neg h1, decide_eq_true h2]; exact h⟩
    · obtain ⟨k, h⟩ := (lawCov_j0 rows acc s (by omega) x2 hr.1 hr.2).get
      exact ⟨k, by rw [e, if_neg h1, decide_eq_false h2]; exact h⟩
end Go.Proofs.YtjdafbgpckmieaaGreatDoor.QLex
