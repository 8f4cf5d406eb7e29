/-
  What the rows of this seat share: how an automaton's argument is read, what the listed tables hold, a world that meets it.
-/
import Derived.Test.YtjdafbgpckmieaaGreatDoorRows
import Derived.Test.YtjdafbgpckmieaaGreatDoorShX
import Derived.Test.YtjdafbgpckmieaaGreatDoorWWords
import Derived.WalkKit
import Derived.ProofKit
import Derived.OpenShut
import Derived.ShutString
import Derived.ChangeOld
import Derived.Below
import Derived.SizedLaws
import Derived.LaidHandle
import Derived.LaidLaws
import Derived.Handed
import Derived.Carry
import Derived.Lib.SmallJoins
import Derived.Deep.Matrix
import Derived.ChangeArms
set_option maxRecDepth 100000
set_option linter.unusedVariables false
set_option linter.unusedSimpArgs false
namespace Go.Proofs.YtjdafbgpckmieaaGreatDoor.ShR
open Go Go.ChangeShapes Go.WideShapes Go.ChangeAt Go.RowKit Go.Proofs.YtjdafbgpckmieaaGreatDoorW.PrintWords

theorem own : ownKnob Tryz.prog.godebug = none := by kernel_rfl
theorem laidOut : laidOutB Tryz.prog = true := by kernel_rfl

/-! ### the listed tables -/
def lay : List (String × DataW Unit) := [("math/bits.deBruijn32tab", Rows.laid_math_bits_deBruijn32tab), ("math/bits.deBruijn64tab", Rows.laid_math_bits_deBruijn64tab), ("internal/strconv.uint64pow10", Rows.laid_internal_strconv_uint64pow10)]

theorem arr_of_trod {H : Type} {enc : TypeId × Value → H} {P : Program} {w : World} {base : Nat} {sp : Nat → Bool} {held : Bool} {fuel : Nat} {t e : TypeId} {n : Nat} {k : IntKind} {cs : List Value} {d : DataW H} {p : List MemPlace}
    (ht : P.underlying t = some (.array n e)) (he : P.underlying e = some (.int k)) (ct : P.cellsOf t = n) (ce : P.cellsOf e = 1) (h : DataW.trod enc P w base sp held fuel t cs = some (d, p)) :
    ∃ ds, d = .agg ds ∧ ds.length = n ∧ ∀ i, i < n → ∃ m, cs[i]? = some (.int k m) ∧ ds[i]? = some (.lit (.int k m)) := by
  cases fuel with
  | zero => simp [DataW.trod] at h
  | succ fuel =>
    simp only [DataW.trod, ht, ct, ce] at h
    split at h
    · rename_i hl
      obtain ⟨xs, hx, hd⟩ := Option.map_eq_some_iff.1 h
      simp only [Prod.mk.injEq] at hd
      refine ⟨_, hd.1.symm, by rw [List.length_map]; simpa using mapM_some_length hx, fun i hi => ?_⟩
      have hg := mapM_some_get hx i i (by simp [hi])
      have hlx : i < xs.length := by have := mapM_some_length hx; simp at this; omega
      rw [List.getElem?_eq_getElem hlx] at hg
      obtain ⟨m, h1, h2, _⟩ := DataW.trod_int he hg
      have hi' : i < cs.length := by omega
      refine ⟨m, ?_, ?_⟩
      · have : (List.take 1 (List.drop i cs)) = [cs[i]] := by
          rw [List.drop_eq_getElem_cons hi']
          rfl
        rw [Nat.mul_one, this] at h1
        rw [List.getElem?_eq_getElem hi']
        simpa using h1
      · rw [List.getElem?_map, List.getElem?_eq_getElem hlx]
        simp [h2]
    · cases h

/-- the cells of a listed table -/
theorem cells_of {W : World} {name : String} {g : Nat} {t e : TypeId} {n : Nat} {k : IntKind} {l : List Int} {r : List (String × DataW Unit)} {ps : List MemPlace} (hg0 : Tryz.prog.globalNamed name = some g) (ht0 : (Tryz.prog.globals[g]?).map (·.type) = some t)
    (ht : Tryz.prog.underlying t = some (.array n e)) (he : Tryz.prog.underlying e = some (.int k)) (ct : Tryz.prog.cellsOf t = n) (ce : Tryz.prog.cellsOf e = 1)
    (h : DataW.LaidVars Tryz.prog W ((name, .agg (l.map fun m => .lit (.int k m))) :: r) ps) : (∃ q, DataW.LaidVars Tryz.prog W r q) ∧ ∀ i, i < n → ∃ m, l[i]? = some m ∧ W.cell? ⟨g, i, none⟩ = some (.int k m) := by
  obtain ⟨g', t', cs, fuel, p, q, hg, ht1, hvar, hd, hr, _⟩ := h
  obtain rfl := Option.some.inj (hg0.symm.trans hg)
  obtain rfl := Option.some.inj (ht0.symm.trans ht1)
  refine ⟨⟨q, hr⟩, fun i hi => ?_⟩
  obtain ⟨ds, d1, d2, d3⟩ := arr_of_trod ht he ct ce hd
  cases d1
  obtain ⟨m, m1, m2⟩ := d3 i hi
  rw [List.getElem?_map] at m2
  cases hl : l[i]? with
  | none => rw [hl] at m2; cases m2
  | some m' =>
    rw [hl] at m2
    simp only [Option.map_some, Option.some.injEq] at m2
    cases m2
    exact ⟨_, rfl, by rw [World.var?_cell hg hvar i, ← Array.getElem?_toList]; exact m1⟩

def l32 : List Int := [0, 1, 28, 2, 29, 14, 24, 3, 30, 22, 20, 15, 25, 17, 4, 8, 31, 27, 13, 23, 21, 19, 16, 7, 26, 12, 18, 6, 11, 5, 10, 9]
def l64 : List Int := [0, 1, 56, 2, 57, 49, 28, 3, 61, 58, 42, 50, 38, 29, 17, 4, 62, 47, 59, 36, 45, 43, 51, 22, 53, 39, 33, 30, 24, 18, 12, 5, 63, 55, 48, 27, 60, 41, 37, 16, 46, 35, 44, 21, 52, 32, 23, 11, 54, 26, 40, 15, 34, 20, 31, 10, 25, 14, 19, 9, 13, 8, 7, 6]
def lp10 : List Int := (List.range 20).map fun i => ((10 ^ i : Nat) : Int)
theorem tab_ok {w : World} {b n : Nat} {c : Go.Sh.Tr Go.Sh.AV} {k : IntKind} {l : List Int} (hc : (List.range n).all (fun i => match c.get i, l[i]? with | some (.int k' m), some m' => Nat.beq (Go.Sh.kNum k') (Go.Sh.kNum k) && Go.Sh.iEq m m' | _, _ => false) = true)
    (h : ∀ i, i < n → ∃ m, l[i]? = some m ∧ w.cell? ⟨b, i, none⟩ = some (.int k m)) : Go.Sh.Laid w b n c := by
  intro i hi
  have := List.all_eq_true.1 hc i (List.mem_range.2 hi)
  obtain ⟨m, m1, m2⟩ := h i hi
  rw [m1] at this
  split at this
  · rename_i k' m' m'' e1 e2
    cases e2
    simp only [Bool.and_eq_true] at this
    have hk := Go.Sh.kNum_inj this.1
    rw [Go.Sh.iEq_eq] at this
    have hm := eq_of_beq this.2
    subst hk; subst hm
    exact ⟨_, _, e1, rfl, m2⟩
  · cases this
theorem g32 : Tryz.prog.globalNamed "math/bits.deBruijn32tab" = some 3 := by kernel_rfl
theorem g64 : Tryz.prog.globalNamed "math/bits.deBruijn64tab" = some 0 := by kernel_rfl
theorem gp10 : Tryz.prog.globalNamed "internal/strconv.uint64pow10" = some 1 := by kernel_rfl
theorem t32 : (Tryz.prog.globals[3]?).map (·.type) = some 249 := by kernel_rfl
theorem t64 : (Tryz.prog.globals[0]?).map (·.type) = some 212 := by kernel_rfl
theorem tp10 : (Tryz.prog.globals[1]?).map (·.type) = some 244 := by kernel_rfl
theorem c249 : Tryz.prog.cellsOf 249 = 32 := by kernel_rfl
theorem c212 : Tryz.prog.cellsOf 212 = 64 := by kernel_rfl
theorem c244 : Tryz.prog.cellsOf 244 = 20 := by kernel_rfl
theorem c5 : Tryz.prog.cellsOf 5 = 1 := by kernel_rfl
theorem c110 : Tryz.prog.cellsOf 110 = 1 := by kernel_rfl
theorem laidR_of {W : World} (h : laidMetH Tryz.prog lay W) : Go.Sh.LaidR W := by
  obtain ⟨ps, hv, _⟩ : laidMet Tryz.prog lay W := h
  have e : lay = [("math/bits.deBruijn32tab", .agg (l32.map fun m => .lit (.int .u8 m))), ("math/bits.deBruijn64tab", .agg (l64.map fun m => .lit (.int .u8 m))), ("internal/strconv.uint64pow10", .agg (lp10.map fun m => .lit (.int .u64 m)))] := rfl
  rw [e] at hv
  obtain ⟨⟨q1, hv1⟩, h1⟩ := cells_of g32 t32 Tryz.underlying249 Tryz.underlying5 c249 c5 hv
  obtain ⟨⟨q2, hv2⟩, h2⟩ := cells_of g64 t64 Tryz.underlying212 Tryz.underlying5 c212 c5 hv1
  obtain ⟨_, h3⟩ := cells_of gp10 tp10 Tryz.underlying244 Tryz.underlying110 c244 c110 hv2
  exact ⟨tab_ok (by kernel_rfl) h2, tab_ok (by kernel_rfl) h3, tab_ok (by kernel_rfl) h1⟩

/-- a world that meets the condition -/
def setG (h : Array Obj) (g : Nat) (l : Array Value) : Array Obj := h.modify g fun o => match o with
  | .cells _ t frozen => .cells l t frozen
  | o => o
noncomputable def laidWorld (os : Os) : World :=
  { World.holding Tryz.prog os ⟨#[], #[], []⟩ with heap := setG (setG (setG (World.holding Tryz.prog os ⟨#[], #[], []⟩).heap 0 (l64.map (Value.int .u8)).toArray) 1 (lp10.map (Value.int .u64)).toArray) 3 (l32.map (Value.int .u8)).toArray }
theorem laidWorld_met (os : Os) (args : Array Value) : laidMetH Tryz.prog lay ((laidWorld os).forCall (fun _ _ => 0) ⟨#[], args, []⟩).memory := by
  refine laidMetH_of_parts (laidMet_of_run' 8 ?_ ?_) ?_
  · kernel_rfl
  · kernel_rfl
  · kernel_rfl

/-! ### an automaton's argument -/
/-- what is read of it -/
def DfaIn (W : World) (v : Value) (rows : List (List Int)) (acc : List Int) : Prop :=
  ∃ A0 c0 A1 c1, v = .agg #[.slice A0 rows.length c0, .slice A1 acc.length c1] ∧ Kd.C (Kd.slice 3 (Kd.int .i64)) W A0 rows.length rows ∧ rows.length ≤ c0 ∧ Kd.C (Kd.int .i64) W A1 acc.length acc ∧ acc.length ≤ c1
structure DfaWf (rows : List (List Int)) (acc : List Int) : Prop where
  len : rows.length ≤ maxLen
  alen : acc.length ≤ maxLen
  rlen : ∀ r ∈ rows, r.length ≤ maxLen
  wf : ∀ r ∈ rows, ∀ x ∈ r, (Lit.int .i64 x).wf = true
  awf : ∀ x ∈ acc, (Lit.int .i64 x).wf = true

theorem ints_in {H : Type} {enc : TypeId × Value → H} {W : World} {base fuel : Nat} {held : Bool} {v : Value} {y : DataW H × List MemPlace} (h : DataW.trod enc Tryz.prog W base (fun _ => true) held fuel 23 [v] = some y) :
    ∃ A c l, v = .slice A (List.length l) c ∧ Kd.C (Kd.int .i64) W A l.length l ∧ l.length ≤ c ∧ l.length ≤ maxLen ∧ ∀ x ∈ l, (Lit.int .i64 x).wf = true := by
  rcases open_ints Tryz.underlying23 Tryz.underlying3 (by kernel_rfl) h with ⟨hcs, _⟩ | ⟨x, l, c, zs, hcs, _, hl, hm, hz, _, hcell, hwz⟩
  · simp only [List.cons.injEq, and_true] at hcs
    subst hcs
    exact ⟨none, 0, [], rfl, Kd.C_nil _ _, Nat.le_refl _, Nat.zero_le _, fun x hx => by cases hx⟩
  · simp only [List.cons.injEq, and_true] at hcs
    subst hcs
    simp only [if_true] at hz
    obtain ⟨l', e, h1, h2, h3, h4⟩ := ReadsInt.ofRowC (w := W) (k := .i64) (a := some x) (len := l) (cap := c) (zs := zs) (.inr ⟨x, rfl, hl, hm, hz, hcell, hwz⟩)
    subst e
    exact ⟨some x, c, l', rfl, Kd.C_of_reads (d := (0 : Int)) (h1 := fun _ => rfl) h1, h4, h2, h3⟩
theorem rows_in {H : Type} {enc : TypeId × Value → H} {W : World} {base fuel : Nat} {held : Bool} {v : Value} {y : DataW H × List MemPlace} (h : DataW.trod enc Tryz.prog W base (fun _ => true) held fuel 22 [v] = some y) :
    ∃ A c l, v = .slice A (List.length l) c ∧ Kd.C (Kd.slice 3 (Kd.int .i64)) W A l.length l ∧ l.length ≤ c ∧ l.length ≤ maxLen ∧ (∀ r ∈ l, r.length ≤ maxLen) ∧ ∀ r ∈ l, ∀ x ∈ r, (Lit.int .i64 x).wf = true := by
  rcases Go.Deep.open_int_rows Tryz.underlying22 Tryz.underlying23 Tryz.underlying3 (by kernel_rfl) (by kernel_rfl) h with ⟨hcs, _⟩ | ⟨a, len, cap, A, L, C, Z, hcs, _, hl, hm, _, hr⟩
  · simp only [List.cons.injEq, and_true] at hcs
    subst hcs
    exact ⟨none, 0, [], rfl, Kd.C_nil _ _, Nat.le_refl _, Nat.zero_le _, fun x hx => (by cases hx), fun x hx => (by cases hx)⟩
  · simp only [List.cons.injEq, and_true] at hcs
    subst hcs
    have hmem : ∀ r ∈ (List.range len).map (fun j => (Z j).take (L j)), ∃ j, j < len ∧ r = (Z j).take (L j) := fun r hr' => by
      obtain ⟨j, j1, j2⟩ := List.mem_map.1 hr'
      exact ⟨j, List.mem_range.1 j1, j2.symm⟩
    have hlen : ∀ j, j < len → ((Z j).take (L j)).length = L j := fun j hj => by
      obtain ⟨_, h2, _, h4, _⟩ := hr j (by omega)
      rw [List.length_take]; omega
    refine ⟨some a, cap, (List.range len).map (fun j => (Z j).take (L j)), by simp, ?_, by simpa using hl, by simp; omega, fun r hr' => ?_, fun r hr' x hx => ?_⟩
    · refine ⟨by simp, by unfold maxLen at hm; simp; omega, fun hn => ⟨a, rfl, fun j p hj => ?_⟩⟩
      have hjl : j < len := by have := (List.getElem?_eq_some_iff.1 hj).1; simpa using this
      have hp : p = (Z j).take (L j) := by
        rw [List.getElem?_map, List.getElem?_range hjl] at hj
        simpa using hj.symm
      obtain ⟨r1, r2, r3, r4, r5, r6, r7⟩ := hr j (by omega)
      have hpl : p.length = L j := by rw [hp]; exact hlen j hjl
      refine ⟨[.slice (A j) p.length (C j)], rfl, ⟨A j, C j, rfl, by omega, ?_⟩, fun i u hi => ?_⟩
      · refine ⟨rfl, by unfold maxLen at r3; omega, fun hpos => ?_⟩
        cases hA : A j with
        | none => have := r6 hA; omega
        | some a' =>
          obtain ⟨_, q2⟩ := r7 a' hA
          refine ⟨a', rfl, fun i x hi => ⟨[.int .i64 x], rfl, rfl, fun i' u hu => ?_⟩⟩
          have hil : i < L j := by have := (List.getElem?_eq_some_iff.1 hi).1; omega
          have hx : (Z j).getD i 0 = x := by
            rw [hp, List.getElem?_take_of_lt hil] at hi
            rw [List.getD_eq_getElem?_getD, hi]; rfl
          have hi0 : i' = 0 := by
            rcases Nat.eq_zero_or_pos i' with k | k
            · exact k
            · rw [List.getElem?_eq_none (by simp; omega)] at hu; cases hu
          subst hi0
          simp only [List.getElem?_cons_zero, Option.some.injEq] at hu
          subst hu
          have := q2 i (by omega)
          rw [hx] at this
          simpa [Kd.int, Kd.scalar] using this
      · have hi0 : i = 0 := by
          rcases Nat.eq_zero_or_pos i with k | k
          · exact k
          · rw [List.getElem?_eq_none (by simp; omega)] at hi; cases hi
        subst hi0
        simp only [List.getElem?_cons_zero, Option.some.injEq] at hi
        subst hi
        rw [hpl]
        simpa [Kd.slice] using r1
    · obtain ⟨j, j1, rfl⟩ := hmem r hr'
      rw [hlen j j1]
      obtain ⟨_, r2, r3, _⟩ := hr j (by omega)
      omega
    · obtain ⟨j, j1, rfl⟩ := hmem r hr'
      obtain ⟨_, _, _, _, r5, _⟩ := hr j (by omega)
      exact r5 x (List.mem_of_mem_take hx)
theorem dfa_in {H : Type} {enc : TypeId × Value → H} {W : World} {base : Nat} {held : Bool} {v : Value} {d : DataW H} {p : List MemPlace} (hv : Value.okWide Tryz.prog W .any base 25 v) (h : DataW.Trod enc Tryz.prog W 0 (fun _ => true) held 25 v d p) :
    ∃ rows acc, DfaIn W v rows acc ∧ DfaWf rows acc := by
  obtain ⟨v0, v1, y0, y1, n, rfl, rfl, rfl, h0, h1⟩ := Go.Joins.open_agg2 Tryz.underlying25 (by kernel_rfl) (by kernel_rfl) hv h
  obtain ⟨A0, c0, l0, rfl, a1, a2, a3, a4, a5⟩ := rows_in h0
  obtain ⟨A1, c1, l1, rfl, b1, b2, b3, b4⟩ := ints_in h1
  exact ⟨l0, l1, ⟨A0, c0, A1, c1, rfl, a1, a2, b1, b2⟩, a3, b3, a4, a5, b4⟩
end Go.Proofs.YtjdafbgpckmieaaGreatDoor.ShR
