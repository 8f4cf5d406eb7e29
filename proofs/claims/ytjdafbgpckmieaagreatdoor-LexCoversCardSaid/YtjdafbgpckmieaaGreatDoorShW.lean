/-
  The evaluator at this seat's program: a closed run that ends tells what the call answers, if the listed tables hold what the text lays.
-/
import Derived.Test.YtjdafbgpckmieaaGreatDoorShV
set_option maxRecDepth 100000
set_option linter.unusedVariables false
set_option linter.unusedSimpArgs false
namespace Go.Sh
open Go Go.Proofs

theorem dfr92 (w0 : World) : DfrR Tryz.prog w0 92 := fun args w => by
  refine ⟨run_enter Tryz.func92 (by kernel_rfl) rfl args w, ?_⟩
  refine callsD_of_wpS Tryz.func92 rfl fun c₀ cs hu => ?_
  rw [show Tryz.f92.ntmps = 12 from rfl]
  have hT : 12 ≤ (args ++ Array.replicate (12 - args.size) undef).size := by simp; omega
  generalize args ++ Array.replicate (12 - args.size) undef = T at hT
  have i3 : 3 < T.size := by omega
  have i4 : 4 < T.size := by omega
  have i5 : 5 < T.size := by omega
  have i6 : 6 < T.size := by omega
  have i7 : 7 < T.size := by omega
  have i8 : 8 < T.size := by omega
  have i9 : 9 < T.size := by omega
  have i10 : 10 < T.size := by omega
  clear hT
  have ta : ∀ w, (Instr.typeAssert .nilIface 20 154 true).run Tryz.prog w = .ok (.tuple #[.int .i64 0, .bool false]) w := fun _ => by kernel_rfl
  apply wpS_seq
  apply wpS_region
  simp [wpOpsS, go_sem, recoverD, hu, Exit.thenS, i3, i4, i5, i6, i7, i8, i9, i10, ta]
  apply wpS_seq
  apply wpS_region
  simp [wpOpsS, go_sem, Exit.thenS, i3, i4, i5, i6, i7, i8, i9, i10]
  refine wpS_cond (t := false) (by simp [Act.eval, i3, i4, i5, i6, i7, i8, i9, i10]) ?_
  apply wpS_of_wp
  apply wp_skip
  simp [bodyPostS, results, Tryz.results92, go_sem]
  cases c₀
  cases hu
  rfl

theorem extR : ∀ f e, extTab.get f = some e → ExtR Tryz.prog f e := fun f e h => by
  refine trAll_ok (p := ExtR Tryz.prog) (t := extTab) (k := id) ?_ f e h
  unfold extTab
  simp only [trAll, id, and_true, true_and]
  repeat' (first | exact trNone | exact trOne ext153 | exact trOne ext191 | constructor)
theorem dfrR (w0 : World) : ∀ g, dfrTab.get g = some () → DfrR Tryz.prog w0 g := fun g h => by
  have := trAll_ok (p := fun n (_ : Unit) => n = 92) (t := dfrTab) (k := id) (by
    unfold dfrTab
    simp [trAll]) g () h
  have h2 : g = 92 := this
  subst h2
  exact dfr92 w0
theorem mixed : Tryz.prog.follows .mixedOrders = true := by kernel_rfl
theorem tabR (w0 : World) : TabR Tryz.prog cxT G0 w0 := ⟨tysR, eqs, fnsR, extR, dfrR w0, mixed⟩

/-! ### where a call begins -/
def ρS : Rho := fun o => match o with | 0 => some ⟨0, 0, 0⟩ | 1 => some ⟨1, 0, 0⟩ | 3 => some ⟨3, 0, 0⟩ | _ => none
theorem globR : GlobR G0 ρS := fun g hg => by
  unfold G0 at hg
  split at hg <;> first | exact ⟨0, rfl⟩ | cases hg
/-- a table's cells, as the memory has them -/
def Laid (w : World) (b len : Nat) (c : Tr AV) : Prop := ∀ i, i < len → ∃ a v, c.get i = some a ∧ conc ρ0 a = some v ∧ w.cell? ⟨b, i, none⟩ = some v
structure LaidR (w : World) : Prop where
  deb64 : Laid w 0 64 deb64T
  p10 : Laid w 1 20 p10T
  deb32 : Laid w 3 32 deb32T
theorem start_one {w : World} {ρ : Rho} {b len : Nat} {c : Tr AV} (h : Laid w b len c) (hl : 0 < len) : ObjR (fun b => w.heap[b]?) ρ w ⟨b, 0, 0⟩ (.cells false 0 len [] c) := by
  refine (show CellsR _ _ _ _ _ _ _ _ _ from ⟨?_, fun i hi => ?_, fun e => by cases e⟩)
  · obtain ⟨a, v, _, _, h3⟩ := h 0 hl
    have hb : w.heap[b]? ≠ none := fun e => by simp [World.cell?, e] at h3
    rcases Nat.lt_or_ge b w.heap.size with k | k
    · exact k
    · exact absurd (Array.getElem?_eq_none k) hb
  · obtain ⟨a, v, h1, h2, h3⟩ := h i hi
    refine ⟨a, v, ?_, conc_ρ0 h2, by simpa using h3⟩
    rw [cellZ_eq, if_pos hi, h1]
theorem start {w : World} (L : LaidR w) : HR w (fun b => w.heap[b]?) ρS h0 w := by
  have get : ∀ o, h0.get o = .dead ∨ (o = 0 ∧ h0.get o = .cells false 0 64 [] deb64T) ∨ (o = 1 ∧ h0.get o = .cells false 0 20 [] p10T) ∨ (o = 3 ∧ h0.get o = .cells false 0 32 [] deb32T) := fun o => by
    match o with
    | 0 => exact .inr (.inl ⟨rfl, rfl⟩)
    | 1 => exact .inr (.inr (.inl ⟨rfl, rfl⟩))
    | 2 => exact .inl rfl
    | 3 => exact .inr (.inr (.inr ⟨rfl, rfl⟩))
    | n + 4 =>
      left
      have : h0.objs.get (n + 4) = none := by
        unfold h0
        show (Tr.node _ _ _).get (n + 3 + 1) = none
        rw [Tr.get_node_succ]
        split
        · rename_i hm
          obtain ⟨k, hk⟩ : ∃ k, (n + 3) / 2 = k + 1 := ⟨(n + 3) / 2 - 1, by omega⟩
          rw [hk, Tr.get_node_succ]
          split
          · obtain ⟨j, hj⟩ : ∃ j, k / 2 = j + 1 := ⟨k / 2 - 1, by omega⟩
            rw [hj, Tr.get_node_succ]
            split <;> rfl
          · rfl
        · rfl
      unfold AH.get
      rw [this]
  refine ⟨rfl, rfl, rfl, Nat.le_refl _, fun b x h => h, fun o ho => ?_, fun o ho => ?_, fun o o' p p' hO _ _ _ _ => ?_⟩
  · have ho : 4 ≤ o := ho
    refine ⟨?_, ?_⟩
    · match o, ho with
      | n + 4, _ => rfl
    · rcases get o with h | ⟨h, _⟩ | ⟨h, _⟩ | ⟨h, _⟩ <;> first | exact h | omega
  · rcases get o with h | ⟨rfl, h⟩ | ⟨rfl, h⟩ | ⟨rfl, h⟩
    · exact absurd h ho
    · exact ⟨⟨0, 0, 0⟩, rfl, by rw [h]; exact start_one L.deb64 (by omega)⟩
    · exact ⟨⟨1, 0, 0⟩, rfl, by rw [h]; exact start_one L.p10 (by omega)⟩
    · exact ⟨⟨3, 0, 0⟩, rfl, by rw [h]; exact start_one L.deb32 (by omega)⟩
  · exfalso
    rcases get o with h | ⟨_, h⟩ | ⟨_, h⟩ | ⟨_, h⟩ <;> rw [h] at hO <;> cases hO

/-- A FUNCTION WITHOUT ARGUMENTS THAT THE READING ANSWERS BY true: what it turns is new -/
theorem runs_true {f : FuncId} {n : Nat} (e : (match callA cxT n f [] h0 with | some (.bool true, _) => true | _ => false) = true) (w : World) (L : LaidR w) :
    Calls Tryz.prog f #[] w fun e w' => e = .returned (.bool true) ∧ w'.os = w.os ∧ w'.tape = w.tape ∧ w'.output = w.output ∧ w.heap.size ≤ w'.heap.size ∧ ∀ b, b < w.heap.size → w'.heap[b]? = w.heap[b]? := by
  cases hc : callA cxT n f [] h0 with
  | none => rw [hc] at e; cases e
  | some p =>
    obtain ⟨v, h'⟩ := p
    rw [hc] at e
    cases v <;> first | (cases e; done) | skip
    rename_i b
    cases b <;> first | (cases e; done) | skip
    refine (callA_ok (tabR w) hc (vs := []) (start L) globR rfl).mono fun e' w' hh => ?_
    obtain ⟨x, ρ', rfl, _, hx, H⟩ := hh
    simp only [conc, Option.some.injEq] at hx
    subst hx
    exact ⟨rfl, H.os, H.tape, H.output, H.size, fun b hb => by
      obtain ⟨y, hy⟩ : ∃ y, w.heap[b]? = some y := ⟨w.heap[b], Array.getElem?_eq_getElem hb⟩
      rw [hy]
      exact H.frame b y hy⟩
end Go.Sh
