/-
  The abstract evaluator of closed calls, part 1: sound on every tape. Texts joined by a program.
-/
import Derived.Test.YtjdafbgpckmieaaGreatDoorShA
import Derived.WalkKit
import Derived.Laws.CopyRow
import Derived.Laws.StructEq
import Derived.Lib.UnsafeStr
import Derived.Lib.Builder
import Derived.Laws.LoneSync
import Derived.MapKept
import Derived.Deep.AppendSrc
set_option linter.unusedVariables false
set_option linter.unusedSimpArgs false
section
namespace Go.Sh
open Go
structure Pl where
  b : Nat
  off : Nat
  E : Nat
abbrev Rho := Nat → Option Pl

mutual
def conc (ρ : Rho) : AV → Option Value
  | .int k n => some (.int k n)
  | .bool b => some (.bool b)
  | .ptr o i => match ρ o with | some p => some (.pointer (some ⟨p.b, p.off + i, none⟩)) | none => none
  | .slice o i n (.ex c) => match ρ o with | some p => some (.slice (some ⟨p.b, p.off + i, none⟩) n c) | none => none
  | .slice o i n (.op e) => match ρ o with | some p => some (.slice (some ⟨p.b, p.off + i, none⟩) n ((p.E - i) / e)) | none => none
  | .agg l => match concL ρ l with | some vs => some (.agg vs.toArray) | none => none
  | .oth (.str s) => some (.string ⟨s.toArray⟩)
  | .oth .nilPtr => some (.pointer none)
  | .oth .nilSlice => some (.slice none 0 0)
  | .oth .nilMap => some (.map none)
  | .oth .nilFunc => some .nilFunc
  | .oth .nilIface => some .nilIface
  | .oth (.map o) => match ρ o with | some p => some (.map (some p.b)) | none => none
  | .tup l => match concL ρ l with | some vs => some (.tuple vs.toArray) | none => none
  | .func f a b => match concL ρ a, concL ρ b with | some x, some y => some (.func f x.toArray y.toArray) | _, _ => none
  | .iface t v => match conc ρ v with | some x => some (.iface t x) | none => none
def concL (ρ : Rho) : List AV → Option (List Value)
  | [] => some []
  | a :: l => match conc ρ a, concL ρ l with | some v, some vs => some (v :: vs) | _, _ => none
end

def Ext' (ρ ρ' : Rho) : Prop := ∀ o p, ρ o = some p → ρ' o = some p

mutual
theorem conc_mono {ρ ρ' : Rho} (h : Ext' ρ ρ') : ∀ (a : AV) (v : Value), conc ρ a = some v → conc ρ' a = some v
  | .int k n, v => by simp [conc]
  | .bool b, v => by simp [conc]
  | .ptr o i, v => by
    cases hp : ρ o with
    | none => simp [conc, hp]
    | some p => simp [conc, hp, h o p hp]
  | .slice o i n (.ex c), v => by
    cases hp : ρ o with
    | none => simp [conc, hp]
    | some p => simp [conc, hp, h o p hp]
  | .slice o i n (.op c), v => by
    cases hp : ρ o with
    | none => simp [conc, hp]
    | some p => simp [conc, hp, h o p hp]
  | .agg l, v => by
    cases hl : concL ρ l with
    | none => simp [conc, hl]
    | some vs => simp [conc, hl, concL_mono h l vs hl]
  | .oth (.str s), v => by simp [conc]
  | .oth .nilPtr, v => by simp [conc]
  | .oth .nilSlice, v => by simp [conc]
  | .oth .nilMap, v => by simp [conc]
  | .oth .nilFunc, v => by simp [conc]
  | .oth .nilIface, v => by simp [conc]
  | .oth (.map o), v => by
    cases hp : ρ o with
    | none => simp [conc, hp]
    | some p => simp [conc, hp, h o p hp]
  | .tup l, v => by
    cases hl : concL ρ l with
    | none => simp [conc, hl]
    | some vs => simp [conc, hl, concL_mono h l vs hl]
  | .func f a b, v => by
    cases ha : concL ρ a with
    | none => simp [conc, ha]
    | some x =>
      cases hb : concL ρ b with
      | none => simp [conc, ha, hb]
      | some y => simp [conc, ha, hb, concL_mono h a x ha, concL_mono h b y hb]
  | .iface t x, v => by
    cases hx : conc ρ x with
    | none => simp [conc, hx]
    | some y => simp [conc, hx, conc_mono h x y hx]
theorem concL_mono {ρ ρ' : Rho} (h : Ext' ρ ρ') : ∀ (l : List AV) (vs : List Value), concL ρ l = some vs → concL ρ' l = some vs
  | [], vs => by simp [concL]
  | a :: l, vs => by
    cases ha : conc ρ a with
    | none => simp [concL, ha]
    | some v =>
      cases hl : concL ρ l with
      | none => simp [concL, ha, hl]
      | some ws => simp [concL, ha, hl, conc_mono h a v ha, concL_mono h l ws hl]
end

/-! tries -/
theorem Tr.get_leaf {α : Type} (n : Nat) : (Tr.leaf : Tr α).get n = none := rfl
theorem Tr.get_node_zero {α : Type} (v : Option α) (l r : Tr α) : (Tr.node v l r).get 0 = v := rfl
theorem Tr.get_node_succ {α : Type} (v : Option α) (l r : Tr α) (k : Nat) : (Tr.node v l r).get (k + 1) = if k % 2 = 0 then l.get (k / 2) else r.get (k / 2) := by
  show @Bool.rec (fun _ => Option α) _ _ (Nat.beq (Nat.mod k 2) 0) = _
  have : Nat.mod k 2 = k % 2 := rfl
  rw [this]
  rcases Nat.mod_two_eq_zero_or_one k with h | h <;> simp [h] <;> rfl
theorem Tr.single_zero {α : Type} (f : Nat) (a : α) : Tr.single (f + 1) 0 a = .node (some a) .leaf .leaf := rfl
theorem Tr.single_succ {α : Type} (f k : Nat) (a : α) : Tr.single (f + 1) (k + 1) a = if k % 2 = 0 then .node none (Tr.single f (k / 2) a) .leaf else .node none .leaf (Tr.single f (k / 2) a) := by
  show @Bool.rec (fun _ => Tr α) _ _ (Nat.beq (Nat.mod k 2) 0) = _
  have : Nat.mod k 2 = k % 2 := rfl
  rw [this]
  rcases Nat.mod_two_eq_zero_or_one k with h | h <;> simp [h] <;> rfl
theorem Tr.get_single {α : Type} : ∀ (f n m : Nat) (a : α), n < f → (Tr.single f n a).get m = if m = n then some a else none
  | 0, n, m, a, h => by omega
  | f + 1, 0, m, a, h => by
    rw [Tr.single_zero]
    cases m with
    | zero => simp [Tr.get_node_zero]
    | succ m => simp [Tr.get_node_succ, Tr.get_leaf]
  | f + 1, k + 1, m, a, h => by
    rw [Tr.single_succ]
    have ih := fun m => Tr.get_single (α := α) f (k / 2) m
    cases m with
    | zero => split <;> simp [Tr.get_node_zero]
    | succ m =>
      split <;> rename_i hk <;> rw [Tr.get_node_succ] <;> (by_cases hm : m % 2 = 0) <;> simp only [hm, if_true, if_false, Tr.get_leaf, ih _ a (show k / 2 < f by omega)] <;> (by_cases e : m = k) <;> simp [e] <;> omega
theorem Tr.set_leaf {α : Type} (n : Nat) (a : α) : (Tr.leaf : Tr α).set n a = Tr.single (n + 1) n a := rfl
theorem Tr.set_node_zero {α : Type} (v : Option α) (l r : Tr α) (a : α) : (Tr.node v l r).set 0 a = .node (some a) l r := rfl
theorem Tr.set_node_succ {α : Type} (v : Option α) (l r : Tr α) (k : Nat) (a : α) : (Tr.node v l r).set (k + 1) a = if k % 2 = 0 then .node v (l.set (k / 2) a) r else .node v l (r.set (k / 2) a) := by
  show @Bool.rec (fun _ => Tr α) _ _ (Nat.beq (Nat.mod k 2) 0) = _
  have : Nat.mod k 2 = k % 2 := rfl
  rw [this]
  rcases Nat.mod_two_eq_zero_or_one k with h | h <;> simp [h] <;> rfl
theorem Tr.get_set {α : Type} : ∀ (t : Tr α) (n m : Nat) (a : α), (t.set n a).get m = if m = n then some a else t.get m
  | .leaf, n, m, a => by rw [Tr.set_leaf, Tr.get_single _ _ _ _ (by omega)]; rfl
  | .node v l r, 0, m, a => by
    rw [Tr.set_node_zero]
    cases m with
    | zero => simp [Tr.get_node_zero]
    | succ m => simp [Tr.get_node_succ]
  | .node v l r, k + 1, m, a => by
    rw [Tr.set_node_succ]
    have il := Tr.get_set l (k / 2)
    have ir := Tr.get_set r (k / 2)
    cases m with
    | zero => split <;> simp [Tr.get_node_zero]
    | succ m =>
      split <;> rename_i hk <;> rw [Tr.get_node_succ, Tr.get_node_succ] <;> (by_cases hm : m % 2 = 0) <;> simp only [hm, if_true, if_false, il, ir] <;> (by_cases e : m = k) <;> simp [e] <;> (try omega) <;> (intro h; omega)
end Go.Sh
end
section
namespace Go.Sh
open Go

theorem AH.get_put (h : AH) (o o' : Nat) (x : AObj) : (h.put o x).get o' = if o' = o then x else h.get o' := by
  unfold AH.get AH.put
  simp only [Tr.get_set]
  split <;> rfl
theorem AH.get_new (h : AH) (o' : Nat) (x : AObj) : (h.new x).get o' = if o' = h.next then x else h.get o' := by
  unfold AH.get AH.new
  simp only [Tr.get_set]
  split <;> rfl
theorem AH.next_put (h : AH) (o : Nat) (x : AObj) : (h.put o x).next = h.next := rfl
theorem AH.next_new (h : AH) (x : AObj) : (h.new x).next = h.next + 1 := rfl

def Owns (x : AObj) : Prop := match x with | .cells rw .. => rw = true | .map _ => True | .dead => False
def ER (ρ : Rho) : List (AV × AV) → List MapEntry → Prop
  | [], [] => True
  | e :: es, m :: ms => conc ρ e.1 = some m.key ∧ conc ρ e.2 = some m.val ∧ ER ρ es ms
  | _, _ => False

structure CellsR (K : Nat → Option Obj) (ρ : Rho) (w : World) (p : Pl) (rw : Bool) (t len : Nat) (z : List AV) (c : Tr AV) : Prop where
  lt : p.b < w.heap.size
  cell : ∀ i, i < len → ∃ a v, cellZ len z c i = some a ∧ conc ρ a = some v ∧ w.cell? ⟨p.b, p.off + i, none⟩ = some v
  own : rw = true → K p.b = none ∧ p.off = 0 ∧ len ≤ p.E ∧ ∃ arr, w.heap[p.b]? = some (.cells arr t (0, 0)) ∧ p.off + p.E ≤ arr.size
structure MapR (K : Nat → Option Obj) (ρ : Rho) (w : World) (p : Pl) (es : List (AV × AV)) : Prop where
  lt : p.b < w.heap.size
  free : K p.b = none
  here : ∃ arr clk, w.heap[p.b]? = some (.map arr clk) ∧ ER ρ es arr.toList
def ObjR (K : Nat → Option Obj) (ρ : Rho) (w : World) (p : Pl) (x : AObj) : Prop :=
  match x with
  | .dead => True
  | .cells rw t len z c => CellsR K ρ w p rw t len z c
  | .map es => MapR K ρ w p es

structure HR (w0 : World) (K : Nat → Option Obj) (ρ : Rho) (h : AH) (w : World) : Prop where
  os : w.os = w0.os
  tape : w.tape = w0.tape
  output : w.output = w0.output
  size : w0.heap.size ≤ w.heap.size
  frame : ∀ b x, K b = some x → w.heap[b]? = some x
  fresh : ∀ o, h.next ≤ o → ρ o = none ∧ h.get o = .dead
  objs : ∀ o, h.get o ≠ .dead → ∃ p, ρ o = some p ∧ ObjR K ρ w p (h.get o)
  excl : ∀ o o' p p', Owns (h.get o) → h.get o' ≠ .dead → o ≠ o' → ρ o = some p → ρ o' = some p' → p.b ≠ p'.b

def upd (ρ : Rho) (o : Nat) (p : Pl) : Rho := fun x => if x = o then some p else ρ x
theorem upd_ext {ρ : Rho} {o : Nat} {p : Pl} (h : ρ o = none) : Ext' ρ (upd ρ o p) := by
  intro x q hq
  unfold upd
  split
  · rename_i e; subst e; rw [h] at hq; cases hq
  · exact hq
theorem upd_same (ρ : Rho) (o : Nat) (p : Pl) : upd ρ o p o = some p := by simp [upd]
theorem upd_ne (ρ : Rho) (o : Nat) (p : Pl) {x : Nat} (h : x ≠ o) : upd ρ o p x = ρ x := by simp [upd, h]
theorem Ext'.refl (ρ : Rho) : Ext' ρ ρ := fun _ _ h => h
theorem Ext'.trans {a b c : Rho} (h : Ext' a b) (k : Ext' b c) : Ext' a c := fun o p x => k o p (h o p x)

theorem ER.mono {ρ ρ' : Rho} (h : Ext' ρ ρ') : ∀ {es : List (AV × AV)} {ms : List MapEntry}, ER ρ es ms → ER ρ' es ms
  | [], [], _ => trivial
  | e :: es, m :: ms, hr => ⟨conc_mono h _ _ hr.1, conc_mono h _ _ hr.2.1, ER.mono h hr.2.2⟩
  | [], _ :: _, hr => hr.elim
  | _ :: _, [], hr => hr.elim

/-- what an object says of memory hangs on its own block, and on the names that its values bear -/
theorem ObjR.carry {K K' : Nat → Option Obj} {ρ ρ' : Rho} {w w' : World} {p : Pl} {x : AObj} (h : ObjR K ρ w p x) (he : Ext' ρ ρ')
    (hs : w.heap.size ≤ w'.heap.size) (hb : w'.heap[p.b]? = w.heap[p.b]?) (hk : Owns x → K' p.b = none) : ObjR K' ρ' w' p x := by
  cases x with
  | dead => trivial
  | cells rw t len z c =>
    have h : CellsR K ρ w p rw t len z c := h
    refine ⟨Nat.lt_of_lt_of_le h.lt hs, fun i hi => ?_, fun hrw => ?_⟩
    · obtain ⟨a, v, h1, h2, h3⟩ := h.cell i hi
      exact ⟨a, v, h1, conc_mono he _ _ h2, by rw [← h3]; exact World.cell?_of_block (w := w) hb⟩
    · obtain ⟨h1, h0, h2, arr, h3, h4⟩ := h.own hrw
      exact ⟨hk hrw, h0, h2, arr, by rw [hb]; exact h3, h4⟩
  | map es =>
    have h : MapR K ρ w p es := h
    obtain ⟨arr, clk, h1, h2⟩ := h.here
    exact ⟨Nat.lt_of_lt_of_le h.lt hs, hk trivial, arr, clk, by rw [hb]; exact h1, h2.mono he⟩

theorem ObjR.lt {K : Nat → Option Obj} {ρ : Rho} {w : World} {p : Pl} {x : AObj} (h : ObjR K ρ w p x) (hx : x ≠ .dead) : p.b < w.heap.size := by
  cases x with
  | dead => exact absurd rfl hx
  | cells rw t len z c => exact (show CellsR K ρ w p rw t len z c from h).lt
  | map es => exact (show MapR K ρ w p es from h).lt
theorem ObjR.free {K : Nat → Option Obj} {ρ : Rho} {w : World} {p : Pl} {x : AObj} (h : ObjR K ρ w p x) (hx : Owns x) : K p.b = none := by
  cases x with
  | dead => exact hx.elim
  | cells rw t len z c => exact ((show CellsR K ρ w p rw t len z c from h).own hx).1
  | map es => exact (show MapR K ρ w p es from h).free
theorem Owns.alive {x : AObj} (h : Owns x) : x ≠ .dead := by intro e; subst e; exact h

theorem HR.drew {w0 w : World} {K : Nat → Option Obj} {ρ : Rho} {h : AH} (H : HR w0 K ρ h w) : HR w0 K ρ h w.drew :=
  ⟨H.os, H.tape, H.output, H.size, H.frame, H.fresh, fun o ho => let ⟨p, h1, h2⟩ := H.objs o ho; ⟨p, h1, h2.carry (Ext'.refl _) (Nat.le_refl _) rfl (fun hx => h2.free hx)⟩, H.excl⟩

theorem lt_of_frame {w0 w : World} {K : Nat → Option Obj} {ρ : Rho} {h : AH} (H : HR w0 K ρ h w) {b : Nat} {x : Obj} (hk : K b = some x) : b < w.heap.size := by
  have := H.frame b x hk
  exact (Array.getElem?_eq_some_iff.1 this).1
theorem HR.K_none {w0 w : World} {K : Nat → Option Obj} {ρ : Rho} {h : AH} (H : HR w0 K ρ h w) {b : Nat} (hb : w.heap.size ≤ b) : K b = none := by
  cases hk : K b with
  | none => rfl
  | some x => have := lt_of_frame H hk; omega

/-- a new object over a new block -/
theorem HR.new {w0 w : World} {K : Nat → Option Obj} {ρ : Rho} {h : AH} (H : HR w0 K ρ h w) (x : AObj) (o : Obj) (p : Pl) (hp : p.b = w.heap.size)
    (hx : ObjR K (upd ρ h.next p) (w.alloc o) p x) :
    HR w0 K (upd ρ h.next p) (h.new x) (w.alloc o) := by
  have he : Ext' ρ (upd ρ h.next p) := upd_ext (H.fresh _ (Nat.le_refl _)).1
  have hsz : (w.alloc o).heap.size = w.heap.size + 1 := by simp
  refine ⟨H.os, H.tape, H.output, by rw [hsz]; have := H.size; omega, fun b y hk => ?_, fun o' ho => ?_, fun o' ho => ?_, fun a b pa pb ha hb hab h1 h2 => ?_⟩
  · rw [RowKit.Below.heap_alloc _ _ _ (lt_of_frame H hk)]; exact H.frame b y hk
  · rw [AH.next_new] at ho
    have hne : o' ≠ h.next := by omega
    rw [upd_ne _ _ _ hne, AH.get_new, if_neg hne]
    exact H.fresh o' (by omega)
  · by_cases e : o' = h.next
    · subst e
      exact ⟨p, upd_same _ _ _, by rw [AH.get_new, if_pos rfl]; exact hx⟩
    · rw [AH.get_new, if_neg e] at ho ⊢
      obtain ⟨q, h1, h2⟩ := H.objs o' ho
      exact ⟨q, by rw [upd_ne _ _ _ e]; exact h1, h2.carry he (by rw [hsz]; omega) (RowKit.Below.heap_alloc _ _ _ (h2.lt ho)) (fun hx => h2.free hx)⟩
  · have old : ∀ o' q, h.get o' ≠ .dead → ρ o' = some q → q.b < w.heap.size := fun o' q hd hq => by
      obtain ⟨q', h1, h2⟩ := H.objs o' hd
      rw [hq] at h1; cases h1; exact h2.lt hd
    by_cases ea : a = h.next
    · subst ea
      have hb' : b ≠ h.next := fun e => hab e.symm
      rw [AH.get_new, if_neg hb'] at hb
      rw [upd_same] at h1; cases h1
      rw [upd_ne _ _ _ hb'] at h2
      have := old b pb hb h2
      omega
    · rw [AH.get_new, if_neg ea] at ha
      rw [upd_ne _ _ _ ea] at h1
      by_cases eb : b = h.next
      · subst eb
        rw [upd_same] at h2; cases h2
        have := old a pa ha.alive h1
        omega
      · rw [AH.get_new, if_neg eb] at hb
        rw [upd_ne _ _ _ eb] at h2
        exact H.excl a b pa pb ha hb hab h1 h2
end Go.Sh
end
section
namespace Go.Sh
open Go

/-! ### lists and rows -/
theorem nth_eq {α : Type} : ∀ (l : List α) (n : Nat), nth l n = l[n]?
  | [], n => rfl
  | a :: l, 0 => rfl
  | a :: l, n + 1 => by
    show nth l n = _
    rw [nth_eq l n]; simp
theorem consO_some {o : Option AV} {r : Option (List AV)} {l : List AV} (h : consO o r = some l) : ∃ a l', o = some a ∧ r = some l' ∧ l = a :: l' := by
  cases o with
  | none => cases h
  | some a =>
    cases r with
    | none => cases h
    | some l' => exact ⟨a, l', rfl, rfl, (Option.some.inj h).symm⟩
theorem readZ_spec (len : Nat) (z : List AV) (c : Tr AV) : ∀ (n i : Nat) (l : List AV), readZ len z c n i = some l → l.length = n ∧ ∀ j, j < n → cellZ len z c (i + j) = l[j]?
  | 0, i, l, h => by
    have : l = [] := (Option.some.inj h).symm
    subst this
    exact ⟨rfl, fun j hj => absurd hj (by omega)⟩
  | n + 1, i, l, h => by
    have h : consO (cellZ len z c i) (readZ len z c n (i + 1)) = some l := h
    obtain ⟨a, l', h1, h2, rfl⟩ := consO_some h
    obtain ⟨h3, h4⟩ := readZ_spec len z c n (i + 1) l' h2
    refine ⟨by simp [h3], fun j hj => ?_⟩
    cases j with
    | zero => simpa using h1
    | succ j =>
      have := h4 j (by omega)
      rw [show i + (j + 1) = i + 1 + j by omega, this]
      simp
theorem writeZ_get : ∀ (l : List AV) (i : Nat) (c : Tr AV) (j : Nat), (writeZ l i c).get j = if i ≤ j ∧ j < i + l.length then l[j - i]? else c.get j
  | [], i, c, j => by
    rw [if_neg (by simp only [List.length_nil]; omega)]; rfl
  | a :: l, i, c, j => by
    show (writeZ l (i + 1) (c.set i a)).get j = _
    rw [writeZ_get l (i + 1) (c.set i a) j, Tr.get_set]
    by_cases h1 : j = i
    · subst h1
      rw [if_neg (by omega), if_pos rfl, if_pos (by simp)]
      simp
    · by_cases h2 : i + 1 ≤ j ∧ j < i + 1 + l.length
      · rw [if_pos h2, if_pos (by simp; omega), show j - i = (j - (i + 1)) + 1 by omega]
        simp
      · rw [if_neg h2, if_neg h1, if_neg (by simp; omega)]
theorem cellZ_eq (len : Nat) (z : List AV) (c : Tr AV) (i : Nat) : cellZ len z c i = if i < len then (match c.get i with | some a => some a | none => nthZ z i) else none := by
  unfold cellZ
  by_cases h : i < len
  · have : Nat.ble len i = false := by rw [Bool.eq_false_iff]; intro e; have := Nat.le_of_ble_eq_true e; omega
    rw [this, if_pos h]
    show cellD z i (c.get i) = _
    cases c.get i <;> rfl
  · have : Nat.ble len i = true := Nat.ble_eq_true_of_le (by omega)
    rw [this, if_neg h]
theorem cellZ_write {len : Nat} {z : List AV} {c : Tr AV} {l : List AV} {i : Nat} (h : i + l.length ≤ len) (j : Nat) :
    cellZ len z (writeZ l i c) j = if i ≤ j ∧ j < i + l.length then l[j - i]? else cellZ len z c j := by
  rw [cellZ_eq, cellZ_eq, writeZ_get]
  by_cases hj : i ≤ j ∧ j < i + l.length
  · rw [if_pos (by omega), if_pos hj, if_pos hj, List.getElem?_eq_getElem (by omega)]
  · rw [if_neg hj, if_neg hj]

theorem concL_length {ρ : Rho} : ∀ {l : List AV} {vs : List Value}, concL ρ l = some vs → vs.length = l.length
  | [], vs, h => by simp [concL] at h; subst h; rfl
  | a :: l, vs, h => by
    simp only [concL] at h
    cases ha : conc ρ a <;> cases hl : concL ρ l <;> simp [ha, hl] at h
    subst h
    simp [concL_length hl]
theorem concL_get {ρ : Rho} : ∀ {l : List AV} {vs : List Value}, concL ρ l = some vs → ∀ (j : Nat) (a : AV), l[j]? = some a → ∃ v, vs[j]? = some v ∧ conc ρ a = some v
  | [], vs, h, j, a, hj => by simp at hj
  | b :: l, vs, h, j, a, hj => by
    simp only [concL] at h
    cases ha : conc ρ b <;> cases hl : concL ρ l <;> simp [ha, hl] at h
    subst h
    cases j with
    | zero => simp at hj; subst hj; exact ⟨_, by simp, ha⟩
    | succ j => simp at hj; simpa using concL_get hl j a hj
theorem concL_of {ρ : Rho} : ∀ {l : List AV} {vs : List Value}, l.length = vs.length → (∀ (j : Nat) (a : AV) (v : Value), l[j]? = some a → vs[j]? = some v → conc ρ a = some v) → concL ρ l = some vs
  | [], [], _, _ => by simp [concL]
  | a :: l, v :: vs, h, k => by
    have h1 : conc ρ a = some v := k 0 a v (by simp) (by simp)
    have h2 : concL ρ l = some vs := concL_of (by simpa using h) (fun j a v ha hv => k (j + 1) a v (by simpa using ha) (by simpa using hv))
    simp [concL, h1, h2]
  | [], _ :: _, h, _ => by simp at h
  | _ :: _, [], h, _ => by simp at h
theorem concL_append {ρ : Rho} : ∀ {l m : List AV} {vs us : List Value}, concL ρ l = some vs → concL ρ m = some us → concL ρ (l ++ m) = some (vs ++ us)
  | [], m, vs, us, h, k => by simp [concL] at h; subst h; simpa using k
  | a :: l, m, vs, us, h, k => by
    simp only [concL] at h
    cases ha : conc ρ a <;> cases hl : concL ρ l <;> simp [ha, hl] at h
    subst h
    simp [concL, ha, concL_append hl k]
theorem concL_some_of {ρ : Rho} : ∀ {l : List AV}, (∀ (j : Nat) (a : AV), l[j]? = some a → ∃ v, conc ρ a = some v) → ∃ vs, concL ρ l = some vs
  | [], _ => ⟨[], by simp [concL]⟩
  | a :: l, h => by
    obtain ⟨v, hv⟩ := h 0 a (by simp)
    obtain ⟨vs, hvs⟩ := concL_some_of (l := l) (fun j b hb => h (j + 1) b (by simpa using hb))
    exact ⟨v :: vs, by simp [concL, hv, hvs]⟩

theorem add_lit' (b o i : Nat) : (⟨b, o, none⟩ : Addr).add i = ⟨b, o + i, none⟩ := by unfold Addr.add; split <;> simp_all

/-- what is read out of an object lies there -/
theorem CellsR.read {K : Nat → Option Obj} {ρ : Rho} {w : World} {p : Pl} {rw' : Bool} {t len : Nat} {z : List AV} {c : Tr AV} (h : CellsR K ρ w p rw' t len z c) {n i : Nat} {l : List AV} (hr : readZ len z c n i = some l) :
    ∃ vs, concL ρ l = some vs ∧ vs.length = n ∧ ∀ (j : Nat) (v : Value), vs[j]? = some v → w.cell? ((⟨p.b, p.off + i, none⟩ : Addr).add j) = some v := by
  obtain ⟨h1, h2⟩ := readZ_spec len z c n i l hr
  have key : ∀ (j : Nat) (a : AV), l[j]? = some a → ∃ v, conc ρ a = some v ∧ w.cell? ⟨p.b, p.off + (i + j), none⟩ = some v := by
    intro j a ha
    have hj : j < n := by rw [← h1]; exact (List.getElem?_eq_some_iff.1 ha).1
    have hc := h2 j hj
    rw [ha] at hc
    have hlt : i + j < len := by
      rw [cellZ_eq] at hc
      split at hc
      · assumption
      · cases hc
    obtain ⟨a', v, e1, e2, e3⟩ := h.cell (i + j) hlt
    rw [hc] at e1; cases e1
    exact ⟨v, e2, e3⟩
  obtain ⟨vs, hvs⟩ := concL_some_of (ρ := ρ) (l := l) (fun j a ha => let ⟨v, hv, _⟩ := key j a ha; ⟨v, hv⟩)
  refine ⟨vs, hvs, by rw [concL_length hvs, h1], fun j v hv => ?_⟩
  have hj : j < l.length := by rw [← concL_length hvs]; exact (List.getElem?_eq_some_iff.1 hv).1
  have ha : l[j]? = some l[j] := List.getElem?_eq_getElem hj
  obtain ⟨v', hv1, hv2⟩ := concL_get hvs j _ ha
  obtain ⟨v'', hk1, hk2⟩ := key j _ ha
  rw [hv] at hv1; cases hv1
  rw [hv2] at hk1; cases hk1
  rw [add_lit']
  simpa [Nat.add_assoc] using hk2

theorem atom_oneCell {ρ : Rho} {a : AV} {v : Value} (h : a.atom = true) (hc : conc ρ a = some v) : v.oneCell' = true := by
  cases a with
  | int k n => simp [conc] at hc; subst hc; rfl
  | bool b => simp [conc] at hc; subst hc; rfl
  | ptr o i => cases hp : ρ o <;> simp [conc, hp] at hc; subst hc; rfl
  | slice o i n c => cases c <;> cases hp : ρ o <;> simp [conc, hp] at hc <;> (subst hc; rfl)
  | agg l => cases h
  | oth x =>
    cases x <;> (try (simp [conc] at hc; subst hc; rfl))
    rename_i o
    cases hp : ρ o <;> simp [conc, hp] at hc; subst hc; rfl
  | tup l => cases h
  | func f a b => cases h1 : concL ρ a <;> cases h2 : concL ρ b <;> simp [conc, h1, h2] at hc; subst hc; rfl
  | iface t x => cases h1 : conc ρ x <;> simp [conc, h1] at hc; subst hc; rfl
theorem atoms_oneCell {ρ : Rho} : ∀ {l : List AV} {vs : List Value}, atoms l = true → concL ρ l = some vs → ∀ v ∈ vs, v.oneCell' = true
  | [], vs, _, h, v, hv => by simp [concL] at h; subst h; simp at hv
  | a :: l, vs, ha, h, v, hv => by
    have ha : ifB a.atom (atoms l) false = true := ha
    cases hat : a.atom with
    | false => rw [hat] at ha; cases ha
    | true =>
      rw [hat] at ha
      have ha : atoms l = true := ha
      simp only [concL] at h
      cases h1 : conc ρ a <;> cases h2 : concL ρ l <;> simp [h1, h2] at h
      subst h
      rcases List.mem_cons.1 hv with rfl | hv
      · exact atom_oneCell hat h1
      · exact atoms_oneCell ha h2 v hv

/-- the objects but one stay, when that one's block alone turns -/
theorem HR.replace {w0 w w' : World} {K : Nat → Option Obj} {ρ : Rho} {h : AH} (H : HR w0 K ρ h w) {o : Nat} {p : Pl} {x : AObj} (ho : Owns (h.get o)) (hp : ρ o = some p)
    (h1 : w'.os = w.os) (h2 : w'.tape = w.tape) (h3 : w'.output = w.output) (h4 : w'.heap.size = w.heap.size) (hb : ∀ b, b ≠ p.b → w'.heap[b]? = w.heap[b]?)
    (hx : ObjR K ρ w' p x) (hxo : Owns x ∨ x = .dead ∨ True) : HR w0 K ρ (h.put o x) w' := by
  have hfree : K p.b = none := by
    obtain ⟨q, e1, e2⟩ := H.objs o ho.alive
    rw [hp] at e1; cases e1
    exact e2.free ho
  refine ⟨h1.trans H.os, h2.trans H.tape, h3.trans H.output, by rw [h4]; exact H.size, fun b y hk => ?_, fun o' ho' => ?_, fun o' ho' => ?_, fun a b pa pb ha hb' hab e1 e2 => ?_⟩
  · rw [hb b (fun e => by subst e; rw [hfree] at hk; cases hk)]
    exact H.frame b y hk
  · obtain ⟨f1, f2⟩ := H.fresh o' ho'
    refine ⟨f1, ?_⟩
    rw [AH.get_put]
    split
    · rename_i e; subst e; rw [hp] at f1; cases f1
    · exact f2
  · rw [AH.get_put] at ho' ⊢
    by_cases e : o' = o
    · subst e
      simp only [if_pos rfl]
      exact ⟨p, hp, hx⟩
    · simp only [if_neg e] at ho' ⊢
      obtain ⟨q, e1, e2⟩ := H.objs o' ho'
      have hne : q.b ≠ p.b := fun e' => H.excl o o' p q ho ho' (fun e'' => e e''.symm) hp e1 e'.symm
      exact ⟨q, e1, e2.carry (Ext'.refl _) (by rw [h4]; exact Nat.le_refl _) (hb _ hne) (fun hx => e2.free hx)⟩
  · rw [AH.get_put] at ha hb'
    by_cases ea : a = o
    · subst ea
      have eb : b ≠ a := fun e => hab e.symm
      rw [if_neg eb] at hb'
      exact H.excl a b pa pb ho hb' hab e1 e2
    · rw [if_neg ea] at ha
      by_cases eb : b = o
      · subst eb
        exact fun e => H.excl b a pb pa ho ha.alive (fun e' => hab e'.symm) e2 e1 e.symm
      · rw [if_neg eb] at hb'
        exact H.excl a b pa pb ha hb' hab e1 e2

/-- a row of the call's own, written in place -/
theorem HR.write {w0 w : World} {K : Nat → Option Obj} {ρ : Rho} {h : AH} (H : HR w0 K ρ h w) {o t len i : Nat} {z : List AV} {c : Tr AV} {l : List AV} {vs : List Value} {p : Pl}
    (ho : h.get o = .cells true t len z c) (hp : ρ o = some p) (hi : i + l.length ≤ len) (hl : concL ρ l = some vs) :
    ∃ cur, w.heap[p.b]? = some (.cells cur t (0, 0)) ∧ p.off + i + vs.length ≤ cur.size ∧
      HR w0 K ρ (h.put o (.cells true t len z (writeZ l i c))) (w.setRow p.b (cur.toList.take (p.off + i) ++ vs ++ cur.toList.drop (p.off + i + vs.length)).toArray) := by
  obtain ⟨q, e1, e2⟩ := H.objs o (by rw [ho]; intro e; cases e)
  rw [hp] at e1; cases e1
  rw [ho] at e2
  have e2 : CellsR K ρ w p true t len z c := e2
  obtain ⟨k1, k0, k2, cur, k3, k4⟩ := e2.own rfl
  have hvl := concL_length hl
  have hfit : p.off + i + vs.length ≤ cur.size := by omega
  have hsz : (cur.toList.take (p.off + i) ++ vs ++ cur.toList.drop (p.off + i + vs.length)).length = cur.size := by simp; omega
  refine ⟨cur, k3, hfit, H.replace (p := p) (by rw [ho]; exact rfl) hp rfl rfl rfl (by simp) (fun b hb => setRow_other w p.b b _ hb) ?_ (.inl rfl)⟩
  refine ⟨by simpa using e2.lt, fun j hj => ?_, fun _ => ⟨k1, k0, k2, _, setRow_heap w p.b cur _ t _ k3, by rw [List.size_toArray, hsz]; exact k4⟩⟩
  rw [cellZ_write hi]
  rw [cell_setRow_same w p.b (p.off + j) cur _ t _ k3]
  by_cases hj' : i ≤ j ∧ j < i + l.length
  · rw [if_pos hj']
    have hjl : j - i < l.length := by omega
    obtain ⟨v, hv1, hv2⟩ := concL_get hl (j - i) l[j - i] (List.getElem?_eq_getElem hjl)
    refine ⟨l[j - i], v, List.getElem?_eq_getElem hjl, hv2, ?_⟩
    rw [List.getElem?_toArray, List.append_assoc, List.getElem?_append_right (by simp; omega), List.getElem?_append_left (by simp; omega)]
    rw [← hv1]
    congr 1
    simp
    omega
  · rw [if_neg hj']
    obtain ⟨a, v, c1, c2, c3⟩ := e2.cell j hj
    refine ⟨a, v, c1, c2, ?_⟩
    have c3' : cur[p.off + j]? = some v := by simpa [World.cell?, k3] using c3
    have hlt : p.off + j < cur.size := (Array.getElem?_eq_some_iff.1 c3').1
    rw [← c3', List.getElem?_toArray]
    rcases Nat.lt_or_ge j i with hji | hji
    · rw [List.append_assoc, List.getElem?_append_left (by simp; omega), List.getElem?_take_of_lt (by omega)]
      simp
    · rw [List.getElem?_append_right (by simp; omega), List.getElem?_drop]
      simp
      congr 1
      omega
end Go.Sh
end
section
namespace Go.Sh
open Go

/-! ### what the tables say -/
def ρ0 : Rho := fun _ => none
structure ZeroR (d : TD) (v : Value) : Prop where
  size : v.cells.size = d.size
  dvd : d.size % d.zero.length = 0
  cell : ∀ i, i < d.size → ∃ a x, cellZ d.size d.zero .leaf i = some a ∧ conc ρ0 a = some x ∧ v.cells[i]? = some x
  one : d.agg = false → ∃ a, d.zero.head? = some a ∧ conc ρ0 a = some v
def KindR (P : Program) (t : TypeId) : TK → Prop
  | .int k => P.underlying t = some (.int k)
  | .string => P.underlying t = some .string
  | .bool => P.underlying t = some .bool
  | .ptr e => P.underlying t = some (.pointer e)
  | .slice e => P.underlying t = some (.slice e)
  | .array n e => P.underlying t = some (.array n e)
  | .struct fs => ∃ F : Array Field, P.underlying t = some (.struct F) ∧ F.size = fs.length ∧ ∀ (i : Nat) (f : Nat × TypeId), fs[i]? = some f → ∃ g : Field, F[i]? = some g ∧ g.offset = f.1 ∧ g.type = f.2 ∧ ∃ inf, P.info? g.type = some inf ∧ inf.size ≠ 0
  | .map k e => P.underlying t = some (.map k e)
  | .uptr => P.underlying t = some .unsafePointer
  | _ => True
structure TyR (P : Program) (t : TypeId) (d : TD) : Prop where
  info : ∃ i, P.info? t = some i ∧ i.size = d.size ∧ i.bytes = d.bytes ∧ ∃ v, i.zero = some v ∧ ZeroR d v
  und : (P.underlying t).isSome = true
  kind : KindR P t d.k
  agg : ∀ w, (isAgg t).run P w = .ok d.agg w
def TysR (P : Program) (ty : Tr TD) : Prop := ∀ t d, ty.get t = some d → TyR P t d

theorem TyR.size {P : Program} {t : TypeId} {d : TD} (h : TyR P t d) (w : World) : (sizeOf t).run P w = .ok d.size w := by
  obtain ⟨i, h1, h2, _⟩ := h.info
  simp [sizeOf, typeInfo, h1, h2]
theorem TyR.zeroV {P : Program} {t : TypeId} {d : TD} (h : TyR P t d) : ∃ v, ZeroR d v ∧ ∀ w, (zeroValue t).run P w = .ok v w := by
  obtain ⟨i, h1, _, _, v, h2, h3⟩ := h.info
  exact ⟨v, h3, fun w => by simp [zeroValue, typeInfo, h1, h2]⟩
theorem conc_ρ0 {ρ : Rho} {a : AV} {v : Value} (h : conc ρ0 a = some v) : conc ρ a = some v := conc_mono (fun o p hp => by cases hp) a v h

/-! ### the frame -/
def okConst (v : Value) : Bool := match v with
  | .int _ _ => true | .bool _ => true | .string _ => true | .pointer none => true | .slice none 0 0 => true | .map none => true | .nilFunc => true | .nilIface => true
  | _ => false
def okX (G : Nat → Bool) (nt : Nat) (x : Operand) : Bool := match x with
  | .tmp t => decide (t < nt)
  | .const v => okConst v
  | .global g => G g
  | .func _ => true
def GlobR (G : Nat → Bool) (ρ : Rho) : Prop := ∀ g, G g = true → ∃ E, ρ g = some ⟨g, 0, E⟩
structure EnvR (nt : Nat) (ρ : Rho) (env : Env) (a : Act) : Prop where
  size : nt ≤ a.tmps.size
  slot : ∀ t, t < nt → conc ρ (oTmp t env) = some (a.tmps.getD t undef)
theorem EnvR.mono {nt : Nat} {ρ ρ' : Rho} {env : Env} {a : Act} (h : EnvR nt ρ env a) (he : Ext' ρ ρ') : EnvR nt ρ' env a := ⟨h.size, fun t ht => conc_mono he _ _ (h.slot t ht)⟩
theorem GlobR.mono {G : Nat → Bool} {ρ ρ' : Rho} (h : GlobR G ρ) (he : Ext' ρ ρ') : GlobR G ρ' := fun g hg => let ⟨E, hE⟩ := h g hg; ⟨E, he _ _ hE⟩

theorem conc_const {ρ : Rho} {v : Value} (h : okConst v = true) : conc ρ (ofConst v) = some v := by
  unfold okConst at h
  split at h <;> first | (simp [ofConst, conc]; done) | (cases h)
theorem opnd_conc {G : Nat → Bool} {nt : Nat} {ρ : Rho} {env : Env} {a : Act} (hE : EnvR nt ρ env a) (hG : GlobR G ρ) {x : Operand} (hx : okX G nt x = true) : conc ρ (opnd env x) = some (a.eval x) := by
  cases x with
  | tmp t =>
    have : t < nt := by simpa [okX] using hx
    exact hE.slot t this
  | const v => exact conc_const hx
  | global g =>
    obtain ⟨E, hE'⟩ := hG g hx
    show conc ρ (.ptr g 0) = _
    simp [conc, hE', Act.eval]
  | func f =>
    show conc ρ (.func (.func f) [] []) = _
    simp [conc, concL, Act.eval]

theorem oTmp_set (env : Env) (d t : Nat) (v : AV) : oTmp t (env.set d v) = if t = d then v else oTmp t env := by
  unfold oTmp
  rw [Tr.get_set]
  split <;> rfl
theorem EnvR.put {nt : Nat} {ρ : Rho} {env : Env} {a : Act} (h : EnvR nt ρ env a) {d : Option Nat} {v : AV} {x : Value} (hv : conc ρ v = some x) : EnvR nt ρ (Sh.put env d v) (a.put d x) := by
  cases d with
  | none => exact h
  | some d =>
    refine ⟨by simpa [Act.put] using h.size, fun t ht => ?_⟩
    show conc ρ (oTmp t (env.set d v)) = _
    rw [oTmp_set]
    by_cases e : t = d
    · subst e
      rw [if_pos rfl, hv]
      have := h.size
      have ht' : t < a.tmps.size := by omega
      simp [Act.put, ht']
    · rw [if_neg e, h.slot t ht]
      simp [Act.put, Array.getElem?_setIfInBounds, Ne.symm e]
theorem conc_undef (ρ : Rho) : conc ρ (.tup []) = some undef := by simp [conc, concL, undef]

/-! ### numbers -/
theorem iLt_eq (a b : Int) : iLt a b = decide (a < b) := by
  cases a <;> cases b <;> simp only [iLt] <;> rw [Bool.eq_iff_iff] <;> simp [Nat.blt_eq] <;> omega
theorem iEq_eq (a b : Int) : iEq a b = (a == b) := by
  cases a <;> cases b <;> simp only [iEq] <;> rw [Bool.eq_iff_iff] <;> simp <;> omega
theorem wrap_small (k : IntKind) (m : Nat) (h : m < kLim k) : k.wrap (m : Int) = m := by
  cases k <;> simp only [kLim] at h <;> simp only [IntKind.wrap, IntKind.bits, IntKind.signed] <;> simp <;> omega
theorem wrapF_eq (k : IntKind) (n : Int) : wrapF k n = k.wrap n := by
  cases n with
  | negSucc m => rfl
  | ofNat m =>
    show ifB (Nat.blt m (kLim k)) (Int.ofNat m) (k.wrap (.ofNat m)) = _
    cases h : Nat.blt m (kLim k) with
    | false => rfl
    | true => exact (wrap_small k m (by simpa [Nat.blt_eq] using h)).symm
theorem addF_eq (a b : Int) : addF a b = a + b := by cases a <;> cases b <;> rfl
theorem subF_eq (a b : Int) : subF a b = a - b := by
  cases a with
  | negSucc m => rfl
  | ofNat m =>
    cases b with
    | negSucc n => rfl
    | ofNat n =>
      show ifB (Nat.ble n m) (Int.ofNat (m - n)) (Int.negSucc (n - m - 1)) = _
      cases h : Nat.ble n m with
      | true => have := Nat.le_of_ble_eq_true h; show Int.ofNat (m - n) = _; simp; omega
      | false =>
        have : ¬ n ≤ m := fun e => by rw [Nat.ble_eq_true_of_le e] at h; cases h
        show Int.negSucc (n - m - 1) = _
        simp [Int.negSucc_eq]; omega
theorem mkInt_eq (k : IntKind) (n : Int) : mkInt k n = some (.int k n) := by
  cases n <;> rename_i m <;> cases m <;> rfl
theorem mkBool_eq (b : Bool) : mkBool b = some (.bool b) := by cases b <;> rfl
end Go.Sh
end
section
namespace Go.Sh
open Go

theorem ifB_true {α : Type} {b : Bool} {t e : α} (h : b = true) : ifB b t e = t := by subst h; rfl
theorem ifB_false {α : Type} {b : Bool} {t e : α} (h : b = false) : ifB b t e = e := by subst h; rfl
theorem ifB_eq {α : Type} (b : Bool) (t e : α) : ifB b t e = if b = true then t else e := by cases b <;> rfl
theorem ifB_some {α : Type} {b : Bool} {t : Option α} {a : α} (h : ifB b t none = some a) : b = true ∧ t = some a := by
  cases b with
  | true => exact ⟨rfl, h⟩
  | false => cases h
theorem ifB_some' {α : Type} {b : Bool} {t : Option α} {a : α} (h : ifB b none t = some a) : b = false ∧ t = some a := by
  cases b with
  | true => cases h
  | false => exact ⟨rfl, h⟩
theorem onInt_some {α : Type} {x : AV} {f : IntKind → Int → Option α} {a : α} (h : x.onInt none f = some a) : ∃ k n, x = .int k n ∧ f k n = some a := by
  cases x with
  | int k n => exact ⟨k, n, rfl, h⟩
  | _ => cases h
theorem onBool_some {α : Type} {x : AV} {f : Bool → Option α} {a : α} (h : x.onBool none f = some a) : ∃ b, x = .bool b ∧ f b = some a := by
  cases x with
  | bool b => exact ⟨b, rfl, h⟩
  | _ => cases h
theorem onPtr_some {α : Type} {x : AV} {f : Nat → Nat → Option α} {a : α} (h : x.onPtr none f = some a) : ∃ o i, x = .ptr o i ∧ f o i = some a := by
  cases x with
  | ptr o i => exact ⟨o, i, rfl, h⟩
  | _ => cases h
theorem onAgg_some {α : Type} {x : AV} {f : List AV → Option α} {a : α} (h : x.onAgg none f = some a) : ∃ l, x = .agg l ∧ f l = some a := by
  cases x with
  | agg l => exact ⟨l, rfl, h⟩
  | _ => cases h

theorem fastB_eq {k : IntKind} {a b : Int} {f : Nat → Nat → Int} {slow : Option AV} {r : AV} (h : fastB k a b f slow = some r) :
    (∃ m n : Nat, a = m ∧ b = n ∧ m < kLim k ∧ n < kLim k ∧ r = .int k (f m n)) ∨ slow = some r := by
  cases a with
  | negSucc m => exact .inr h
  | ofNat m =>
    cases b with
    | negSucc n => exact .inr h
    | ofNat n =>
      have h : ifB (Nat.blt m (kLim k)) (ifB (Nat.blt n (kLim k)) (mkInt k (f m n)) slow) slow = some r := h
      cases h1 : Nat.blt m (kLim k) with
      | false => rw [ifB_false h1] at h; exact .inr h
      | true =>
        rw [ifB_true h1] at h
        cases h2 : Nat.blt n (kLim k) with
        | false => rw [ifB_false h2] at h; exact .inr h
        | true =>
          rw [ifB_true h2, mkInt_eq] at h
          exact .inl ⟨m, n, rfl, rfl, by simpa [Nat.blt_eq] using h1, by simpa [Nat.blt_eq] using h2, (Option.some.inj h).symm⟩

theorem kLim_le (k : IntKind) : kLim k ≤ 2 ^ k.bits := by cases k <;> decide
theorem small_and {k : IntKind} {m n : Nat} (hm : m < kLim k) (hn : n < kLim k) : k.wrap ((BitVec.ofInt k.bits (m : Int) &&& BitVec.ofInt k.bits (n : Int)).toNat : Int) = ((m &&& n : Nat) : Int) := by
  have h1 := Nat.lt_of_lt_of_le hm (kLim_le k)
  have h2 := Nat.lt_of_lt_of_le hn (kLim_le k)
  have : (BitVec.ofInt k.bits (m : Int) &&& BitVec.ofInt k.bits (n : Int)).toNat = m &&& n := by
    rw [BitVec.toNat_and, BitVec.ofInt_natCast, BitVec.ofInt_natCast, BitVec.toNat_ofNat, BitVec.toNat_ofNat, Nat.mod_eq_of_lt h1, Nat.mod_eq_of_lt h2]
  rw [this]
  exact wrap_small k _ (Nat.lt_of_le_of_lt Nat.and_le_left hm)
theorem kLim_pow (k : IntKind) : kLim k = 2 ^ (k.bits - 1) := by cases k <;> decide
theorem small_or {k : IntKind} {m n : Nat} (hm : m < kLim k) (hn : n < kLim k) : k.wrap ((BitVec.ofInt k.bits (m : Int) ||| BitVec.ofInt k.bits (n : Int)).toNat : Int) = ((m ||| n : Nat) : Int) := by
  have h1 := Nat.lt_of_lt_of_le hm (kLim_le k)
  have h2 := Nat.lt_of_lt_of_le hn (kLim_le k)
  have : (BitVec.ofInt k.bits (m : Int) ||| BitVec.ofInt k.bits (n : Int)).toNat = m ||| n := by
    rw [BitVec.toNat_or, BitVec.ofInt_natCast, BitVec.ofInt_natCast, BitVec.toNat_ofNat, BitVec.toNat_ofNat, Nat.mod_eq_of_lt h1, Nat.mod_eq_of_lt h2]
  rw [this]
  refine wrap_small k _ ?_
  rw [kLim_pow] at *
  exact Nat.or_lt_two_pow hm hn
theorem small_xor {k : IntKind} {m n : Nat} (hm : m < kLim k) (hn : n < kLim k) : k.wrap ((BitVec.ofInt k.bits (m : Int) ^^^ BitVec.ofInt k.bits (n : Int)).toNat : Int) = ((m ^^^ n : Nat) : Int) := by
  have h1 := Nat.lt_of_lt_of_le hm (kLim_le k)
  have h2 := Nat.lt_of_lt_of_le hn (kLim_le k)
  have : (BitVec.ofInt k.bits (m : Int) ^^^ BitVec.ofInt k.bits (n : Int)).toNat = m ^^^ n := by
    rw [BitVec.toNat_xor, BitVec.ofInt_natCast, BitVec.ofInt_natCast, BitVec.toNat_ofNat, BitVec.toNat_ofNat, Nat.mod_eq_of_lt h1, Nat.mod_eq_of_lt h2]
  rw [this]
  refine wrap_small k _ ?_
  rw [kLim_pow] at *
  exact Nat.xor_lt_two_pow hm hn

section
variable {P : Program} (w : World)
/-- an operation on two whole numbers -/
theorem intOp_ok {op : BinOp} {k k' : IntKind} {a b : Int} {v : AV} (h : binI op k a k' b = some v) (t : TypeId) :
    ∃ x, (∀ ρ, conc ρ v = some x) ∧ (Go.binOp op t (.int k a) (.int k' b)).run P w = .ok x w := by
  unfold binI at h
  by_cases hs : isShift op = true
  · have h' : intOp op k a b = some v := by
      cases hk : Nat.beq (kNum k) (kNum k') with
      | true => rw [ifB_true hk] at h; exact h
      | false => rw [ifB_false hk, ifB_true hs] at h; exact h
    cases op <;> first | (cases hs; done) | skip
    · -- shl
      have h' : ifB (iLt b (.ofNat 0)) none (mkInt k (k.wrap (a * 2 ^ (min b.toNat k.bits)))) = some v := h'
      obtain ⟨h1, h2⟩ := ifB_some' h'
      rw [mkInt_eq] at h2
      cases h2
      rw [iLt_eq] at h1
      have hb : ¬ b < 0 := by simpa using h1
      exact ⟨_, fun ρ => rfl, by simp [Go.binOp, Op.shift, hb]⟩
    · -- shr
      cases b with
      | negSucc n => cases h'
      | ofNat n =>
        have key : iShrS k a (n : Int) = some v → ∃ x, (∀ ρ, conc ρ v = some x) ∧ (Go.binOp .shr t (.int k a) (.int k' (n : Int))).run P w = .ok x w := by
          intro h2
          unfold iShrS at h2
          rw [mkInt_eq] at h2
          cases h2
          have hn0 : ¬ ((n : Int) < 0) := by omega
          exact ⟨_, fun ρ => rfl, by simp [Go.binOp, Op.shift, hn0]⟩
        cases a with
        | negSucc m => exact key h'
        | ofNat m =>
          have h' : ifB (Nat.ble n k.bits) (mkInt k (.ofNat (Nat.shiftRight m n))) (iShrS k m n) = some v := h'
          cases hn : Nat.ble n k.bits with
          | false => rw [ifB_false hn] at h'; exact key h'
          | true =>
            rw [ifB_true hn, mkInt_eq] at h'
            cases h'
            have hle := Nat.le_of_ble_eq_true hn
            refine ⟨_, fun ρ => rfl, ?_⟩
            have e1 : min n k.bits = n := Nat.min_eq_left hle
            have e2 : ((m : Int).fdiv (2 ^ n)) = ((m.shiftRight n : Nat) : Int) := by
              have : (m.shiftRight n) = m / 2 ^ n := Nat.shiftRight_eq_div_pow m n
              have h2 : (0 : Int) ≤ 2 ^ n := Int.le_of_lt (Int.pow_pos (by decide))
              rw [this, Int.fdiv_eq_ediv_of_nonneg _ h2]
              simp
            have hn0 : ¬ ((n : Int) < 0) := by omega
            simp [Go.binOp, Op.shift, e1, hn0]
            exact e2.trans rfl
  · have hs' : isShift op = false := by simpa using hs
    obtain ⟨hk, h'⟩ : k = k' ∧ intOp op k a b = some v := by
      cases hk : Nat.beq (kNum k) (kNum k') with
      | true =>
        rw [ifB_true hk] at h
        refine ⟨?_, h⟩
        cases k <;> cases k' <;> first | rfl | (cases hk)
      | false => rw [ifB_false hk, ifB_false hs'] at h; cases h
    subst hk
    cases op <;> first | (cases hs'; done) | skip
    · -- add
      have h2 : mkInt k (wrapF k (addF a b)) = some v := h'
      rw [mkInt_eq] at h2
      cases h2
      exact ⟨_, fun ρ => rfl, by simp [Go.binOp, Op.intArith, wrapF_eq, addF_eq, subF_eq]⟩
    · -- sub
      have h2 : mkInt k (wrapF k (subF a b)) = some v := h'
      rw [mkInt_eq] at h2
      cases h2
      exact ⟨_, fun ρ => rfl, by simp [Go.binOp, Op.intArith, wrapF_eq, addF_eq, subF_eq]⟩
    · -- mul
      have h2 : mkInt k (wrapF k (Int.mul a b)) = some v := h'
      rw [mkInt_eq] at h2
      cases h2
      exact ⟨_, fun ρ => rfl, by simp [Go.binOp, Op.intArith, wrapF_eq, addF_eq, subF_eq]⟩
    · -- quo
      have h2 : ifB (iEq b (.ofNat 0)) none (fastB k a b (fun m n => .ofNat (Nat.div m n)) (iQuoS k a b)) = some v := h'
      obtain ⟨h3, h4⟩ := ifB_some' h2
      rw [iEq_eq] at h3
      have hb : ¬ b = 0 := by simpa using h3
      rcases fastB_eq h4 with ⟨m, n, rfl, rfl, hm, hn, rfl⟩ | h5
      · refine ⟨_, fun ρ => rfl, ?_⟩
        have hw : k.wrap ((Nat.div m n : Nat) : Int) = (Nat.div m n : Nat) := wrap_small k _ (Nat.lt_of_le_of_lt (Nat.div_le_self m n) hm)
        have e : Int.tdiv (m : Int) (n : Int) = (Nat.div m n : Nat) := rfl
        have hb' : ¬ n = 0 := by omega
        simp [Go.binOp, Op.intDiv, hb']
        exact hw
      · unfold iQuoS at h5
        rw [mkInt_eq] at h5
        cases h5
        exact ⟨_, fun ρ => rfl, by simp [Go.binOp, Op.intDiv, hb, wrapF_eq]⟩
    · -- rem
      have h2 : ifB (iEq b (.ofNat 0)) none (fastB k a b (fun m n => .ofNat (Nat.mod m n)) (iRemS k a b)) = some v := h'
      obtain ⟨h3, h4⟩ := ifB_some' h2
      rw [iEq_eq] at h3
      have hb : ¬ b = 0 := by simpa using h3
      rcases fastB_eq h4 with ⟨m, n, rfl, rfl, hm, hn, rfl⟩ | h5
      · refine ⟨_, fun ρ => rfl, ?_⟩
        have hw : k.wrap ((Nat.mod m n : Nat) : Int) = (Nat.mod m n : Nat) := wrap_small k _ (Nat.lt_of_le_of_lt (Nat.mod_le m n) hm)
        have e : Int.tmod (m : Int) (n : Int) = (Nat.mod m n : Nat) := rfl
        have hb' : ¬ n = 0 := by omega
        simp [Go.binOp, Op.intDiv, hb']
        exact e
      · unfold iRemS at h5
        rw [mkInt_eq] at h5
        cases h5
        exact ⟨_, fun ρ => rfl, by simp [Go.binOp, Op.intDiv, hb, wrapF_eq]⟩
    · -- and
      have h2 : fastB k a b (fun m n => .ofNat (Nat.land m n)) (iAndS k a b) = some v := h'
      rcases fastB_eq h2 with ⟨m, n, rfl, rfl, hm, hn, rfl⟩ | h5
      · refine ⟨_, fun ρ => rfl, ?_⟩
        have hw := small_and hm hn
        simp [Go.binOp, Op.intBits]
        exact hw
      · unfold iAndS at h5
        rw [mkInt_eq] at h5
        cases h5
        exact ⟨_, fun ρ => rfl, by simp [Go.binOp, Op.intBits]⟩
    · -- or
      have h2 : fastB k a b (fun m n => .ofNat (Nat.lor m n)) (iOrS k a b) = some v := h'
      rcases fastB_eq h2 with ⟨m, n, rfl, rfl, hm, hn, rfl⟩ | h5
      · refine ⟨_, fun ρ => rfl, ?_⟩
        have hw := small_or hm hn
        simp [Go.binOp, Op.intBits]
        exact hw
      · unfold iOrS at h5
        rw [mkInt_eq] at h5
        cases h5
        exact ⟨_, fun ρ => rfl, by simp [Go.binOp, Op.intBits]⟩
    · -- xor
      have h2 : fastB k a b (fun m n => .ofNat (Nat.xor m n)) (iXorS k a b) = some v := h'
      rcases fastB_eq h2 with ⟨m, n, rfl, rfl, hm, hn, rfl⟩ | h5
      · refine ⟨_, fun ρ => rfl, ?_⟩
        have hw := small_xor hm hn
        simp [Go.binOp, Op.intBits]
        exact hw
      · unfold iXorS at h5
        rw [mkInt_eq] at h5
        cases h5
        exact ⟨_, fun ρ => rfl, by simp [Go.binOp, Op.intBits]⟩
    · -- andNot
      have h2 : mkInt k (k.wrap (BitVec.ofInt k.bits a &&& ~~~ BitVec.ofInt k.bits b).toNat) = some v := h'
      rw [mkInt_eq] at h2
      cases h2
      exact ⟨_, fun ρ => rfl, by simp [Go.binOp, Op.intBits]⟩
    · -- eql
      have h2 : mkBool (iEq a b) = some v := h'
      rw [mkBool_eq] at h2
      cases h2
      refine ⟨_, fun ρ => rfl, ?_⟩
      simp only [Go.binOp, Op.intCmp, iEq_eq, iLt_eq, Sem.run_pure]
      simp [bne, ← Int.not_lt]
    · -- neq
      have h2 : mkBool (not (iEq a b)) = some v := h'
      rw [mkBool_eq] at h2
      cases h2
      refine ⟨_, fun ρ => rfl, ?_⟩
      simp only [Go.binOp, Op.intCmp, iEq_eq, iLt_eq, Sem.run_pure]
      simp [bne, ← Int.not_lt]
    · -- lss
      have h2 : mkBool (iLt a b) = some v := h'
      rw [mkBool_eq] at h2
      cases h2
      refine ⟨_, fun ρ => rfl, ?_⟩
      simp only [Go.binOp, Op.intCmp, iEq_eq, iLt_eq, Sem.run_pure]
      simp [bne, ← Int.not_lt]
    · -- leq
      have h2 : mkBool (not (iLt b a)) = some v := h'
      rw [mkBool_eq] at h2
      cases h2
      refine ⟨_, fun ρ => rfl, ?_⟩
      simp only [Go.binOp, Op.intCmp, iEq_eq, iLt_eq, Sem.run_pure]
      simp [bne, ← Int.not_lt]
    · -- gtr
      have h2 : mkBool (iLt b a) = some v := h'
      rw [mkBool_eq] at h2
      cases h2
      refine ⟨_, fun ρ => rfl, ?_⟩
      simp only [Go.binOp, Op.intCmp, iEq_eq, iLt_eq, Sem.run_pure]
      simp [bne, ← Int.not_lt]
    · -- geq
      have h2 : mkBool (not (iLt a b)) = some v := h'
      rw [mkBool_eq] at h2
      cases h2
      refine ⟨_, fun ρ => rfl, ?_⟩
      simp only [Go.binOp, Op.intCmp, iEq_eq, iLt_eq, Sem.run_pure]
      simp [bne, ← Int.not_lt]
end
end Go.Sh
end
section
namespace Go.Sh
open Go

/-- types of which '==' may be asked, numbers in a row -/
def EqsR (P : Program) (eqt : Tr Unit) : Prop := ∀ t, eqt.get t = some () → P.eqGuardType P.depth t = false ∧
  ∀ (size : Nat) (l m : List AV) (b : Bool), (∀ w, (sizeOf t).run P w = .ok size w) → l.length = size → m.length = size → eqvL l m = some b → ∀ ρ vs us, concL ρ l = some vs → concL ρ m = some us → ∀ w, (Op.equalIn 10000 t (.agg vs.toArray) (.agg us.toArray)).run P w = .ok b w

theorem toList_mk (l : List UInt8) : (⟨l.toArray⟩ : ByteArray).toList = l := by
  exact ByteArray.toList_mk l
theorem bytes_append (a b : List UInt8) : ((⟨a.toArray⟩ : ByteArray) ++ ⟨b.toArray⟩) = ⟨(a ++ b).toArray⟩ := by
  apply ByteArray.ext
  simp [ByteArray.data_append]
theorem bytes_size (a : List UInt8) : (⟨a.toArray⟩ : ByteArray).size = a.length := by simp [ByteArray.size]

section
variable {P : Program} (w : World)
theorem strOp_ok {op : BinOp} {a b : List UInt8} {v : AV} (h : strOp op a b = some v) (t : TypeId) :
    ∃ x, (∀ ρ, conc ρ v = some x) ∧ (Go.binOp op t (.string ⟨a.toArray⟩) (.string ⟨b.toArray⟩)).run P w = .ok x w := by
  cases op <;> simp only [strOp, mkBool_eq] at h <;> first
    | (cases h; done)
    | (cases h; refine ⟨_, fun ρ => rfl, ?_⟩; simp only [Go.binOp, Op.stringOp, toList_mk, Sem.run_pure]; done)
    | skip
  obtain ⟨h1, h2⟩ := ifB_some h
  cases h2
  have h1 := Nat.le_of_ble_eq_true h1
  have h1 : a.length + b.length ≤ 1099511627776 := h1
  refine ⟨.string ⟨(a ++ b).toArray⟩, fun ρ => rfl, ?_⟩
  have hmax : ¬ (((⟨a.toArray⟩ : ByteArray).size + (⟨b.toArray⟩ : ByteArray).size : Nat) : Int) > IntKind.i64.max := by
    rw [bytes_size, bytes_size]
    have : IntKind.i64.max = 9223372036854775807 := rfl
    rw [this]; omega
  simp only [Go.binOp, Op.stringOp, if_neg hmax, Sem.run_pure, bytes_append]

theorem conc_nil {ρ : Rho} {v : Value} : (conc ρ (.oth .nilPtr) = some v → v = .pointer none) ∧ (conc ρ (.oth .nilSlice) = some v → v = .slice none 0 0) := by
  constructor <;> intro h <;> simp [conc] at h <;> exact h.symm

theorem eqIn_ptr_nil (d : Nat) {t e : TypeId} (K : P.underlying t = some (.pointer e)) (B : Option Addr) : (Op.equalIn (d + 1) t (.pointer none) (.pointer B)).run P w = .ok B.isNone w := by
  simp [Op.equalIn, run_underlying K]
theorem eqIn_nil_ptr (d : Nat) {t e : TypeId} (K : P.underlying t = some (.pointer e)) (a : Addr) : (Op.equalIn (d + 1) t (.pointer (some a)) (.pointer none)).run P w = .ok false w := by
  simp [Op.equalIn, run_underlying K]
theorem eqIn_ptr_ptr (d : Nat) {t e : TypeId} (K : P.underlying t = some (.pointer e)) {n : Nat} (hz : ∀ w, (sizeOf e).run P w = .ok n w) (hn : n ≠ 0) (b i j : Nat) :
    (Op.equalIn (d + 1) t (.pointer (some ⟨b, i, none⟩)) (.pointer (some ⟨b, j, none⟩))).run P w = .ok (Nat.beq i j) w := by
  have e : ((⟨b, i, none⟩ : Addr) == ⟨b, j, none⟩) = Nat.beq i j := by
    rw [Bool.eq_iff_iff]; simp
  simp only [Op.equalIn, Sem.run_bind, run_underlying K, Result.andThen_ok, hz, Sem.run_ite, if_pos hn]
  simp [sameAddr]
  exact e
theorem eqIn_slice_nil (d : Nat) {t e : TypeId} (K : P.underlying t = some (.slice e)) (B : Option Addr) (n c m k : Nat) : (Op.equalIn (d + 1) t (.slice none n c) (.slice B m k)).run P w = .ok B.isNone w := by
  simp [Op.equalIn, run_underlying K]
theorem eqIn_nil_slice (d : Nat) {t e : TypeId} (K : P.underlying t = some (.slice e)) (a : Addr) (n c m k : Nat) : (Op.equalIn (d + 1) t (.slice (some a) n c) (.slice none m k)).run P w = .ok false w := by
  simp [Op.equalIn, run_underlying K]
theorem gd_ptr (t : TypeId) (A B : Option Addr) (op : BinOp) (p q : Operand) : (eqGuard op t p q (.pointer A) (.pointer B)).run P w = .ok () w := by cases op <;> rfl
theorem gd_slice (t : TypeId) (A B : Option Addr) (n c m d : Nat) (op : BinOp) (p q : Operand) : (eqGuard op t p q (.slice A n c) (.slice B m d)).run P w = .ok () w := by cases op <;> rfl

def EqEnds (w : World) (t : TypeId) (vx vy : Value) (b : Bool) : Prop :=
  (∀ op (p q : Operand), (eqGuard op t p q vx vy).run P w = .ok () w) ∧ (Op.equal t vx vy).run P w = .ok b w ∧ (∀ k n k' n', ¬ (vx = .int k n ∧ vy = .int k' n')) ∧ (∀ s s', ¬ (vx = .string s ∧ vy = .string s'))
theorem eqPtr_ok {t e : TypeId} {d : Option TD} (K : P.underlying t = some (.pointer e)) (hd : ∀ x, d = some x → ∀ w, (sizeOf e).run P w = .ok x.size w) {x y : AV} {b : Bool} (h : eqPtr d x y = some b) {ρ : Rho} {vx vy : Value} (hx : conc ρ x = some vx) (hy : conc ρ y = some vy) :
    EqEnds (P := P) w t vx vy b := by
  cases x with
  | oth x =>
    cases x <;> first | (cases h; done) | skip
    obtain rfl := conc_nil.1 hx
    cases y with
    | oth y =>
      cases y <;> first | (cases h; done) | skip
      obtain rfl := conc_nil.1 hy
      cases h
      exact ⟨gd_ptr w t _ _, eqIn_ptr_nil w 9999 K none, by simp, by simp⟩
    | ptr o i =>
      cases h
      cases hp : ρ o <;> simp [conc, hp] at hy
      subst hy
      exact ⟨gd_ptr w t _ _, eqIn_ptr_nil w 9999 K _, by simp, by simp⟩
    | _ => cases h
  | ptr o i =>
    cases hp : ρ o <;> simp [conc, hp] at hx
    subst hx
    cases y with
    | oth y =>
      cases y <;> first | (cases h; done) | skip
      obtain rfl := conc_nil.1 hy
      cases h
      exact ⟨gd_ptr w t _ _, eqIn_nil_ptr w 9999 K _, by simp, by simp⟩
    | ptr o' i' =>
      obtain ⟨h1, h2⟩ := ifB_some (show ifB (Nat.beq o o') _ none = some b from h)
      have e := Nat.eq_of_beq_eq_true h1
      subst e
      cases d with
      | none => cases h2
      | some de =>
        obtain ⟨h3, h4⟩ := ifB_some' (show ifB (Nat.beq de.size 0) none _ = some b from h2)
        cases h4
        have hne : de.size ≠ 0 := fun e => by rw [e] at h3; cases h3
        simp [conc, hp] at hy
        subst hy
        rename_i pl
        refine ⟨gd_ptr w t _ _, ?_, by simp, by simp⟩
        have := eqIn_ptr_ptr w 9999 K (hd de rfl) hne pl.b (pl.off + i) (pl.off + i')
        have e2 : Nat.beq (pl.off + i) (pl.off + i') = Nat.beq i i' := by rw [Bool.eq_iff_iff]; simp
        rw [e2] at this
        exact this
    | _ => cases h
  | _ => cases h
theorem eqSl_ok {t e : TypeId} (K : P.underlying t = some (.slice e)) {x y : AV} {b : Bool} (h : eqSl x y = some b) {ρ : Rho} {vx vy : Value} (hx : conc ρ x = some vx) (hy : conc ρ y = some vy) :
    EqEnds (P := P) w t vx vy b := by
  cases x with
  | oth x =>
    cases x <;> first | (cases h; done) | skip
    obtain rfl := conc_nil.2 hx
    cases y with
    | oth y =>
      cases y <;> first | (cases h; done) | skip
      obtain rfl := conc_nil.2 hy
      cases h
      exact ⟨gd_slice w t _ _ _ _ _ _, eqIn_slice_nil w 9999 K none _ _ _ _, by simp, by simp⟩
    | slice o i n c =>
      cases h
      cases c <;> cases hp : ρ o <;> simp [conc, hp] at hy <;> (subst hy; exact ⟨gd_slice w t _ _ _ _ _ _, eqIn_slice_nil w 9999 K _ _ _ _ _, by simp, by simp⟩)
    | _ => cases h
  | slice o i n c =>
    cases y with
    | oth y =>
      cases y <;> first | (cases h; done) | skip
      obtain rfl := conc_nil.2 hy
      cases h
      cases c <;> cases hp : ρ o <;> simp [conc, hp] at hx <;> (subst hx; exact ⟨gd_slice w t _ _ _ _ _ _, eqIn_nil_slice w 9999 K _ _ _ _ _, by simp, by simp⟩)
    | _ => cases h
  | _ => cases h

/-- '==' by the type -/
theorem eqT_ok {cx : Cx} (T : TysR P cx.ty) (Q : EqsR P cx.eqt) {t : TypeId} {x y : AV} {b : Bool} (h : eqT cx t x y = some b) {ρ : Rho} {vx vy : Value} (hx : conc ρ x = some vx) (hy : conc ρ y = some vy) :
    (∀ op (p q : Operand), (eqGuard op t p q vx vy).run P w = .ok () w) ∧ (Op.equal t vx vy).run P w = .ok b w ∧ (∀ k n k' n', ¬ (vx = .int k n ∧ vy = .int k' n')) ∧ (∀ s s', ¬ (vx = .string s ∧ vy = .string s')) := by
  unfold eqT at h
  cases ht : cx.ty.get t with
  | none => rw [ht] at h; cases h
  | some d =>
    rw [ht] at h
    have TR := T t d ht
    have h : eqK cx t d.k d.agg d.size x y = some b := h
    have aggcase : ifB d.agg (match cx.eqt.get t with | some _ => eqAg d.size x y | none => none) none = some b →
        (∀ op (p q : Operand), (eqGuard op t p q vx vy).run P w = .ok () w) ∧ (Op.equal t vx vy).run P w = .ok b w ∧ (∀ k n k' n', ¬ (vx = .int k n ∧ vy = .int k' n')) ∧ (∀ s s', ¬ (vx = .string s ∧ vy = .string s')) := by
      intro h
      obtain ⟨h1, h2⟩ := ifB_some h
      cases he : cx.eqt.get t with
      | none => rw [he] at h2; cases h2
      | some u =>
        rw [he] at h2
        obtain ⟨l, rfl, h3⟩ := onAgg_some (show x.onAgg none _ = some b from h2)
        obtain ⟨m, rfl, h4⟩ := onAgg_some h3
        obtain ⟨h5, h6⟩ := ifB_some h4
        obtain ⟨h7, h8⟩ := ifB_some h6
        cases hl : concL ρ l <;> simp [conc, hl] at hx
        cases hm : concL ρ m <;> simp [conc, hm] at hy
        subst hx; subst hy
        rename_i vs us
        obtain ⟨q1, q2⟩ := Q t he
        refine ⟨fun op p q => run_eqGuard_agg w op t p q _ _ q1, ?_, by simp, by simp⟩
        exact q2 d.size l m b (fun w => TR.size w) (Nat.eq_of_beq_eq_true h5) (Nat.eq_of_beq_eq_true h7) h8 ρ vs us hl hm w
    have K := TR.kind
    cases hk : d.k with
    | bool =>
      rw [hk] at h K
      have K : P.underlying t = some .bool := K
      obtain ⟨a, rfl, h1⟩ := onBool_some (show x.onBool none _ = some b from h)
      obtain ⟨c, rfl, h2⟩ := onBool_some h1
      cases h2
      simp only [conc, Option.some.injEq] at hx hy
      subst hx; subst hy
      exact ⟨fun op p q => by cases op <;> rfl, run_equalIn_bool w 9999 t a c K, by simp, by simp⟩
    | ptr e =>
      rw [hk] at h K
      have K : P.underlying t = some (.pointer e) := K
      have h : eqPtr (cx.ty.get e) x y = some b := h
      exact eqPtr_ok w K (fun de hde w => (T e de hde).size w) h hx hy
    | slice e =>
      rw [hk] at h K
      have K : P.underlying t = some (.slice e) := K
      have h : eqSl x y = some b := h
      exact eqSl_ok w K h hx hy
    | _ => rw [hk] at h; exact aggcase h
theorem binOp_eql (t : TypeId) {vx vy : Value} {b : Bool} (h1 : (Op.equal t vx vy).run P w = .ok b w) (h2 : ∀ k n k' n', ¬ (vx = .int k n ∧ vy = .int k' n')) (h3 : ∀ s s', ¬ (vx = .string s ∧ vy = .string s'))
    (h4 : ∀ k n k' n', ¬ (vx = .float k n ∧ vy = .float k' n')) (h5 : ∀ k n m k' n' m', ¬ (vx = .complex k n m ∧ vy = .complex k' n' m')) :
    (Go.binOp .eql t vx vy).run P w = .ok (.bool b) w ∧ (Go.binOp .neq t vx vy).run P w = .ok (.bool (!b)) w := by
  constructor <;> unfold Go.binOp <;> split <;> first
    | (exfalso; exact h2 _ _ _ _ ⟨rfl, rfl⟩)
    | (exfalso; exact h3 _ _ ⟨rfl, rfl⟩)
    | (exfalso; exact h4 _ _ _ _ ⟨rfl, rfl⟩)
    | (exfalso; exact h5 _ _ _ _ _ _ ⟨rfl, rfl⟩)
    | (simp [h1]; done)
    | (simp_all; done)
end
end Go.Sh
end
section
namespace Go.Sh
open Go

def okL (G : Nat → Bool) (nt : Nat) (l : List Operand) : Bool := l.all (okX G nt)
theorem args_conc {G : Nat → Bool} {nt : Nat} {ρ : Rho} {env : Env} {a : Act} (hE : EnvR nt ρ env a) (hG : GlobR G ρ) : ∀ {l : List Operand}, okL G nt l = true → concL ρ (argsA env l) = some (l.map a.eval)
  | [], _ => by simp [argsA, concL]
  | x :: l, h => by
    simp only [okL, List.all_cons, Bool.and_eq_true] at h
    have h1 := opnd_conc hE hG h.1
    have h2 := args_conc hE hG (l := l) h.2
    show concL ρ (opnd env x :: argsA env l) = _
    simp [concL, h1, h2]

theorem ofOpt_val {h h' : AH} {x : Option AV} {v : AV} (e : ofOpt h x = .val v h') : h' = h ∧ x = some v := by
  cases x with
  | none => cases e
  | some a => cases e; exact ⟨rfl, rfl⟩

section
variable {P : Program} {cx : Cx} {G : Nat → Bool} {nt : Nat} {ρ : Rho} {env : Env} {a : Act} {w0 : World} {K : Nat → Option Obj} {h h' : AH} {w : World} {v : AV}

/-- what an operation that only reads comes to -/
def ReadR (P : Program) (ρ : Rho) (h h' : AH) (w : World) (v : AV) (r : Result Value) : Prop := h' = h ∧ ∃ x, conc ρ v = some x ∧ r = .ok x w

theorem pick_ok (hE : EnvR nt ρ env a) (hG : GlobR G ρ) {c x y : Operand} (hc : okX G nt c = true) (hx : okX G nt x = true) (hy : okX G nt y = true) (e : xPick env h c x y = .val v h') :
    h' = h ∧ ∃ t, a.eval c = .bool t ∧ conc ρ v = some (if t then a.eval x else a.eval y) := by
  have h1 := opnd_conc hE hG hc
  unfold xPick at e
  cases hcv : opnd env c with
  | bool t =>
    rw [hcv] at e h1
    simp only [conc, Option.some.injEq] at h1
    cases t with
    | true => cases e; exact ⟨rfl, true, h1.symm, by simpa using opnd_conc hE hG hx⟩
    | false => cases e; exact ⟨rfl, false, h1.symm, by simpa using opnd_conc hE hG hy⟩
  | _ => rw [hcv] at e; cases e

theorem loadA_ok (T : TysR P cx.ty) (H : HR w0 K ρ h w) {t : TypeId} {d : TD} (ht : cx.ty.get t = some d) {p : AV} {vp : Value} (hp : conc ρ p = some vp) (e : loadA d h p = some v) :
    ∃ x, conc ρ v = some x ∧ (Instr.loadAt t vp).run P w = .ok x w := by
  obtain ⟨o, i, rfl, e1⟩ := onPtr_some (show p.onPtr none _ = some v from e)
  cases hr : ρ o <;> simp [conc, hr] at hp
  subst hp
  rename_i pl
  have TR := T t d ht
  cases ho : h.get o with
  | dead => rw [ho] at e1; cases e1
  | map es => rw [ho] at e1; cases e1
  | cells rw' t' len z c =>
    rw [ho] at e1
    obtain ⟨q, q1, q2⟩ := H.objs o (by rw [ho]; intro e; cases e)
    rw [hr] at q1; cases q1
    rw [ho] at q2
    have q2 : CellsR K ρ w pl rw' t' len z c := q2
    have e1 : ifB d.agg (aggO (readZ len z c d.size i)) (cellZ len z c i) = some v := e1
    cases hagg : d.agg with
    | true =>
      rw [ifB_true hagg] at e1
      cases hrd : readZ len z c d.size i with
      | none => rw [hrd] at e1; cases e1
      | some l =>
        rw [hrd] at e1
        cases e1
        obtain ⟨vs, v1, v2, v3⟩ := q2.read hrd
        refine ⟨.agg vs.toArray, by simp [conc, v1], ?_⟩
        have hl := run_loadCells_list (P := P) w (⟨pl.b, pl.off + i, none⟩ : Addr) vs v3
        rw [v2] at hl
        simp [Instr.loadAt, Instr.sureAddr, loadVar, TR.agg, hagg, TR.size, hl]
    | false =>
      rw [ifB_false hagg] at e1
      have hlt : i < len := by
        rw [cellZ_eq] at e1
        split at e1
        · assumption
        · cases e1
      obtain ⟨a', x, c1, c2, c3⟩ := q2.cell i hlt
      rw [e1] at c1; cases c1
      refine ⟨x, c2, ?_⟩
      simp [Instr.loadAt, Instr.sureAddr, loadVar, TR.agg, hagg, c3]

theorem fld_ok (T : TysR P cx.ty) {s : TypeId} {x : AV} {vx : Value} {f : Nat} (hx : conc ρ x = some vx) (e : xFieldAddr cx h s x f = .val v h') :
    ReadR P ρ h h' w v ((Instr.fieldAt s vx f).run P w) := by
  unfold xFieldAddr at e
  cases hs : cx.ty.get s with
  | none => rw [hs] at e; cases e
  | some d =>
    rw [hs] at e
    have TR := (T s d hs).kind
    obtain ⟨k, agg, size, bytes, zero⟩ := d
    cases k <;> first | (cases e; done) | skip
    rename_i fs
    obtain ⟨F, F1, F2, F3⟩ := (show ∃ F : Array Field, _ from TR)
    have e : fldA h x (nth fs f) = .val v h' := e
    rw [nth_eq] at e
    cases hf : fs[f]? with
    | none => rw [hf] at e; cases e
    | some p =>
      rw [hf] at e
      obtain ⟨g, g1, g2, g3, inf, g4, g5⟩ := F3 f p hf
      cases x with
      | ptr o i =>
        cases e
        cases hr : ρ o <;> simp [conc, hr] at hx
        subst hx
        rename_i pl
        refine ⟨rfl, .pointer (some ⟨pl.b, pl.off + (i + p.1), none⟩), by simp [conc, hr], ?_⟩
        simp [Instr.fieldAt, run_underlying F1, g1, Instr.sureAddr, fieldPlace, sizeOf, typeInfo, g4, g5, add_lit', g2, Nat.add_assoc]
      | _ => cases e

theorem elemTD_some {t : TypeId} {r : TypeId × TD} (T : TysR P cx.ty) (e : elemTD cx t = some r) : P.underlying t = some (.slice r.1) ∧ cx.ty.get r.1 = some r.2 := by
  unfold elemTD at e
  split at e
  · rename_i el a b c d ht
    split at e
    · rename_i d' hd
      cases e
      exact ⟨(T t _ ht).kind, hd⟩
    · cases e
  · cases e

theorem ix_ok (T : TysR P cx.ty) {t : TypeId} {x ix : AV} {vx vi : Value} (hx : conc ρ x = some vx) (hi : conc ρ ix = some vi) (e : xIndexAddr cx h t x ix = .val v h') :
    ReadR P ρ h h' w v ((Instr.indexAt t vx vi).run P w) := by
  unfold xIndexAddr at e
  cases ix with
  | int k n =>
    cases n with
    | negSucc m => cases e
    | ofNat j =>
      have e : ixJ cx h t x j = .val v h' := e
      simp only [conc, Option.some.injEq] at hi
      subst hi
      cases x with
      | ptr o i =>
        have e : ixA cx h o i j (cx.ty.get t) = .val v h' := e
        unfold ixA at e
        split at e
        · rename_i n el a b c d ht
          have U : P.underlying t = some (.array n el) := (T t _ ht).kind
          split at e
          · rename_i td hd
            have SZ := (T el td hd).size
            cases hj : Nat.blt j n with
            | false => rw [ifB_false hj] at e; cases e
            | true =>
              rw [ifB_true hj] at e
              cases e
              have hlt : j < n := by simpa [Nat.blt_eq] using hj
              cases hr : ρ o <;> simp [conc, hr] at hx
              subst hx
              rename_i pl
              refine ⟨rfl, .pointer (some ⟨pl.b, pl.off + (i + j * td.size), none⟩), by simp [conc, hr], ?_⟩
              have hlt' : (j : Int) < (n : Int) := by omega
              simp [Instr.indexAt, asIntOf, run_underlying U, Instr.sureAddr, hlt, SZ, add_lit', Nat.add_assoc]
          · cases e
        · cases e
      | slice o i n c =>
        have e : ixE h o i n j (elemTD cx t) = .val v h' := e
        cases hel : elemTD cx t with
        | none => rw [hel] at e; cases e
        | some r =>
          rw [hel] at e
          obtain ⟨U, hd⟩ := elemTD_some T hel
          have SZ := (T _ _ hd).size
          have e : ifB (Nat.blt j n) (Out.val (.ptr o (Nat.add i (Nat.mul j r.2.size))) h) .fail = .val v h' := e
          cases hj : Nat.blt j n with
          | false => rw [ifB_false hj] at e; cases e
          | true =>
            rw [ifB_true hj] at e
            cases e
            have hlt : j < n := by simpa [Nat.blt_eq] using hj
            cases hr : ρ o with
            | none => cases c <;> simp [conc, hr] at hx
            | some pl =>
              refine ⟨rfl, .pointer (some ⟨pl.b, pl.off + (i + j * r.2.size), none⟩), by simp [conc, hr], ?_⟩
              cases c <;> simp [conc, hr] at hx <;> (subst hx; simp [Instr.indexAt, asIntOf, run_underlying U, hlt, SZ, add_lit', Nat.add_assoc])
      | _ => cases e
  | _ => cases e
end
end Go.Sh
end
section
namespace Go.Sh
open Go
section
variable {P : Program} {cx : Cx} {G : Nat → Bool} {nt : Nat} {ρ : Rho} {env : Env} {a : Act} {w0 : World} {K : Nat → Option Obj} {h h' : AH} {w : World} {v : AV}

theorem un_ok {op : UnOp} {x : AV} {vx : Value} (hx : conc ρ x = some vx) (e : unA op x = some v) : ∃ y, conc ρ v = some y ∧ (Op.unary op vx).run P w = .ok y w := by
  cases op with
  | not =>
    obtain ⟨b, rfl, e1⟩ := onBool_some (show x.onBool none _ = some v from e)
    rw [mkBool_eq] at e1
    cases e1
    simp only [conc, Option.some.injEq] at hx
    subst hx
    exact ⟨_, rfl, rfl⟩
  | neg =>
    obtain ⟨k, n, rfl, e1⟩ := onInt_some (show x.onInt none _ = some v from e)
    rw [mkInt_eq, wrapF_eq, subF_eq] at e1
    cases e1
    simp only [conc, Option.some.injEq] at hx
    subst hx
    exact ⟨_, rfl, rfl⟩
  | xor =>
    obtain ⟨k, n, rfl, e1⟩ := onInt_some (show x.onInt none _ = some v from e)
    simp only [conc, Option.some.injEq] at hx
    subst hx
    obtain ⟨y, y1, y2⟩ := intOp_ok (P := P) w (op := .xor) (k := k) (k' := k) (a := (if k.signed then -1 else k.max)) (b := n) (v := v) (by
      have : Nat.beq (kNum k) (kNum k) = true := Nat.beq_refl _
      unfold binI
      rw [ifB_true this]
      exact e1) 0
    refine ⟨y, y1 ρ, ?_⟩
    simpa [Go.binOp, Op.unary] using y2
  | plus => cases e

theorem part_ok {d : TD} {t : TypeId} (TR : TyR P t d) {l : List AV} {vs : List Value} {off : Nat} (hl : concL ρ l = some vs) (hfit : d.agg = true → off + d.size ≤ l.length) (e : partA d l off = some v) :
    ∃ y, conc ρ v = some y ∧ (part t vs.toArray off).run P w = .ok y w := by
  unfold partA at e
  cases hagg : d.agg with
  | true =>
    rw [ifB_true hagg] at e
    cases e
    have hlen := concL_length hl
    have hc : concL ρ ((l.drop off).take d.size) = some ((vs.drop off).take d.size) := by
      refine concL_of (by simp [hlen]) (fun j b u hb hu => ?_)
      rw [List.getElem?_take] at hb hu
      split at hb
      · rename_i hj
        rw [if_pos hj] at hu
        rw [List.getElem?_drop] at hb hu
        obtain ⟨u', h1, h2⟩ := concL_get hl _ _ hb
        rw [hu] at h1; cases h1
        exact h2
      · cases hb
    refine ⟨.agg ((vs.drop off).take d.size).toArray, by simp [conc, hc], ?_⟩
    have : vs.toArray.extract off (off + d.size) = ((vs.drop off).take d.size).toArray := by
      simp [List.take_drop, Nat.add_comm]
    simp [part, TR.agg, hagg, TR.size, this]
  | false =>
    rw [ifB_false hagg, nth_eq] at e
    obtain ⟨y, y1, y2⟩ := concL_get hl _ _ e
    exact ⟨y, y2, by simp [part, TR.agg, hagg, y1]⟩

theorem index_ok (T : TysR P cx.ty) {t : TypeId} {x ix : AV} {vx vi : Value} (hx : conc ρ x = some vx) (hi : conc ρ ix = some vi)
    (e : xIndex cx h t x ix = .val v h') : ReadR P ρ h h' w v ((Instr.index t vx vi).run P w) := by
  unfold xIndex at e
  split at e
  · rename_i k j
    simp only [conc, Option.some.injEq] at hi
    subst hi
    split at e
    · rename_i q1 q2 q3 q4 ht
      have U : P.underlying t = some .string := (T t _ ht).kind
      split at e
      · rename_i s
        rw [nth_eq] at e
        split at e
        · rename_i b hb
          obtain ⟨rfl, e2⟩ := ofOpt_val e
          rw [mkInt_eq] at e2
          cases e2
          simp only [conc, Option.some.injEq] at hx
          subst hx
          refine ⟨rfl, _, rfl, ?_⟩
          have hb' : (⟨s.toArray⟩ : ByteArray)[j]? = some b := by
            obtain ⟨hlt, hb2⟩ := List.getElem?_eq_some_iff.1 hb
            have hlt' : j < (⟨s.toArray⟩ : ByteArray).size := by simpa [ByteArray.size] using hlt
            rw [getElem?_pos (⟨s.toArray⟩ : ByteArray) j hlt', ← hb2]
            rfl
          simp [Instr.index, asIntOf, run_underlying U, hb']
        · cases e
      · cases e
    · rename_i n el q1 q2 q3 q4 ht
      have U : P.underlying t = some (.array n el) := (T t _ ht).kind
      split at e
      · rename_i l
        split at e
        · rename_i td hd
          cases hj : Nat.blt j n with
          | false => rw [ifB_false hj] at e; cases e
          | true =>
            rw [ifB_true hj] at e
            have hlt : j < n := by simpa [Nat.blt_eq] using hj
            cases hll : Nat.beq l.length (Nat.mul n td.size) with
            | false => rw [ifB_false hll] at e; cases e
            | true =>
              rw [ifB_true hll] at e
              have hlen : l.length = n * td.size := Nat.eq_of_beq_eq_true hll
              obtain ⟨rfl, e2⟩ := ofOpt_val e
              have TR := T el td hd
              cases hl : concL ρ l <;> simp [conc, hl] at hx
              subst hx
              rename_i vs
              obtain ⟨y, y1, y2⟩ := part_ok (P := P) (w := w) TR hl (fun _ => by
                rw [hlen]
                calc j * td.size + td.size = (j + 1) * td.size := by rw [Nat.add_mul, Nat.one_mul]
                  _ ≤ n * td.size := Nat.mul_le_mul_right _ hlt) e2
              refine ⟨rfl, y, y1, ?_⟩
              simp [Instr.index, asIntOf, run_underlying U, hlt, TR.size]
              exact y2
        · cases e
      · cases e
    · cases e
  · cases e

theorem extract_ok {x : AV} {vx : Value} {i : Nat} (hx : conc ρ x = some vx) (e : xExtract h x i = .val v h') : ReadR P ρ h h' w v ((Instr.extract vx i).run P w) := by
  unfold xExtract at e
  split at e
  · rename_i l
    obtain ⟨rfl, e2⟩ := ofOpt_val e
    rw [nth_eq] at e2
    cases hl : concL ρ l <;> simp [conc, hl] at hx
    subst hx
    obtain ⟨y, y1, y2⟩ := concL_get hl _ _ e2
    exact ⟨rfl, y, y2, by simp [Instr.extract, y1]⟩
  · cases e
end
end Go.Sh
end
section
namespace Go.Sh
open Go
section
variable {P : Program} {cx : Cx} {G : Nat → Bool} {nt : Nat} {ρ : Rho} {env : Env} {a : Act} {w0 : World} {K : Nat → Option Obj} {h h' : AH} {w : World} {v : AV}

theorem ty_kind (T : TysR P cx.ty) {t : TypeId} {d : TD} (e : cx.ty.get t = some d) : KindR P t d.k := (T t d e).kind

/-- a bound that is given, or is not -/
inductive BoundR (ρ : Rho) (n dflt : Nat) : Option AV → Option Value → Nat → Prop
  | none : BoundR ρ n dflt none none dflt
  | some (k : IntKind) (i : Nat) (h : i ≤ n) : BoundR ρ n dflt (some (.int k (.ofNat i))) (some (.int k i)) i
theorem boundA_ok {n dflt i : Nat} {x : Option AV} {vx : Option Value} (hx : match x, vx with | some a, some b => conc ρ a = some b | none, none => True | _, _ => False) (e : boundA n x dflt = some i) : BoundR ρ n dflt x vx i := by
  unfold boundA at e
  split at e
  · cases vx with
    | none => cases e; exact .none
    | some b => exact hx.elim
  · rename_i k j
    obtain ⟨e1, e2⟩ := ifB_some e
    cases e2
    cases vx with
    | none => exact hx.elim
    | some b =>
      have hx : conc ρ (.int k (.ofNat i)) = some b := hx
      simp only [conc, Option.some.injEq] at hx
      subst hx
      exact .some k i (Nat.le_of_ble_eq_true e1)
  · cases e

theorem bounds_ok (isSlice : Bool) {len cap lo hi b : Nat} {xl xh : Option AV} {vl vh : Option Value} (h1 : BoundR ρ cap len xh vh hi) (h2 : BoundR ρ hi 0 xl vl lo) :
    (Instr.sliceBounds isSlice len cap vl vh none).run P w = .ok (lo, hi, cap) w := by
  cases h1 <;> cases h2 <;> simp [Instr.sliceBounds, Instr.sliceBound, asIntOf, *] <;> omega

theorem optOp_conc (hE : EnvR nt ρ env a) (hG : GlobR G ρ) {x : Option Operand} (hx : x.all (okX G nt) = true) :
    match optOp env x, x.map a.eval with | some p, some q => conc ρ p = some q | none, none => True | _, _ => False := by
  cases x with
  | none => trivial
  | some y => exact opnd_conc hE hG (by simpa using hx)

theorem slice_str {s : List UInt8} {lo hi : Nat} : (⟨s.toArray⟩ : ByteArray).extract lo hi = ⟨((s.take hi).drop lo).toArray⟩ := by
  apply ByteArray.ext
  rw [ByteArray.data_extract]
  simp [List.drop_take]

theorem slice_ok (T : TysR P cx.ty) (H : HR w0 K ρ h w) {t : TypeId} {x : AV} {vx : Value} {lo hi : Option AV} {vl vh : Option Value} (hx : conc ρ x = some vx)
    (hl : match lo, vl with | some a, some b => conc ρ a = some b | none, none => True | _, _ => False) (hh : match hi, vh with | some a, some b => conc ρ a = some b | none, none => True | _, _ => False)
    (e : sliceA cx t h x lo hi = some v) : ∃ y, conc ρ v = some y ∧ (Instr.sliceAt t vx vl vh none).run P w = .ok y w := by
  unfold sliceA at e
  split at e
  · rename_i q1 q2 q3 q4 ht
    have U : P.underlying t = some .string := ty_kind T ht
    split at e
    · rename_i s
      split at e
      · cases e
      · rename_i j hj
        split at e
        · cases e
        · rename_i b hb
          cases e
          simp only [conc, Option.some.injEq] at hx
          subst hx
          have B1 := boundA_ok hh hj
          have B2 := boundA_ok hl hb
          refine ⟨_, rfl, ?_⟩
          rw [run_sliceAt_string w t _ _ _ _ U]
          have B : (Instr.sliceBounds false (⟨s.toArray⟩ : ByteArray).size (⟨s.toArray⟩ : ByteArray).size vl vh none).run P w = .ok (b, j, (⟨s.toArray⟩ : ByteArray).size) w := by
            rw [bytes_size]; exact bounds_ok (b := 0) false B1 B2
          simp [Instr.slice, run_underlying U, B, slice_str]
    · cases e
  · rename_i el q2 q3 q4 q5 ht
    have U : P.underlying t = some (.slice el) := ty_kind T ht
    have E : P.elem t = el := by simp [Program.elem, U]
    unfold sliceK at e
    split at e
    · cases e
    · rename_i d hd
      have SZ := (T el d hd).size
      split at e
      · split at e
        · cases e
        · rename_i j hj
          split at e
          · cases e
          · rename_i b hb
            cases e
            simp only [conc, Option.some.injEq] at hx
            subst hx
            have B1 := boundA_ok hh hj
            have B2 := boundA_ok hl hb
            have hj0 : j = 0 := by cases B1 <;> omega
            have hb0 : b = 0 := by cases B2 <;> omega
            subst hj0; subst hb0
            refine ⟨_, rfl, ?_⟩
            rw [run_sliceAt_slice w t _ _ _ _ (by rw [E]; exact U), run_slice_any w t none 0 0 (by rw [E]; exact U)]
            rw [bounds_ok (b := 0) true B1 B2, E]
            simp [Result.andThen, SZ, sliced]
      · rename_i o i n c
        unfold sliceS at e
        split at e
        · cases e
        · rename_i z
          obtain ⟨z1, e⟩ := ifB_some e
          obtain ⟨z2, e⟩ := ifB_some' e
          have hz : z = d.size := Nat.eq_of_beq_eq_true z1
          subst hz
          have hz0 : d.size ≠ 0 := fun e => by rw [e] at z2; cases z2
          split at e
          · cases e
          · rename_i top htop
            split at e
            · cases e
            · rename_i j hj
              split at e
              · cases e
              · rename_i b hb
                obtain ⟨c1, c2⟩ := ifB_some e
                cases c2
                have B1 := boundA_ok hh hj
                have B2 := boundA_ok hl hb
                unfold knownTop at htop
                split at htop
                · rename_i t' len z' c' ho
                  cases htop
                  obtain ⟨q, q1, q2⟩ := H.objs o (by rw [ho]; intro e; cases e)
                  rw [ho] at q2
                  obtain ⟨k1, k0, k2, arr, k3, k4⟩ := (show CellsR K ρ w q true t' len z' c' from q2).own rfl
                  simp only [conc, q1, Option.some.injEq] at hx
                  subst hx
                  have htc : (len - i) / d.size ≤ (q.E - i) / d.size := Nat.div_le_div_right (by omega)
                  have B1' : BoundR ρ ((q.E - i) / d.size) n hi vh j := by
                    cases B1 with
                    | none => exact .none
                    | some k i h => exact .some k _ (by omega)
                  refine ⟨.slice (some ⟨q.b, q.off + (i + b * d.size), none⟩) (j - b) ((q.E - (i + b * d.size)) / d.size), by simp [conc, q1], ?_⟩
                  rw [run_sliceAt_slice w t _ _ _ _ (by rw [E]; exact U), run_slice_any w t _ _ _ (by rw [E]; exact U)]
                  rw [bounds_ok (b := 0) true B1' B2, E]
                  have hcap : (q.E - (i + b * d.size)) / d.size = (q.E - i) / d.size - b := by
                    rw [← Nat.sub_sub, Nat.mul_comm, Nat.sub_mul_div]
                  simp only [Result.andThen, SZ, sliced, hcap]
                  by_cases hb0 : b = 0
                  · subst hb0
                    simp [Addr.add]
                  · have hbt : b < (len - i) / d.size := by
                      simpa [hb0, Nat.blt_eq] using c1
                    have hne : (q.E - i) / d.size ≠ b := by omega
                    simp [hne, add_lit', Nat.add_assoc]
                · cases htop
      · cases e
  · cases e
end
end Go.Sh
end
section
namespace Go.Sh
open Go
section
variable {P : Program} {cx : Cx} {G : Nat → Bool} {nt : Nat} {ρ : Rho} {env : Env} {a : Act} {w0 : World} {K : Nat → Option Obj} {h h' : AH} {w : World} {v : AV}

theorem ER.length {ρ : Rho} : ∀ {es : List (AV × AV)} {ms : List MapEntry}, ER ρ es ms → es.length = ms.length
  | [], [], _ => rfl
  | _ :: es, _ :: ms, h => by simp [ER.length h.2.2]
  | [], _ :: _, h => h.elim
  | _ :: _, [], h => h.elim

theorem len_ok (T : TysR P cx.ty) (H : HR w0 K ρ h w) {t ty : TypeId} {x : AV} {vx : Value} (hx : conc ρ x = some vx) (e : lenA cx t h x = some v) (ts : Array TypeId) (rest : Array Value) (hts : ts[0]? = some t) :
    ∃ y, conc ρ v = some y ∧ ∀ args : Array Value, args[0]? = some vx → (Builtin.len_ ts ty args).run P w = .ok y w := by
  unfold lenA at e
  split at e
  · rename_i d hd
    have KD := ty_kind T hd
    obtain ⟨k, agg, size, bytes, zero⟩ := d
    unfold lenK at e
    cases k with
    | string =>
      have U : P.underlying t = some .string := KD
      cases x with
      | oth x =>
        cases x with
        | str s =>
          have e : mkInt .i64 (.ofNat s.length) = some v := e
          rw [mkInt_eq] at e; cases e
          simp only [conc, Option.some.injEq] at hx
          subst hx
          exact ⟨_, rfl, fun args ha => by simp [Builtin.len_, hts, ha, run_underlying U, goInt, bytes_size]⟩
        | _ => cases e
      | _ => cases e
    | slice el =>
      have U : P.underlying t = some (.slice el) := KD
      cases x with
      | slice o i n c =>
        have e : mkInt .i64 (.ofNat n) = some v := e
        rw [mkInt_eq] at e; cases e
        cases hr : ρ o with
        | none => cases c <;> simp [conc, hr] at hx
        | some p =>
          refine ⟨_, rfl, fun args ha => ?_⟩
          cases c <;> simp [conc, hr] at hx <;> (subst hx; simp [Builtin.len_, hts, ha, run_underlying U, goInt])
      | oth x =>
        cases x with
        | nilSlice =>
          cases e
          simp only [conc, Option.some.injEq] at hx
          subst hx
          exact ⟨_, rfl, fun args ha => by simp [Builtin.len_, hts, ha, run_underlying U, goInt]⟩
        | _ => cases e
      | _ => cases e
    | map kt el =>
      have U : P.underlying t = some (.map kt el) := KD
      cases x with
      | oth x =>
        cases x with
        | nilMap =>
          cases e
          simp only [conc, Option.some.injEq] at hx
          subst hx
          exact ⟨_, rfl, fun args ha => by simp [Builtin.len_, hts, ha, run_underlying U, goInt]⟩
        | map o =>
          have e : (match h.get o with | .map es => mkInt .i64 (.ofNat es.length) | _ => none) = some v := e
          split at e
          · rename_i es ho
            rw [mkInt_eq] at e; cases e
            obtain ⟨q, q1, q2⟩ := H.objs o (by rw [ho]; intro e; cases e)
            rw [ho] at q2
            obtain ⟨arr, clk, m1, m2⟩ := (show MapR K ρ w q es from q2).here
            simp only [conc, q1, Option.some.injEq] at hx
            subst hx
            refine ⟨_, rfl, fun args ha => ?_⟩
            have := m2.length
            simp [Builtin.len_, hts, ha, run_underlying U, goInt, getObj, Sem.run, m1, this]
          · cases e
        | _ => cases e
      | _ => cases e
    | array n el =>
      have U : P.underlying t = some (.array n el) := KD
      have e : mkInt .i64 (.ofNat n) = some v := e
      rw [mkInt_eq] at e; cases e
      exact ⟨_, rfl, fun args ha => by cases vx <;> simp [Builtin.len_, hts, ha, run_underlying U, goInt]⟩
    | ptr at' =>
      have U : P.underlying t = some (.pointer at') := KD
      have e : (match cx.ty.get at' with | some ⟨.array n _, _, _, _, _⟩ => mkInt .i64 (.ofNat n) | _ => none) = some v := e
      split at e
      · rename_i n el q2 q3 q4 q5 hat
        have U2 : P.underlying at' = some (.array n el) := ty_kind T hat
        rw [mkInt_eq] at e; cases e
        exact ⟨_, rfl, fun args ha => by cases vx <;> simp [Builtin.len_, hts, ha, run_underlying U, run_underlying U2, goInt]⟩
      · cases e
    | _ => cases e
  · cases e

theorem cap_ok (T : TysR P cx.ty) {t ty : TypeId} {x : AV} {vx : Value} (hx : conc ρ x = some vx) (e : capA cx t x = some v) (ts : Array TypeId) (hts : ts[0]? = some t) :
    ∃ y, conc ρ v = some y ∧ ∀ args : Array Value, args[0]? = some vx → (Builtin.cap_ ts ty args).run P w = .ok y w := by
  unfold capA at e
  split at e
  · rename_i r hr
    obtain ⟨U, _⟩ := elemTD_some T hr
    split at e
    · cases e
      simp only [conc, Option.some.injEq] at hx
      subst hx
      exact ⟨_, rfl, fun args ha => by simp [Builtin.cap_, hts, ha, run_underlying U, goInt]⟩
    · rename_i o i n c
      rw [mkInt_eq] at e; cases e
      cases hr : ρ o <;> simp [conc, hr] at hx
      subst hx
      exact ⟨_, rfl, fun args ha => by simp [Builtin.cap_, hts, ha, run_underlying U, goInt]⟩
    · cases e
  · cases e

theorem data_ok (H : HR w0 K ρ h w) {ty : TypeId} {x : AV} {vx : Value} (hx : conc ρ x = some vx) (e : dataA h x = .val v h') (ts : Array TypeId) :
    ReadR P ρ h h' w v ((Builtin.unsafeSliceData_ ts ty #[vx]).run P w) := by
  unfold dataA at e
  split at e
  · rename_i o i n z
    split at e
    · rename_i t len z' c ho
      cases hz : Nat.beq z 0 with
      | true => rw [ifB_true hz] at e; cases e
      | false =>
        rw [ifB_false hz] at e
        cases hb : Nat.ble (Nat.add i z) len with
        | false => rw [ifB_false hb] at e; cases e
        | true =>
          rw [ifB_true hb] at e
          cases e
          obtain ⟨q, q1, q2⟩ := H.objs o (by rw [ho]; intro e; cases e)
          rw [ho] at q2
          obtain ⟨k1, k0, k2, arr, k3, k4⟩ := (show CellsR K ρ w q true t len z' c from q2).own rfl
          simp only [conc, q1, Option.some.injEq] at hx
          subst hx
          refine ⟨rfl, .pointer (some ⟨q.b, q.off + i, none⟩), by simp [conc, q1], ?_⟩
          have hz0 : z ≠ 0 := fun e => by rw [e] at hz; cases hz
          have hle : i + z ≤ len := Nat.le_of_ble_eq_true hb
          exact Lib.run_unsafeSliceData_row w ts ty _ n _ (by
            have : 0 < (q.E - i) / z := Nat.div_pos (by omega) (by omega)
            omega)
    · cases e
  · cases e

theorem max_ok {x : AV} {rest : List AV} {vx : Value} {vr : List Value} {ty : TypeId} (hx : conc ρ x = some vx) (hr : concL ρ rest = some vr) (e : maxA h x rest = .val v h') (ts : Array TypeId) :
    ReadR P ρ h h' w v ((Builtin.max_ ts ty (vx :: vr).toArray).run P w) := by
  unfold maxA at e
  split at e
  · rename_i y
    cases x with
    | int k p =>
      cases y with
      | int k' q =>
        cases e
        simp only [conc, Option.some.injEq] at hx
        simp only [concL, conc, Option.some.injEq] at hr
        subst hx; subst hr
        refine ⟨rfl, .int k (ifB (iLt p q) q p), by simp [conc], ?_⟩
        simp only [Builtin.max_, List.foldlM, Builtin.max2, iLt_eq, ifB_eq]
        by_cases hpq : p < q <;> simp [hpq, gt_iff_lt, Builtin.max2]
      | _ => cases e
    | _ => cases e
  · cases e

theorem liesAt_own {u : TypeId} {n : Nat} (hc : P.cellsOf u ≠ 0) (hn : 1 ≤ n) : liesAt P P.depth u n 0 u 1 = true := by
  have hd : P.depth = (2 * (P.types.size + Made.depth) + 1) + 1 := rfl
  rw [hd]
  simp only [liesAt, Bool.or_eq_true]
  left
  rw [hd]
  simp [rowAt, hc, hn, sameLayout]

theorem convert_ok (T : TysR P cx.ty) (H : HR w0 K ρ h w) {s d : TypeId} {x : AV} {vx : Value} (hx : conc ρ x = some vx) (e : xConvert cx h s d x = .val v h') :
    ReadR P ρ h h' w v ((convert s d vx).run P w) := by
  unfold xConvert at e
  split at e
  · rename_i k q2 q3 q4 q5 hd
    have U : P.underlying d = some (.int k) := ty_kind T hd
    split at e
    · rename_i sd hs
      cases x with
      | int k' n =>
        obtain ⟨rfl, e2⟩ := ofOpt_val (show ofOpt h (mkInt k (wrapF k n)) = _ from e)
        rw [mkInt_eq, wrapF_eq] at e2; cases e2
        simp only [conc, Option.some.injEq] at hx
        subst hx
        refine ⟨rfl, _, rfl, ?_⟩
        have hk : P.intKind d = k := by simp [Program.intKind, U]
        have hss : (P.underlying s).isSome = true := (T s sd hs).und
        have := run_convert_int (P := P) w s d k' n hss (by rw [hk]; exact U)
        rw [hk] at this
        exact this
      | _ => cases e
    · cases e
  · rename_i q2 q3 q4 q5 hd
    have U : P.underlying d = some .unsafePointer := ty_kind T hd
    split at e
    · rename_i t r2 r3 r4 r5 hs
      have US : P.underlying s = some (.pointer t) := ty_kind T hs
      split at e
      · rename_i td htd
        cases hz : Nat.beq td.size 0 with
        | true => rw [ifB_true hz] at e; cases e
        | false =>
          rw [ifB_false hz] at e
          obtain ⟨rfl, e2⟩ := ofOpt_val e
          obtain ⟨o, i, rfl, e3⟩ := onPtr_some (show x.onPtr none _ = some v from e2)
          split at e3
          · rename_i rw' t' len z c ho
            obtain ⟨l1, l2⟩ := ifB_some e3
            cases l2
            obtain ⟨q, q1, q2⟩ := H.objs o (by rw [ho]; intro e; cases e)
            rw [ho] at q2
            obtain ⟨a', y, c1, c2, c3⟩ := (show CellsR K ρ w q rw' t' len z c from q2).cell i (by simpa [Nat.blt_eq] using l1)
            simp only [conc, q1, Option.some.injEq] at hx
            subst hx
            obtain ⟨inf, i1, i2, _⟩ := (T t td htd).info
            refine ⟨rfl, .pointer (some ⟨q.b, q.off + i, none⟩), by simp [conc, q1], ?_⟩
            refine run_convert_to_unsafe US U ?_ c3
            have : td.size ≠ 0 := fun e => by rw [e] at hz; cases hz
            simp [i1, i2, this]
          · cases e3
      · cases e
    · cases e
  · rename_i u q2 q3 q4 q5 hd
    have U : P.underlying d = some (.pointer u) := ty_kind T hd
    split at e
    · rename_i r2 r3 r4 r5 hs
      have US : P.underlying s = some .unsafePointer := ty_kind T hs
      split at e
      · rename_i td htd
        obtain ⟨rfl, e2⟩ := ofOpt_val e
        obtain ⟨o, i, rfl, e3⟩ := onPtr_some (show x.onPtr none _ = some v from e2)
        obtain ⟨hi, e3⟩ := ifB_some e3
        have hi : i = 0 := Nat.eq_of_beq_eq_true hi
        subst hi
        split at e3
        · rename_i t' len z c ho
          obtain ⟨l1, e3⟩ := ifB_some e3
          obtain ⟨l2, e3⟩ := ifB_some e3
          obtain ⟨l3, e3⟩ := ifB_some' e3
          cases e3
          have ht : t' = u := Nat.eq_of_beq_eq_true l1
          subst ht
          have hle : td.size ≤ len := Nat.le_of_ble_eq_true l2
          have hnz : td.size ≠ 0 := fun e => by rw [e] at l3; cases l3
          obtain ⟨q, q1, q2⟩ := H.objs o (by rw [ho]; intro e; cases e)
          rw [ho] at q2
          obtain ⟨k1, k0, k2, arr, k3, k4⟩ := (show CellsR K ρ w q true t' len z c from q2).own rfl
          simp only [conc, q1, Option.some.injEq] at hx
          subst hx
          obtain ⟨inf, i1, i2, _⟩ := (T t' td htd).info
          have hc : P.cellsOf t' = td.size := by simp [Program.cellsOf, i1, i2]
          refine ⟨rfl, .pointer (some ⟨q.b, q.off + 0, none⟩), by simp [conc, q1], ?_⟩
          refine Lib.run_from_unsafe w _ US U i1 (e := t') (cells := arr.size) ?_ ?_
          · simp [World.shape?, k3]
          · show liesAt P P.depth t' (arr.size / P.cellsOf t') (q.off + 0) t' 1 = true
            rw [k0]
            exact liesAt_own (by rw [hc]; exact hnz) (by
              rw [hc]
              exact Nat.div_pos (by omega) (by omega))
        · cases e3
      · cases e
    · cases e
  · cases e
end
end Go.Sh
end
section
namespace Go.Sh
open Go
section
variable {P : Program} {cx : Cx} {G : Nat → Bool} {nt : Nat} {ρ : Rho} {env : Env} {a : Act} {w0 : World} {K : Nat → Option Obj} {h h' : AH} {w : World} {v : AV}

theorem conc_no_float {ρ : Rho} {a : AV} {v : Value} (h : conc ρ a = some v) : (∀ k n, v ≠ .float k n) ∧ ∀ k n m, v ≠ .complex k n m := by
  cases a with
  | int k n => simp [conc] at h; subst h; simp
  | bool b => simp [conc] at h; subst h; simp
  | ptr o i => cases hp : ρ o <;> simp [conc, hp] at h; subst h; simp
  | slice o i n c => cases c <;> cases hp : ρ o <;> simp [conc, hp] at h <;> (subst h; simp)
  | agg l => cases hl : concL ρ l <;> simp [conc, hl] at h; subst h; simp
  | oth x =>
    cases x <;> (try (simp [conc] at h; subst h; simp; done))
    rename_i o
    cases hp : ρ o <;> simp [conc, hp] at h; subst h; simp
  | tup l => cases hl : concL ρ l <;> simp [conc, hl] at h; subst h; simp
  | func f a b => cases h1 : concL ρ a <;> cases h2 : concL ρ b <;> simp [conc, h1, h2] at h; subst h; simp
  | iface t x => cases h1 : conc ρ x <;> simp [conc, h1] at h; subst h; simp

theorem binO_ok (T : TysR P cx.ty) (Q : EqsR P cx.eqt) {t : TypeId} {op : BinOp} {x y : AV} {vx vy : Value} (hx : conc ρ x = some vx) (hy : conc ρ y = some vy) (e : binO cx t op x y = some v) :
    ∃ z, conc ρ v = some z ∧ ∀ p q : Operand, (do eqGuard op t p q vx vy; Go.binOp op t vx vy : Sem Value).run P w = .ok z w := by
  have key : ∀ b, eqT cx t x y = some b → (∀ p q, (eqGuard op t p q vx vy).run P w = .ok () w) ∧ (Go.binOp .eql t vx vy).run P w = .ok (.bool b) w ∧ (Go.binOp .neq t vx vy).run P w = .ok (.bool (!b)) w := by
    intro b hb
    obtain ⟨h1, h2, h3, h4⟩ := eqT_ok w T Q hb hx hy
    obtain ⟨k1, k2⟩ := binOp_eql w t h2 h3 h4 (fun k n _ _ e => (conc_no_float hx).1 k n e.1) (fun k n m _ _ _ e => (conc_no_float hx).2 k n m e.1)
    exact ⟨h1 op, k1, k2⟩
  unfold binO at e
  split at e
  · split at e
    · rename_i b hb
      obtain ⟨k1, k2, k3⟩ := key b hb
      rw [mkBool_eq] at e; cases e
      exact ⟨_, rfl, fun p q => by simp [k1 p q, k2]⟩
    · cases e
  · split at e
    · rename_i b hb
      obtain ⟨k1, k2, k3⟩ := key b hb
      rw [mkBool_eq] at e; cases e
      exact ⟨_, rfl, fun p q => by
        have : (not b) = !b := rfl
        simp [k1 p q, k3]⟩
    · cases e
  · cases e

theorem binA_ok (T : TysR P cx.ty) (Q : EqsR P cx.eqt) {t : TypeId} {op : BinOp} {x y : AV} {vx vy : Value} (hx : conc ρ x = some vx) (hy : conc ρ y = some vy) (e : binA cx t op x y = some v) :
    ∃ z, conc ρ v = some z ∧ ∀ p q : Operand, (do eqGuard op t p q vx vy; Go.binOp op t vx vy : Sem Value).run P w = .ok z w := by
  cases x with
  | int k m =>
    have e : y.onInt none (fun k' b => binI op k m k' b) = some v := e
    obtain ⟨k', b, rfl, e1⟩ := onInt_some e
    obtain ⟨z, z1, z2⟩ := intOp_ok (P := P) w e1 t
    simp only [conc, Option.some.injEq] at hx hy
    subst hx; subst hy
    refine ⟨z, z1 ρ, fun p q => ?_⟩
    have : (eqGuard op t p q (.int k m) (.int k' b)).run P w = .ok () w := by cases op <;> rfl
    simp [this, z2]
  | oth x =>
    cases x with
    | str s =>
      cases y with
      | oth y =>
        cases y with
        | str s' =>
          have e : strOp op s s' = some v := e
          obtain ⟨z, z1, z2⟩ := strOp_ok (P := P) w e t
          simp only [conc, Option.some.injEq] at hx hy
          subst hx; subst hy
          refine ⟨z, z1 ρ, fun p q => ?_⟩
          have : (eqGuard op t p q (.string ⟨s.toArray⟩) (.string ⟨s'.toArray⟩)).run P w = .ok () w := by cases op <;> rfl
          simp [this, z2]
        | _ => cases e
      | _ => cases e
    | _ => exact binO_ok T Q hx hy e
  | _ => exact binO_ok T Q hx hy e
end
end Go.Sh
end
section
namespace Go.Sh
open Go

/-- a row and what is told of it -/
structure CR (ρ : Rho) (len : Nat) (z : List AV) (c : Tr AV) (arr : Array Value) : Prop where
  size : arr.size = len
  cell : ∀ i, i < len → ∃ a v, cellZ len z c i = some a ∧ conc ρ a = some v ∧ arr[i]? = some v

theorem cellsOf_conc {ρ : Rho} {a : AV} {v : Value} (h : conc ρ a = some v) : concL ρ (cellsOf a) = some v.cells.toList := by
  cases a with
  | agg l =>
    cases hl : concL ρ l <;> simp [conc, hl] at h
    subst h
    simpa [cellsOf, AV.onAgg, Value.cells] using hl
  | int k n => simp [conc] at h; subst h; simp [cellsOf, AV.onAgg, concL, conc, Value.cells]
  | bool b => simp [conc] at h; subst h; simp [cellsOf, AV.onAgg, concL, conc, Value.cells]
  | ptr o i => cases hp : ρ o <;> simp [conc, hp] at h; subst h; simp [cellsOf, AV.onAgg, concL, conc, hp, Value.cells]
  | slice o i n c => cases c <;> cases hp : ρ o <;> simp [conc, hp] at h <;> (subst h; simp [cellsOf, AV.onAgg, concL, conc, hp, Value.cells])
  | oth x =>
    cases x <;> (try (simp [conc] at h; subst h; simp [cellsOf, AV.onAgg, concL, conc, Value.cells]; done))
    rename_i o
    cases hp : ρ o <;> simp [conc, hp] at h; subst h; simp [cellsOf, AV.onAgg, concL, conc, hp, Value.cells]
  | tup l => cases hl : concL ρ l <;> simp [conc, hl] at h; subst h; simp [cellsOf, AV.onAgg, concL, conc, hl, Value.cells]
  | func f a b => cases h1 : concL ρ a <;> cases h2 : concL ρ b <;> simp [conc, h1, h2] at h; subst h; simp [cellsOf, AV.onAgg, concL, conc, h1, h2, Value.cells]
  | iface t x => cases h1 : conc ρ x <;> simp [conc, h1] at h; subst h; simp [cellsOf, AV.onAgg, concL, conc, h1, Value.cells]

theorem foldl_set : ∀ (l : List Value) (off k : Nat) (cs : Array Value), off + k + l.length ≤ cs.size →
    ((l.zipIdx k).foldl (fun (cs : Array Value) (p : Value × Nat) => cs.setIfInBounds (off + p.2) p.1) cs).size = cs.size ∧
    ∀ i, ((l.zipIdx k).foldl (fun (cs : Array Value) (p : Value × Nat) => cs.setIfInBounds (off + p.2) p.1) cs)[i]? = if off + k ≤ i ∧ i < off + k + l.length then l[i - (off + k)]? else cs[i]?
  | [], off, k, cs, h => ⟨rfl, fun i => by rw [if_neg (by simp only [List.length_nil]; omega)]; try rfl⟩
  | a :: l, off, k, cs, h => by
    simp only [List.zipIdx_cons, List.foldl_cons]
    simp only [List.length_cons] at h
    obtain ⟨h1, h2⟩ := foldl_set l off (k + 1) (cs.setIfInBounds (off + k) a) (by simp; omega)
    refine ⟨by rw [h1]; simp, fun i => ?_⟩
    rw [h2]
    by_cases e : i = off + k
    · subst e
      rw [if_neg (by omega), if_pos (by simp)]
      simp only [Array.getElem?_setIfInBounds_self, Nat.sub_self, List.getElem?_cons_zero]
      rw [if_pos (by omega)]
    · by_cases h3 : off + (k + 1) ≤ i ∧ i < off + (k + 1) + l.length
      · rw [if_pos h3, if_pos (by simp; omega), show i - (off + k) = (i - (off + (k + 1))) + 1 by omega]
        simp
      · rw [if_neg h3, if_neg (by simp; omega)]
        rw [Array.getElem?_setIfInBounds_ne (fun e' => e e'.symm)]

theorem fold_write {ρ : Rho} {len off : Nat} {z : List AV} {c : Tr AV} {cs : Array Value} {l : List AV} {vs : Array Value} (h : CR ρ len z c cs) (hl : concL ρ l = some vs.toList) (hi : off + l.length ≤ len) :
    CR ρ len z (writeZ l off c) (vs.zipIdx.foldl (fun cs (c, j) => cs.setIfInBounds (off + j) c) cs) := by
  have hlen := concL_length hl
  have e : vs.zipIdx.foldl (fun cs (c, j) => cs.setIfInBounds (off + j) c) cs = (vs.toList.zipIdx 0).foldl (fun (cs : Array Value) (p : Value × Nat) => cs.setIfInBounds (off + p.2) p.1) cs := by
    rw [← Array.foldl_toList, Array.toList_zipIdx]
  rw [e]
  obtain ⟨h1, h2⟩ := foldl_set vs.toList off 0 cs (by rw [h.size]; omega)
  refine ⟨by rw [h1, h.size], fun i hi' => ?_⟩
  rw [h2, cellZ_write hi]
  simp only [Nat.add_zero, hlen]
  by_cases hc : off ≤ i ∧ i < off + l.length
  · rw [if_pos hc, if_pos hc]
    have hj : i - off < l.length := by omega
    obtain ⟨v, v1, v2⟩ := concL_get hl (i - off) _ (List.getElem?_eq_getElem hj)
    exact ⟨_, v, List.getElem?_eq_getElem hj, v2, v1⟩
  · rw [if_neg hc, if_neg hc]
    exact h.cell i hi'

def PartsR (ρ : Rho) : List (Nat × AV) → List (Nat × Value) → Prop
  | [], [] => True
  | p :: ps, q :: qs => p.1 = q.1 ∧ conc ρ p.2 = some q.2 ∧ PartsR ρ ps qs
  | _, _ => False
theorem fill_ok {ρ : Rho} {len : Nat} {z : List AV} {placeA placeV : Nat → Option (Nat × Nat)} (hp : ∀ i q, placeA i = some q → placeV i = some q) :
    ∀ (ps : List (Nat × AV)) (qs : List (Nat × Value)) (c c' : Tr AV) (cs : Array Value), PartsR ρ ps qs → CR ρ len z c cs → fillA placeA len ps c = some c' → ∃ cs', Instr.fill placeV cs qs = some cs' ∧ CR ρ len z c' cs'
  | [], [], c, c', cs, _, h, e => by cases e; exact ⟨cs, rfl, h⟩
  | p :: ps, q :: qs, c, c', cs, hr, h, e => by
    obtain ⟨p1, p2⟩ := p
    obtain ⟨q1, q2⟩ := q
    obtain ⟨r1, r2, r3⟩ := hr
    simp only at r1 r2
    subst r1
    have e : (match placeA p1 with | none => none | some q => ifB (Nat.beq (cellsOf p2).length q.2) (ifB (Nat.ble (Nat.add q.1 q.2) len) (fillA placeA len ps (writeZ (cellsOf p2) q.1 c)) none) none) = some c' := e
    split at e
    · cases e
    · rename_i q hq
      obtain ⟨e1, e⟩ := ifB_some e
      obtain ⟨e2, e⟩ := ifB_some e
      have hl := cellsOf_conc r2
      have hlen := concL_length hl
      have l1 : (cellsOf p2).length = q.2 := Nat.eq_of_beq_eq_true e1
      have l2 : q.1 + q.2 ≤ len := Nat.le_of_ble_eq_true e2
      have hsz : q2.cells.size = q.2 := by rw [← l1, ← hlen]; simp
      obtain ⟨cs', k1, k2⟩ := fill_ok hp ps qs _ c' _ r3 (fold_write (off := q.1) h hl (by omega)) e
      refine ⟨cs', ?_, k2⟩
      have hle : ¬ (q.1 + q2.cells.size > cs.size) := by rw [h.size]; omega
      obtain ⟨qa, qb⟩ := q
      simp only [Instr.fill, hp _ _ hq]
      simp only at hsz hle
      simp only [hsz, ne_eq, not_true_eq_false, decide_false, Bool.false_or] at *
      rw [if_neg (by simpa using hle)]
      exact k1
  | [], _ :: _, _, _, _, hr, _, _ => hr.elim
  | _ :: _, [], _, _, _, hr, _, _ => hr.elim

theorem parts_conc {G : Nat → Bool} {nt : Nat} {ρ : Rho} {env : Env} {a : Act} (hE : EnvR nt ρ env a) (hG : GlobR G ρ) : ∀ (l : List (Nat × Operand)), (l.all fun p => okX G nt p.2) = true → PartsR ρ (partsA env l) (l.map fun p => (p.1, a.eval p.2))
  | [], _ => trivial
  | p :: l, h => by
    simp only [List.all_cons, Bool.and_eq_true] at h
    exact ⟨rfl, opnd_conc hE hG h.1, parts_conc hE hG l h.2⟩

theorem nthZ_eq {z : List AV} {i : Nat} : nthZ z i = z[i % z.length]? := by
  unfold nthZ
  split
  · simp [Nat.mod_one]
  · exact nth_eq _ _

theorem zero_row {ρ : Rho} {d : TD} {v : Value} (h : ZeroR d v) : CR ρ d.size d.zero .leaf v.cells :=
  ⟨h.size, fun i hi => let ⟨a, x, h1, h2, h3⟩ := h.cell i hi; ⟨a, x, h1, conc_ρ0 h2, h3⟩⟩
theorem zero_rows {ρ : Rho} {d : TD} {v : Value} (h : ZeroR d v) {m : Nat} (hm : d.size ≠ 0 ∨ m = 0) (cs : Array Value) (hcs : m ≠ 0 → cs = v.cells) : CR ρ (m * d.size) d.zero .leaf ((Array.range (m * d.size)).map (cs[· % cs.size]!)) := by
  refine ⟨by simp, fun i hi => ?_⟩
  have hm0 : m ≠ 0 := by rintro rfl; simp at hi
  have hd0 : d.size ≠ 0 := by rcases hm with h | h; exact h; exact absurd h hm0
  obtain rfl := hcs hm0
  have hlt : i % d.size < d.size := Nat.mod_lt _ (by omega)
  obtain ⟨a, x, h1, h2, h3⟩ := h.cell (i % d.size) hlt
  refine ⟨a, x, ?_, conc_ρ0 h2, ?_⟩
  · rw [cellZ_eq] at h1 ⊢
    rw [if_pos hlt] at h1
    rw [if_pos hi]
    simp only [Tr.get_leaf, nthZ_eq] at h1 ⊢
    rw [← h1, Nat.mod_mod_of_dvd _ (Nat.dvd_of_mod_eq_zero h.dvd)]
  · have e0 : (Array.range (m * d.size))[i]? = some i := by simp [Array.getElem?_eq_some_iff, hi]
    rw [show ((Array.range (m * d.size)).map (v.cells[· % v.cells.size]!))[i]? = ((Array.range (m * d.size))[i]?).map (v.cells[· % v.cells.size]!) from by simp, e0]
    simp only [Option.map_some]
    have hs : i % v.cells.size < v.cells.size := by rw [h.size]; exact hlt
    rw [getElem!_pos v.cells (i % v.cells.size) hs]
    have := h3
    rw [← h.size] at this
    rw [← Array.getElem?_eq_getElem hs, this]

theorem CR.read {ρ : Rho} {len n i : Nat} {z : List AV} {c : Tr AV} {cs : Array Value} {l : List AV} (h : CR ρ len z c cs) (hr : readZ len z c n i = some l) : concL ρ l = some ((cs.toList.drop i).take n) := by
  obtain ⟨h1, h2⟩ := readZ_spec len z c n i l hr
  have key : ∀ j, j < n → ∃ a v, l[j]? = some a ∧ conc ρ a = some v ∧ cs[i + j]? = some v := by
    intro j hj
    have e := h2 j hj
    rw [List.getElem?_eq_getElem (by omega)] at e ⊢
    have hlt : i + j < len := by
      rw [cellZ_eq] at e
      split at e
      · assumption
      · cases e
    obtain ⟨a, v, e1, e2, e3⟩ := h.cell _ hlt
    rw [e] at e1; cases e1
    exact ⟨_, v, rfl, e2, e3⟩
  refine concL_of ?_ (fun j a v ha hv => ?_)
  · have : n = 0 ∨ i + (n - 1) < cs.size := by
      rcases Nat.eq_zero_or_pos n with e | e
      · exact .inl e
      · obtain ⟨_, _, _, _, e3⟩ := key (n - 1) (by omega)
        exact .inr (Array.getElem?_eq_some_iff.1 e3).1
    simp [h1]
    omega
  · have hj : j < n := by rw [← h1]; exact (List.getElem?_eq_some_iff.1 ha).1
    obtain ⟨a', v', k1, k2, k3⟩ := key j hj
    rw [ha] at k1; cases k1
    rw [List.getElem?_take_of_lt hj, List.getElem?_drop] at hv
    rw [Array.getElem?_toList, k3] at hv
    cases hv
    exact k2
end Go.Sh
end
section
namespace Go.Sh
open Go
section
variable {P : Program} {cx : Cx} {G : Nat → Bool} {nt : Nat} {ρ : Rho} {env : Env} {a : Act} {w0 : World} {K : Nat → Option Obj} {h h' : AH} {w : World} {v : AV}

/-- what an operation that acts comes to -/
structure ExtN (n : Nat) (ρ ρ' : Rho) : Prop where
  ext : Ext' ρ ρ'
  old : ∀ o, o < n → ρ' o = ρ o
theorem ExtN.refl (n : Nat) (ρ : Rho) : ExtN n ρ ρ := ⟨Ext'.refl _, fun _ _ => rfl⟩
theorem ExtN.upd {n : Nat} {ρ : Rho} {p : Pl} (h : ρ n = none) : ExtN n ρ (Sh.upd ρ n p) := ⟨upd_ext h, fun o ho => upd_ne _ _ _ (by omega)⟩
theorem ExtN.trans {n m : Nat} {a b c : Rho} (h : ExtN n a b) (k : ExtN m b c) (hm : n ≤ m) : ExtN n a c := ⟨h.ext.trans k.ext, fun o ho => by rw [k.old o (by omega), h.old o ho]⟩
def EffR (w0 : World) (K : Nat → Option Obj) (ρ : Rho) (h h' : AH) (v : AV) (r : Result Value) : Prop := ∃ ρ' x w', r = .ok x w' ∧ ExtN h.next ρ ρ' ∧ conc ρ' v = some x ∧ HR w0 K ρ' h' w'
theorem ReadR.eff {r : Result Value} (H : HR w0 K ρ h w) (hr : ReadR P ρ h h' w v r) : EffR w0 K ρ h h' v r := by
  obtain ⟨rfl, x, h1, h2⟩ := hr
  exact ⟨ρ, x, w, h2, ExtN.refl _ _, h1, H⟩

theorem build_ok (T : TysR P cx.ty) (hE : EnvR nt ρ env a) (hG : GlobR G ρ) {t : TypeId} {parts : Array (Nat × Operand)} (hp : (parts.toList.all fun p => okX G nt p.2) = true)
    (e : xBuild cx env t parts = some v) : ∃ y, conc ρ v = some y ∧ (Instr.build t (parts.map fun (i, x) => (i, a.eval x))).run P w = .ok y w := by
  unfold xBuild at e
  split at e
  · rename_i k agg size bytes zero ht
    have TR := T t _ ht
    obtain ⟨vz, z1, z2⟩ := TR.zeroV
    have PR := parts_conc hE hG parts.toList hp
    have fin : ∀ (placeA placeV : Nat → Option (Nat × Nat)) (hpl : ∀ i q, placeA i = some q → placeV i = some q) (e : aggOf size zero (fillA placeA size (partsA env parts.toList) .leaf) = some v),
        ∃ cs', Instr.fill placeV vz.cells (parts.toList.map fun p => (p.1, a.eval p.2)) = some cs' ∧ conc ρ v = some (.agg cs') := by
      intro placeA placeV hpl e
      unfold aggOf at e
      split at e
      · cases e
      · rename_i c hc
        split at e
        · rename_i l hl
          cases e
          obtain ⟨cs', k1, k2⟩ := fill_ok hpl _ _ _ _ _ PR (zero_row z1) hc
          refine ⟨cs', k1, ?_⟩
          have := k2.read hl
          have hsz : cs'.size = size := k2.size
          simp only [List.drop_zero] at this
          rw [List.take_of_length_le (by simp [hsz])] at this
          simp [conc, this]
        · cases e
    cases k with
    | struct fs =>
      obtain ⟨F, F1, F2, F3⟩ := (show ∃ F : Array Field, _ from TR.kind)
      have hsizes : ∀ g : Field, g ∈ F.toList → ∃ inf, P.info? g.type = some inf := by
        intro g hg
        obtain ⟨i, hi, rfl⟩ := List.mem_iff_getElem.1 hg
        have hi' : i < fs.length := by rw [← F2]; simpa using hi
        obtain ⟨g', g1, g2, g3, inf, g4, g5⟩ := F3 i fs[i] (List.getElem?_eq_getElem hi')
        have : F.toList[i]? = some F.toList[i] := List.getElem?_eq_getElem hi
        rw [Array.getElem?_toList, g1] at this
        cases this
        exact ⟨inf, g4⟩
      have hmap : ∃ places : Array (Nat × Nat), (F.mapM (m := Sem) fun f => Prod.mk f.offset <$> sizeOf f.type).run P w = .ok places w ∧ ∀ (i : Nat) (g : Field) (inf : TypeInfo), F[i]? = some g → P.info? g.type = some inf → places[i]? = some (g.offset, inf.size) := by
        have hl : ∀ l : List Field, (∀ g ∈ l, ∃ inf, P.info? g.type = some inf) → ∃ ps : List (Nat × Nat), (l.mapM (m := Sem) fun f => Prod.mk f.offset <$> sizeOf f.type).run P w = .ok ps w ∧ ∀ (i : Nat) (g : Field) (inf : TypeInfo), l[i]? = some g → P.info? g.type = some inf → ps[i]? = some (g.offset, inf.size) := by
          intro l
          induction l with
          | nil => exact fun _ => ⟨[], by simp, fun i g inf h => by simp at h⟩
          | cons f l ih =>
            intro hall
            obtain ⟨ps, h1, h2⟩ := ih (fun g hg => hall g (List.mem_cons_of_mem _ hg))
            obtain ⟨inf, hinf⟩ := hall f (List.mem_cons_self ..)
            refine ⟨(f.offset, inf.size) :: ps, by simp [List.mapM_cons, sizeOf, typeInfo, hinf, Result.andThen] at h1 ⊢; simp [h1, Result.andThen], fun i g inf' hg hi => ?_⟩
            cases i with
            | zero => simp at hg; subst hg; rw [hinf] at hi; cases hi; rfl
            | succ i => simpa using h2 i g inf' (by simpa using hg) hi
        obtain ⟨ps, h1, h2⟩ := hl F.toList hsizes
        refine ⟨ps.toArray, ?_, fun i g inf hg hi => by simpa using h2 i g inf (by simpa using hg) hi⟩
        rw [Array.mapM_eq_mapM_toList]
        simp [h1, Result.andThen]
      obtain ⟨places, m1, m2⟩ := hmap
      obtain ⟨cs', k1, k2⟩ := fin _ (places[·]?) (fun i q hq => by
        rw [nth_eq] at hq
        split at hq
        · rename_i f hf
          split at hq
          · rename_i td htd
            cases hq
            obtain ⟨g', g1, g2, g3, inf, g4, g5⟩ := F3 i f hf
            obtain ⟨inf', i1, i2, _⟩ := (T _ td htd).info
            rw [← g3, g4] at i1; cases i1
            rw [m2 i g' inf g1 g4, g2, i2]
          · cases hq
        · cases hq) e
      refine ⟨.agg cs', k2, ?_⟩
      have k1' : Instr.fill (places[·]?) vz.cells (parts.map fun (i, x) => (i, a.eval x)).toList = some cs' := by simpa using k1
      simp [Instr.build, z2, run_underlying F1, m1, k1', Result.andThen] at k1' ⊢
      rw [k1']
      rfl
    | array n el =>
      have U : P.underlying t = some (.array n el) := TR.kind
      have e : (match cx.ty.get el with | some td => aggOf size zero (fillA (fun i => some (i * td.size, td.size)) size (partsA env parts.toList) .leaf) | none => none) = some v := e
      split at e
      · rename_i td htd
        have SZ := (T el td htd).size
        obtain ⟨cs', k1, k2⟩ := fin _ (fun i => some (i * td.size, td.size)) (fun i q hq => hq) e
        refine ⟨.agg cs', k2, ?_⟩
        have k1' : Instr.fill (fun i => some (i * td.size, td.size)) vz.cells (parts.map fun (i, x) => (i, a.eval x)).toList = some cs' := by simpa using k1
        simp [Instr.build, z2, run_underlying U, SZ, Result.andThen] at k1' ⊢
        rw [k1']
        rfl
      · cases e
    | _ => cases e
  · cases e
end
end Go.Sh
end
section
namespace Go.Sh
open Go
section
theorem alloc_here (w : World) (o : Obj) : (w.alloc o).heap[w.heap.size]? = some o := by
  unfold World.alloc
  exact Array.getElem?_push_size
variable {P : Program} {cx : Cx} {G : Nat → Bool} {nt : Nat} {ρ : Rho} {env : Env} {a : Act} {w0 : World} {K : Nat → Option Obj} {h h' : AH} {w : World} {v : AV}

theorem HR.newCells (H : HR w0 K ρ h w) {t len : Nat} {z : List AV} {c : Tr AV} {cs : Array Value} (hlen : len ≤ cs.size)
    (hc : ∀ i, i < len → ∃ a v, cellZ len z c i = some a ∧ conc ρ a = some v ∧ cs[i]? = some v) :
    HR w0 K (upd ρ h.next ⟨w.heap.size, 0, cs.size⟩) (h.new (.cells true t len z c)) (w.alloc (.cells cs t (0, 0))) := by
  have he : Ext' ρ (upd ρ h.next ⟨w.heap.size, 0, cs.size⟩) := upd_ext (H.fresh _ (Nat.le_refl _)).1
  have hb : (w.alloc (.cells cs t (0, 0))).heap[w.heap.size]? = some (.cells cs t (0, 0)) := alloc_here _ _
  refine H.new _ _ _ rfl (show CellsR _ _ _ _ _ _ _ _ _ from ⟨by simp, fun i hi => ?_, fun _ => ⟨H.K_none (Nat.le_refl _), rfl, hlen, cs, hb, by simp⟩⟩)
  obtain ⟨a, v, h1, h2, h3⟩ := hc i hi
  refine ⟨a, v, h1, conc_mono he _ _ h2, ?_⟩
  simp only [Nat.zero_add, World.cell?, hb]
  exact h3

/-- what an operation that makes an object comes to -/
def BornR (ρ : Rho) (x : AObj) (mk : Nat → AV) (r : Result Value) (w : World) : Prop :=
  ∃ (obj : Obj) (E : Nat) (y : Value), r = .ok y (w.alloc obj) ∧ (∀ ρ' o, ρ' o = some ⟨w.heap.size, 0, E⟩ → conc ρ' (mk o) = some y) ∧
    (∀ K ρ', Ext' ρ ρ' → K w.heap.size = none → ObjR K ρ' (w.alloc obj) ⟨w.heap.size, 0, E⟩ x)
theorem born_cells {ρ : Rho} {t len : Nat} {z : List AV} {c : Tr AV} {cs : Array Value} (w : World) (hlen : len ≤ cs.size)
    (hc : ∀ i, i < len → ∃ a v, cellZ len z c i = some a ∧ conc ρ a = some v ∧ cs[i]? = some v) (K : Nat → Option Obj) (ρ' : Rho) (he : Ext' ρ ρ') (hK : K w.heap.size = none) :
    ObjR K ρ' (w.alloc (.cells cs t (0, 0))) ⟨w.heap.size, 0, cs.size⟩ (.cells true t len z c) := by
  have hb : (w.alloc (.cells cs t (0, 0))).heap[w.heap.size]? = some (.cells cs t (0, 0)) := alloc_here _ _
  refine (show CellsR _ _ _ _ _ _ _ _ _ from ⟨by simp, fun i hi => ?_, fun _ => ⟨hK, rfl, hlen, cs, hb, by simp⟩⟩)
  obtain ⟨a, v, h1, h2, h3⟩ := hc i hi
  refine ⟨a, v, h1, conc_mono he _ _ h2, ?_⟩
  simp only [Nat.zero_add, World.cell?, hb]
  exact h3
theorem BornR.ptr {ρ : Rho} {t len : Nat} {z : List AV} {c : Tr AV} {cs : Array Value} (w : World) (hlen : len ≤ cs.size)
    (hc : ∀ i, i < len → ∃ a v, cellZ len z c i = some a ∧ conc ρ a = some v ∧ cs[i]? = some v) :
    BornR ρ (.cells true t len z c) (fun o => .ptr o 0) (.ok (.pointer (some ⟨w.heap.size, 0, none⟩)) (w.alloc (.cells cs t (0, 0)))) w :=
  ⟨_, cs.size, _, rfl, fun ρ' o h => by simp [conc, h], born_cells w hlen hc⟩
theorem BornR.slice {ρ : Rho} {t len n m : Nat} {z : List AV} {c : Tr AV} {cs : Array Value} (w : World) (hlen : len ≤ cs.size)
    (hc : ∀ i, i < len → ∃ a v, cellZ len z c i = some a ∧ conc ρ a = some v ∧ cs[i]? = some v) :
    BornR ρ (.cells true t len z c) (fun o => .slice o 0 n (.ex m)) (.ok (.slice (some ⟨w.heap.size, 0, none⟩) n m) (w.alloc (.cells cs t (0, 0)))) w :=
  ⟨_, cs.size, _, rfl, fun ρ' o h => by simp [conc, h], born_cells w hlen hc⟩

noncomputable def bornAlloc (cx : Cx) (e : TypeId) : Option (AObj × (Nat → AV)) := match cx.ty.get e with | some d => some (.cells true e d.size d.zero .leaf, fun o => .ptr o 0) | none => none
noncomputable def bornBox (e : TypeId) (a : AV) : Option (AObj × (Nat → AV)) := some (.cells true e (cellsOf a).length [] (writeZ (cellsOf a) 0 .leaf), fun o => .ptr o 0)
noncomputable def bornMap : Option (AObj × (Nat → AV)) := some (.map [], fun o => .map o)
noncomputable def bornSlice (cx : Cx) (env : Env) (t : TypeId) (len : Nat) (parts : Array (Nat × Operand)) : Option (AObj × (Nat → AV)) :=
  match elemTD cx t with
  | some (e, td) => ifB (Nat.ble 1048576 (len * td.size)) none (match fillA (fun i => some (i * td.size, td.size)) (len * td.size) (partsA env parts.toList) .leaf with
    | some c => some (.cells true e (len * td.size) td.zero c, fun o => .slice o 0 len (.ex len))
    | none => none)
  | none => none
noncomputable def bornMake (cx : Cx) (t : TypeId) (l c : AV) : Option (AObj × (Nat → AV)) :=
  match elemTD cx t with
  | some (e, td) => (match l, c with
    | .int _ (.ofNat n), .int _ (.ofNat m) => ifB (Nat.ble n m) (ifB (Nat.ble m mx) (ifB (Nat.ble (Nat.mul m td.bytes) mx) (some (.cells true e (Nat.mul m td.size) td.zero .leaf, fun o => .slice o 0 n (.ex m))) none) none) none
    | _, _ => none)
  | none => none
noncomputable def bornA (cx : Cx) (env : Env) (o : Op) : Option (AObj × (Nat → AV)) :=
  match o with
  | .alloc e => bornAlloc cx e
  | .box e a => bornBox e (opnd env a)
  | .buildSlice t len parts => bornSlice cx env t len parts
  | .makeMap _ _ => bornMap
  | .makeSlice t l c => bornMake cx t (opnd env l) (opnd env c)
  | _ => none
noncomputable def outB (h : AH) (x : Option (AObj × (Nat → AV))) : Out := match x with | some p => .val (p.2 h.next) (h.new p.1) | none => .fail
theorem born_exec {o : Op} (hb : isBirth o = true) (env : Env) (h : AH) : execO o cx env h = outB h (bornA cx env o) := by
  cases o <;> first | (cases hb; done) | skip
  · show xAlloc cx h _ = outB h (bornAlloc cx _)
    unfold xAlloc bornAlloc
    split <;> (simp only [*]; rfl)
  · rfl
  · show xBuildSlice cx env h _ _ _ = outB h (bornSlice cx env _ _ _)
    unfold xBuildSlice bornSlice
    split
    · rename_i e td hel
      simp only [hel]
      generalize Nat.ble 1048576 (_ * td.size) = b
      cases b
      · simp only [ifB]
        split <;> (simp only [*]; rfl)
      · rfl
    · simp only [*]; rfl
  · rfl
  · rename_i t l c
    show xMakeSlice cx h t (opnd env l) (opnd env c) = outB h (bornMake cx t (opnd env l) (opnd env c))
    generalize opnd env l = l
    generalize opnd env c = c
    unfold xMakeSlice bornMake
    split
    · rename_i e td hel
      simp only [hel]
      cases l with
      | int k n =>
        cases n with
        | ofNat n =>
          cases c with
          | int k' m =>
            cases m with
            | ofNat m =>
              simp only [ifB]
              generalize Nat.ble n m = b1
              generalize Nat.ble m mx = b2
              generalize Nat.ble (Nat.mul m td.bytes) mx = b3
              cases b1 <;> cases b2 <;> cases b3 <;> rfl
            | negSucc m => rfl
          | _ => rfl
        | negSucc n => rfl
      | _ => rfl
    · simp only [*]; rfl

theorem alloc_ok (T : TysR P cx.ty) (w : World) {t : TypeId} {x : AObj} {mk : Nat → AV} (e : bornAlloc cx t = some (x, mk)) : BornR ρ x mk ((Instr.alloc t true (.tuple #[])).run P w) w := by
  unfold bornAlloc at e
  split at e
  · rename_i d hd
    cases e
    obtain ⟨vz, z1, z2⟩ := (T t d hd).zeroV
    have : (Instr.alloc t true (.tuple #[])).run P w = .ok (.pointer (some ⟨w.heap.size, 0, none⟩)) (w.alloc (.cells vz.cells t (0, 0))) := by
      simp [Instr.alloc, z2, newVar, Go.newRow]
    rw [this]
    have C := zero_row (ρ := ρ) z1
    exact BornR.ptr w (by rw [C.size]; exact Nat.le_refl _) C.cell
  · cases e

theorem box_ok (w : World) {t : TypeId} {a : AV} {vx : Value} {x : AObj} {mk : Nat → AV} (hx : conc ρ a = some vx) (e : bornBox t a = some (x, mk)) : BornR ρ x mk ((Instr.box t vx).run P w) w := by
  cases e
  have : (Instr.box t vx).run P w = .ok (.pointer (some ⟨w.heap.size, 0, none⟩)) (w.alloc (.cells vx.cells t (0, 0))) := by
    simp [Instr.box, newVar, Go.newRow]
  rw [this]
  have hl := cellsOf_conc hx
  have hlen := concL_length hl
  refine BornR.ptr w (by rw [← hlen]; simp) (fun i hi => ?_)
  rw [cellZ_write (by simp), if_pos (by simpa using hi), Nat.sub_zero]
  obtain ⟨u, u1, u2⟩ := concL_get hl i _ (List.getElem?_eq_getElem hi)
  exact ⟨_, u, List.getElem?_eq_getElem hi, u2, by simpa using u1⟩

theorem map_ok (w : World) {t : TypeId} {x : AObj} {mk : Nat → AV} (e : bornMap = some (x, mk)) : BornR ρ x mk ((Instr.makeMap t none).run P w) w := by
  cases e
  have : (Instr.makeMap t none).run P w = .ok (.map (some w.heap.size)) (w.alloc (.map #[] 0)) := by
    simp [Instr.makeMap]
  rw [this]
  refine ⟨_, 0, _, rfl, fun ρ' o h => by simp [conc, h], fun K ρ' he hK => ?_⟩
  exact (show MapR _ _ _ _ _ from ⟨by simp, hK, #[], 0, alloc_here _ _, trivial⟩)

theorem buildSlice_ok (T : TysR P cx.ty) (hE : EnvR nt ρ env a) (hG : GlobR G ρ) (w : World) {t : TypeId} {n : Nat} {parts : Array (Nat × Operand)} {x : AObj} {mk : Nat → AV} (hp : (parts.toList.all fun p => okX G nt p.2) = true)
    (e : bornSlice cx env t n parts = some (x, mk)) : BornR ρ x mk ((Instr.buildSlice t n (parts.map fun (i, x) => (i, a.eval x))).run P w) w := by
  unfold bornSlice at e
  split at e
  · rename_i el td hel
    obtain ⟨U, htd⟩ := elemTD_some T hel
    have U : P.underlying t = some (.slice el) := U
    have TR := T el td htd
    obtain ⟨vz, z1, z2⟩ := TR.zeroV
    cases hb : Nat.ble 1048576 (n * td.size) with
    | true => rw [ifB_true hb] at e; cases e
    | false =>
      rw [ifB_false hb] at e
      have hlt : n * td.size < 1048576 := by
        rcases Nat.lt_or_ge (n * td.size) 1048576 with h | h
        · exact h
        · rw [Nat.ble_eq_true_of_le h] at hb; cases hb
      split at e
      · rename_i c hc
        cases e
        have PR := parts_conc hE hG parts.toList hp
        -- the row of zeros
        have zr : ∃ zs : Array Value, ((n * td.size = 0 → zs = #[]) ∧ (n * td.size ≠ 0 → zs = vz.cells)) ∧ CR ρ (n * td.size) td.zero .leaf ((Array.range (n * td.size)).map (zs[· % zs.size]!)) := by
          by_cases hz : n * td.size = 0
          · exact ⟨#[], ⟨fun _ => rfl, fun e => absurd hz e⟩, ⟨by simp [hz], fun i hi => by omega⟩⟩
          · refine ⟨vz.cells, ⟨fun e => absurd e hz, fun _ => rfl⟩, zero_rows z1 (.inl (fun e => hz (by rw [e]; simp))) _ (fun _ => rfl)⟩
        obtain ⟨zs, y1, y2⟩ := zr
        obtain ⟨cs', k1, k2⟩ := fill_ok (placeV := fun i => some (i * td.size, td.size)) (fun i q hq => hq) _ _ _ _ _ PR y2 hc
        have k1' : Instr.fill (fun i => some (i * td.size, td.size)) ((Array.range (n * td.size)).map (zs[· % zs.size]!)) (parts.map fun (i, x) => (i, a.eval x)).toList = some cs' := by simpa using k1
        have run : (Instr.buildSlice t n (parts.map fun (i, x) => (i, a.eval x))).run P w = .ok (.slice (some ⟨w.heap.size, 0, none⟩) n n) (w.alloc (.cells cs' el (0, 0))) := by
          unfold Instr.buildSlice
          rw [Sem.run_bind, run_underlying U]
          simp only [Result.andThen]
          rw [Sem.run_bind, TR.size]
          simp only [Result.andThen]
          rw [if_neg (by omega)]
          by_cases hz : n * td.size = 0
          · rw [if_pos hz]
            rw [y1.1 hz] at k1'
            simp only [Sem.run_bind, Sem.run_pure, Result.andThen]
            rw [k1']
            simp [Go.newRow]
          · rw [if_neg hz]
            rw [y1.2 hz] at k1'
            simp only [Sem.run_bind, Sem.run_pure, Result.andThen, z2]
            rw [k1']
            simp [Go.newRow]
        rw [run]
        exact BornR.slice w (by rw [k2.size]; exact Nat.le_refl _) k2.cell
      · cases e
  · cases e

theorem BornR.eff (H : HR w0 K ρ h w) {x : AObj} {mk : Nat → AV} {r : Result Value} (hr : BornR ρ x mk r w) : EffR w0 K ρ h (h.new x) (mk h.next) r := by
  obtain ⟨obj, E, y, h1, h2, h3⟩ := hr
  exact ⟨_, y, _, h1, ExtN.upd (H.fresh _ (Nat.le_refl _)).1, h2 _ _ (upd_same _ _ _), H.new x obj ⟨w.heap.size, 0, E⟩ rfl (h3 _ _ (upd_ext (H.fresh _ (Nat.le_refl _)).1) (H.K_none (Nat.le_refl _)))⟩
end
end Go.Sh
end
section
namespace Go.Sh
open Go
section
variable {P : Program} {cx : Cx} {G : Nat → Bool} {nt : Nat} {ρ : Rho} {env : Env} {a : Act} {w0 : World} {K : Nat → Option Obj} {h h' : AH} {w : World} {v : AV}

theorem store_ok (T : TysR P cx.ty) (H : HR w0 K ρ h w) {t : TypeId} {d : TD} (ht : cx.ty.get t = some d) {p x : AV} {vp vx : Value} (hp : conc ρ p = some vp) (hx : conc ρ x = some vx) (e : storeA d h x p = some h') :
    ∃ w', (Instr.storeAt t vp vx).run P w = .ok () w' ∧ HR w0 K ρ h' w' := by
  obtain ⟨o, i, rfl, e1⟩ := onPtr_some (show p.onPtr none _ = some h' from e)
  obtain ⟨e2, e3⟩ := ifB_some e1
  cases ho : h.get o with
  | dead => rw [ho] at e3; cases e3
  | map es => rw [ho] at e3; cases e3
  | cells rw' t' len z c =>
    rw [ho] at e3
    have e3 : ifB rw' (ifB (Nat.ble (Nat.add i (cellsOf x).length) len) (ifB (atoms (cellsOf x)) (some (h.put o (.cells true t' len z (writeZ (cellsOf x) i c)))) none) none) none = some h' := e3
    obtain ⟨e4, e5⟩ := ifB_some e3
    obtain ⟨e6, e7⟩ := ifB_some e5
    obtain ⟨e8, e9⟩ := ifB_some e7
    cases e9
    subst e4
    cases hr : ρ o with
    | none => simp [conc, hr] at hp
    | some q =>
      simp only [conc, hr, Option.some.injEq] at hp
      subst hp
      have hl := cellsOf_conc hx
      have hlen := concL_length hl
      obtain ⟨cur, k1, k2, k3⟩ := H.write ho hr (Nat.le_of_ble_eq_true e6) hl
      have hsz : (cellsOf x).length = d.size := Nat.eq_of_beq_eq_true e2
      have hst := run_storeCells_at (P := P) q.b (q.off + i) t' vx.cells.toList 0 cur w k1 (by omega) (atoms_oneCell e8 hl)
      refine ⟨_, ?_, k3⟩
      have hcs : vx.cells.size = d.size := by rw [← hsz, ← hlen]; simp
      simp only [Nat.add_zero] at hst
      simp [Instr.storeAt, Instr.sureAddr, storeVar, (T t d ht).size, hcs, hst]

theorem beq_bytes (a b : List UInt8) : ((⟨a.toArray⟩ : ByteArray) == ⟨b.toArray⟩) = (a == b) := by
  rw [Bool.eq_iff_iff, MapKept.bytes_beq]
  simp

theorem sameK_ok {j : TypeDesc} {k k' : AV} {vk vk' : Value} (hk : conc ρ k = some vk) (hk' : conc ρ k' = some vk') {b : Bool} (hj : MapKept.IsKey j vk) (e : sameK k k' = some b) :
    Instr.sameNow j vk vk' = some b ∧ (b = true → vk = vk') := by
  unfold sameK at e
  split at e
  · rename_i i n
    split at e
    · rename_i i' n'
      obtain ⟨e1, e2⟩ := ifB_some e
      cases e2
      simp only [conc, Option.some.injEq] at hk hk'
      subst hk; subst hk'
      have hii : i = i' := by
        have := Nat.eq_of_beq_eq_true e1
        cases i <;> cases i' <;> first | rfl | (cases this)
      subst hii
      cases j <;> simp [MapKept.IsKey] at hj
      rw [iEq_eq]
      refine ⟨by simp [Instr.sameNow], fun e => ?_⟩
      have : n = n' := by simpa using e
      rw [this]
    · cases e
  · rename_i s
    split at e
    · rename_i s'
      cases e
      simp only [conc, Option.some.injEq] at hk hk'
      subst hk; subst hk'
      cases j <;> simp [MapKept.IsKey] at hj
      refine ⟨by simp [Instr.sameNow, beq_bytes], fun e => ?_⟩
      have : s = s' := by simpa using e
      rw [this]
    · cases e
  · cases e

theorem keyIs_ok (T : TysR P cx.ty) {kt : TypeId} {k : AV} {vk : Value} (hk : conc ρ k = some vk) (e : keyIs (cx.ty.get kt) k = true) : ∃ d, P.underlying kt = some d ∧ MapKept.IsKey d vk := by
  unfold keyIs at e
  split at e
  · rename_i j q1 q2 q3 q4 hkt
    split at e
    · rename_i j' n
      simp only [conc, Option.some.injEq] at hk
      subst hk
      have hii : j = j' := by
        have := Nat.eq_of_beq_eq_true e
        cases j <;> cases j' <;> first | rfl | (cases this)
      exact ⟨_, ty_kind T hkt, hii.symm⟩
    · cases e
  · rename_i q1 q2 q3 q4 hkt
    split at e
    · simp only [conc, Option.some.injEq] at hk
      subst hk
      exact ⟨_, ty_kind T hkt, trivial⟩
    · cases e
  · cases e

theorem find_ok {d : TypeDesc} {k : AV} {vk : Value} (hk : conc ρ k = some vk) (hj : MapKept.IsKey d vk) : ∀ (es : List (AV × AV)) (ms : List MapEntry) (i : Nat) (r : Option AV), ER ρ es ms → findA k es = some r →
    match r with
    | none => Instr.findNow d vk ms i = some none ∧ ∀ x, putA k x es = es ++ [(k, x)]
    | some x => ∃ j vx m, Instr.findNow d vk ms i = some (some (i + j, vx)) ∧ conc ρ x = some vx ∧ ms[j]? = some m ∧ m.key = vk ∧ ∀ (y : AV) (vy : Value), conc ρ y = some vy → ER ρ (putA k y es) (ms.modify j fun e => { e with key := vk, val := vy })
  | [], [], i, r, _, e => by
    cases e
    exact ⟨rfl, fun x => rfl⟩
  | p :: es, m :: ms, i, r, hr, e => by
    obtain ⟨h1, h2, h3⟩ := hr
    have e : (match sameK k p.1 with | some true => some (some p.2) | some false => findA k es | none => none) = some r := e
    cases hs : sameK k p.1 with
    | none => rw [hs] at e; cases e
    | some b =>
      obtain ⟨s1, s2⟩ := sameK_ok hk h1 hj hs
      cases b with
      | true =>
        rw [hs] at e
        cases e
        refine ⟨0, m.val, m, by simp [Instr.findNow, s1], h2, rfl, (s2 rfl).symm, fun y vy hy => ?_⟩
        have : putA k y (p :: es) = (k, y) :: es := by
          show (match sameK k p.1 with | some true => (k, y) :: es | _ => p :: putA k y es) = _
          rw [hs]
        rw [this]
        exact ⟨hk, hy, h3⟩
      | false =>
        rw [hs] at e
        have ih := find_ok hk hj es ms (i + 1) r h3 e
        cases r with
        | none =>
          obtain ⟨i1, i2⟩ := ih
          refine ⟨by simp [Instr.findNow, s1, i1], fun x => ?_⟩
          show (match sameK k p.1 with | some true => (k, x) :: es | _ => p :: putA k x es) = _
          rw [hs, i2]
          rfl
        | some x =>
          obtain ⟨j, vx, m', i1, i2, i3, i4, i5⟩ := ih
          refine ⟨j + 1, vx, m', by simp [Instr.findNow, s1, i1]; omega, i2, by simpa using i3, i4, fun y vy hy => ?_⟩
          have : putA k y (p :: es) = p :: putA k y es := by
            show (match sameK k p.1 with | some true => (k, y) :: es | _ => p :: putA k y es) = _
            rw [hs]
          rw [this]
          exact ⟨h1, h2, i5 y vy hy⟩
  | [], _ :: _, _, _, hr, _ => hr.elim
  | _ :: _, [], _, _, hr, _ => hr.elim
theorem ER.push {es : List (AV × AV)} {ms : List MapEntry} {k x : AV} {m : MapEntry} (h : ER ρ es ms) (hk : conc ρ k = some m.key) (hx : conc ρ x = some m.val) : ER ρ (es ++ [(k, x)]) (ms ++ [m]) := by
  induction es generalizing ms with
  | nil =>
    cases ms with
    | nil => exact ⟨hk, hx, trivial⟩
    | cons => exact h.elim
  | cons p es ih =>
    cases ms with
    | nil => exact h.elim
    | cons m' ms => exact ⟨h.1, h.2.1, ih h.2.2⟩

theorem update_ok (T : TysR P cx.ty) (H : HR w0 K ρ h w) {t : TypeId} {m k x : AV} {vm vk vx : Value} (hm : conc ρ m = some vm) (hk : conc ρ k = some vk) (hx : conc ρ x = some vx)
    (e : xUpdate cx h t m k x = .val v h') : v = .tup [] ∧ ∃ w', (Instr.mapUpdate t vm vk vx).run P w = .ok () w' ∧ HR w0 K ρ h' w' := by
  unfold xUpdate at e
  split at e
  · rename_i o
    split at e
    · rename_i kt et q1 q2 q3 q4 ht
      have U : P.underlying t = some (.map kt et) := ty_kind T ht
      cases hki : keyIs (cx.ty.get kt) k with
      | false => rw [ifB_false hki] at e; cases e
      | true =>
        rw [ifB_true hki] at e
        obtain ⟨d, hd, hj⟩ := keyIs_ok T hk hki
        unfold updE at e
        split at e
        · rename_i es ho
          split at e
          · cases e
          · rename_i r hf
            cases e
            obtain ⟨q, q1, q2⟩ := H.objs o (by rw [ho]; intro e; cases e)
            rw [ho] at q2
            obtain ⟨lt, free, arr, clk, m1, m2⟩ := (show MapR K ρ w q es from q2)
            simp only [conc, q1, Option.some.injEq] at hm
            subst hm
            have F := find_ok hk hj es arr.toList 0 r m2 hf
            have hput : ∀ (arr' : Array MapEntry) (clk' : Nat), ER ρ (putA k x es) arr'.toList → HR w0 K ρ (h.put o (.map (putA k x es))) { w with heap := w.heap.setIfInBounds q.b (.map arr' clk') } := by
              intro arr' clk' hE
              refine H.replace (p := q) (by rw [ho]; exact trivial) q1 rfl rfl rfl (by simp) (fun b hb => by simp [Ne.symm hb]) ?_ (.inr (.inr trivial))
              exact (show MapR _ _ _ _ _ from ⟨by simpa using lt, free, arr', clk', by simp [lt], hE⟩)
            cases r with
            | none =>
              obtain ⟨f1, f2⟩ := F
              refine ⟨rfl, _, ?_, hput (arr.push { key := vk, val := vx, born := clk }) (clk + 1) ?_⟩
              · simp [Instr.mapUpdate, run_underlying U, MapKept.run_getObj_map m1, MapKept.run_checkKey hd hj, MapKept.run_findKey hd f1, MapKept.run_setObj_map _ m1, Result.andThen]
              · rw [f2, Array.toList_push]
                exact m2.push hk hx
            | some y =>
              obtain ⟨j, vy, me, f1, f2, f3, f4, f5⟩ := F
              rw [Nat.zero_add] at f1
              have hkey : ((arr[j]?).map (·.key)).getD vk = vk := by
                rw [Array.getElem?_toList] at f3
                rw [f3]; exact f4
              refine ⟨rfl, _, ?_, hput (arr.modify j fun e => { e with key := vk, val := vx }) clk ?_⟩
              · simp [Instr.mapUpdate, run_underlying U, MapKept.run_getObj_map m1, MapKept.run_checkKey hd hj, MapKept.run_findKey hd f1, hkey, MapKept.run_keyThatStays hj, MapKept.run_setObj_map _ m1, Result.andThen]
              · rw [Array.toList_modify]
                exact f5 x vx hx
        · cases e
    · cases e
  · cases e

theorem lookup_ok (T : TysR P cx.ty) (H : HR w0 K ρ h w) {t : TypeId} {m k : AV} {vm vk : Value} {ok : Bool} (hm : conc ρ m = some vm) (hk : conc ρ k = some vk)
    (e : xLookup cx h t m k ok = .val v h') : ReadR P ρ h h' w v ((Instr.lookup t vm vk ok).run P w) := by
  unfold xLookup at e
  split at e
  · rename_i kt et q1 q2 q3 q4 ht
    have U : P.underlying t = some (.map kt et) := ty_kind T ht
    cases hki : keyIs (cx.ty.get kt) k with
    | false => rw [ifB_false hki] at e; cases e
    | true =>
      rw [ifB_true hki] at e
      obtain ⟨d, hd, hj⟩ := keyIs_ok T hk hki
      split at e
      · cases e
      · rename_i td htd
        split at e
        · cases e
        · rename_i es hes
          have key : ∃ arr : Array MapEntry, ER ρ es arr.toList ∧ (vm = .map none ∧ arr = #[] ∨ ∃ b clk, vm = .map (some b) ∧ w.heap[b]? = some (.map arr clk)) := by
            unfold entries at hes
            split at hes
            · cases hes
              simp only [conc, Option.some.injEq] at hm
              exact ⟨#[], trivial, .inl ⟨hm.symm, rfl⟩⟩
            · rename_i o
              split at hes
              · rename_i es' ho
                cases hes
                obtain ⟨q, q1, q2⟩ := H.objs o (by rw [ho]; intro e; cases e)
                rw [ho] at q2
                obtain ⟨lt, free, arr, clk, m1, m2⟩ := (show MapR K ρ w q es from q2)
                simp only [conc, q1, Option.some.injEq] at hm
                exact ⟨arr, m2, .inr ⟨q.b, clk, hm.symm, m1⟩⟩
              · cases hes
            · cases hes
          obtain ⟨arr, m2, hvm⟩ := key
          split at e
          · cases e
          · rename_i hf
            have F := find_ok hk hj es arr.toList 0 none m2 hf
            split at e
            · cases e
            · rename_i z hz
              unfold zeroA at hz
              obtain ⟨z1, z2⟩ := ifB_some' hz
              obtain ⟨vz, y1, y2⟩ := (T et td htd).zeroV
              obtain ⟨z', x1, x2⟩ := y1.one z1
              rw [z2] at x1; cases x1
              have x2 : conc ρ z = some vz := conc_ρ0 x2
              cases e
              refine ⟨rfl, (if ok then .tuple #[vz, .bool false] else vz), by cases ok <;> simp [ifB, conc, concL, x2], ?_⟩
              rcases hvm with ⟨rfl, rfl⟩ | ⟨b, clk, rfl, m1⟩
              · simp [Instr.lookup, run_underlying U, MapKept.run_checkKey hd hj, MapKept.run_findKey hd F.1, y2, Result.andThen]
              · simp [Instr.lookup, run_underlying U, MapKept.run_getObj_map m1, MapKept.run_checkKey hd hj, MapKept.run_findKey hd F.1, y2, Result.andThen]
          · rename_i x hf
            obtain ⟨j, vy, me, f1, f2, f3, f4, f5⟩ := find_ok hk hj es arr.toList 0 (some x) m2 hf
            cases e
            refine ⟨rfl, (if ok then .tuple #[vy, .bool true] else vy), by cases ok <;> simp [ifB, conc, concL, f2], ?_⟩
            rcases hvm with ⟨rfl, rfl⟩ | ⟨b, clk, rfl, m1⟩
            · simp [Instr.findNow] at f1
            · simp [Instr.lookup, run_underlying U, MapKept.run_getObj_map m1, MapKept.run_checkKey hd hj, MapKept.run_findKey hd f1, Result.andThen]
  · cases e
end
end Go.Sh
end
section
namespace Go.Sh
open Go
section
variable {P : Program} {cx : Cx} {G : Nat → Bool} {nt : Nat} {ρ : Rho} {env : Env} {a : Act} {w0 : World} {K : Nat → Option Obj} {h h' : AH} {w : World} {v : AV}

theorem makeSlice_ok (T : TysR P cx.ty) (w : World) {t : TypeId} {l c : AV} {vl vc : Value} {x : AObj} {mk : Nat → AV} (hl : conc ρ l = some vl) (hc : conc ρ c = some vc)
    (e : bornMake cx t l c = some (x, mk)) : BornR ρ x mk ((Instr.makeSlice t vl vc).run P w) w := by
  unfold bornMake at e
  split at e
  · rename_i el td hel
    obtain ⟨U, htd⟩ := elemTD_some T hel
    have U : P.underlying t = some (.slice el) := U
    have TR := T el td htd
    obtain ⟨vz, z1, z2⟩ := TR.zeroV
    obtain ⟨inf, i1, i2, i3, _⟩ := TR.info
    split at e
    · rename_i k n k' m
      simp only [conc, Option.some.injEq] at hl hc
      subst hl; subst hc
      cases b1 : Nat.ble n m with
      | false => rw [ifB_false b1] at e; cases e
      | true =>
        rw [ifB_true b1] at e
        cases b2 : Nat.ble m mx with
        | false => rw [ifB_false b2] at e; cases e
        | true =>
          rw [ifB_true b2] at e
          cases b3 : Nat.ble (Nat.mul m td.bytes) mx with
          | false => rw [ifB_false b3] at e; cases e
          | true =>
            rw [ifB_true b3] at e
            cases e
            have b1 : n ≤ m := Nat.le_of_ble_eq_true b1
            have b2 : m ≤ 1099511627776 := Nat.le_of_ble_eq_true b2
            have b3 : m * td.bytes ≤ 1099511627776 := Nat.le_of_ble_eq_true b3
            have wm : IntKind.i64.wrap (Int.ofNat m) = (m : Int) := wrap_small .i64 m (by show m < 9223372036854775808; omega)
            have wn : IntKind.i64.wrap (Int.ofNat n) = (n : Int) := wrap_small .i64 n (by show n < 9223372036854775808; omega)
            have zr : ∃ zs : Array Value, ((m * td.size = 0 → zs = #[]) ∧ (m * td.size ≠ 0 → zs = vz.cells)) ∧ CR ρ (m * td.size) td.zero .leaf ((Array.range (m * td.size)).map (zs[· % zs.size]!)) := by
              by_cases hz : m * td.size = 0
              · exact ⟨#[], ⟨fun _ => rfl, fun e => absurd hz e⟩, ⟨by simp [hz], fun i hi => by omega⟩⟩
              · refine ⟨vz.cells, ⟨fun e => absurd e hz, fun _ => rfl⟩, zero_rows z1 (.inl (fun e => hz (by rw [e]; simp))) _ (fun _ => rfl)⟩
            obtain ⟨zs, y1, y2⟩ := zr
            have c1 : ((m : Int) < 0) = False := by simp
            have c2 : ((n : Int) < 0) = False := by simp
            have c3 : ¬ ((inf.bytes : Int) * (m : Int) > 2 ^ 48) := by
              rw [i3]
              have : ((td.bytes : Int) * (m : Int)) = ((m * td.bytes : Nat) : Int) := by push_cast; rw [Int.mul_comm]
              rw [this]
              omega
            have c4 : ¬ ((n : Int) > (m : Int)) := by omega
            have run : (Instr.makeSlice t (.int k (Int.ofNat n)) (.int k' (Int.ofNat m))).run P w = .ok (.slice (some ⟨w.heap.size, 0, none⟩) n m) (w.alloc (.cells ((Array.range (m * td.size)).map (zs[· % zs.size]!)) el (0, 0))) := by
              have hti : (typeInfo el).run P w = .ok inf w := by simp [typeInfo, i1]
              unfold Instr.makeSlice
              rw [Sem.run_bind, run_underlying U]
              simp only [Result.andThen]
              simp only [Sem.run_bind, asInt, asIntOf, Sem.run_pure, Result.andThen, hti, wm, wn]
              rw [if_neg (by simp [c3, c4]; omega)]
              simp only [Sem.run_bind, run_askRoom, Result.andThen, TR.size, Int.toNat_natCast]
              by_cases hz : m * td.size = 0
              · rw [if_pos hz, y1.1 hz]
                simp [Go.newRow]
              · rw [if_neg hz, y1.2 hz]
                simp [Go.newRow, z2]
            rw [run]
            exact BornR.slice w (by rw [y2.size]; exact Nat.le_refl _) y2.cell
    · cases e
  · cases e

/-- the cells that a slice or a string tells -/
theorem sliceCells_ok (H : HR w0 K ρ h w) {size : Nat} {x : AV} {vx : Value} {l : List AV} {n : Nat} (hx : conc ρ x = some vx) (e : sliceCells h size x = some (l, n)) :
    (Builtin.lenOf vx).run P w = .ok n w ∧ l.length = n * size ∧
      ∃ vs : List Value, concL ρ l = some vs ∧ (Builtin.firstCells size n vx).run P w = .ok vs.toArray w ∧
        ∀ m, m ≤ n → (Builtin.firstCells size m vx).run P w = .ok (vs.take (m * size)).toArray w := by
  unfold sliceCells at e
  split at e
  · cases e
    simp only [conc, Option.some.injEq] at hx
    subst hx
    exact ⟨rfl, by simp, [], by simp [concL], rfl, fun m hm => by simp [Builtin.firstCells]⟩
  · rename_i o i n' c
    split at e
    · rename_i rw' t len z c' ho
      split at e
      · rename_i l' hl
        cases e
        obtain ⟨q, q1, q2⟩ := H.objs o (by rw [ho]; intro e; cases e)
        rw [ho] at q2
        have q2 : CellsR K ρ w q rw' t len z c' := q2
        obtain ⟨vs, v1, v2, v3⟩ := q2.read hl
        have hlen := concL_length v1
        have hread : ∀ m, m ≤ n → (loadCells ⟨q.b, q.off + i, none⟩ (m * size)).run P w = .ok (vs.take (m * size)).toArray w := by
          intro m hm
          have := run_loadCells_list (P := P) w (⟨q.b, q.off + i, none⟩ : Addr) (vs.take (m * size)) (fun j v hj => v3 j v (by
            rw [List.getElem?_take] at hj
            split at hj
            · exact hj
            · cases hj))
          rw [List.length_take, v2, Nat.min_eq_left (Nat.mul_le_mul_right _ hm)] at this
          exact this
        have hfull : (vs.take (n * size)) = vs := List.take_of_length_le (by omega)
        cases c <;> simp only [conc, q1, Option.some.injEq] at hx <;> subst hx <;> refine ⟨rfl, by rw [← hlen, v2], vs, v1, ?_, fun m hm => by simpa [Builtin.firstCells] using hread m hm⟩ <;> (have := hread n (Nat.le_refl _); rw [hfull] at this; simpa [Builtin.firstCells] using this)
      · cases e
    · cases e
  · rename_i s
    obtain ⟨e0, e⟩ := ifB_some e
    have hsz1 : size = 1 := Nat.eq_of_beq_eq_true e0
    subst hsz1
    cases e
    simp only [conc, Option.some.injEq] at hx
    subst hx
    have hc : ∀ s : List UInt8, concL ρ (s.map fun b => AV.int .u8 b.toNat) = some (s.map fun b => Value.int .u8 b.toNat) := by
      intro s
      induction s with
      | nil => rfl
      | cons b s ih => simp [concL, conc, ih]
    refine ⟨by simp [Builtin.lenOf, bytes_size], by simp, _, hc s, ?_, fun m hm => ?_⟩
    · simp [Builtin.firstCells]
    · simp [Builtin.firstCells]
  · cases e
end
end Go.Sh
end
section
namespace Go.Sh
open Go
section
variable {P : Program} {cx : Cx} {G : Nat → Bool} {nt : Nat} {ρ : Rho} {env : Env} {a : Act} {w0 : World} {K : Nat → Option Obj} {h h' : AH} {w : World} {v : AV}

/-- what an append reads of its second argument -/
structure SrcR (P : Program) (size bytes : Nat) (zc : Array Value) (tx : TypeId) (x : Value) (n : Nat) (news : List Value) (w : World) : Prop where
  len : news.length = n * size
  how : (((∃ e', P.underlying tx = some (.slice e')) ∨ P.underlying tx = some .string) ∧ (∀ w' : World, (Builtin.lenOf x).run P w' = .ok n w') ∧ (Builtin.firstCells size n x).run P w = .ok news.toArray w ∧ (Builtin.firstCells size n x).run P w.drew = .ok news.toArray w.drew) ∨
    (∃ k kx, P.underlying tx = some (.int k) ∧ x = .int kx (n : Int) ∧ n ≤ 1099511627776 ∧ n * bytes ≤ 1099511627776 ∧ news.toArray = Builtin.zeroCells zc n)

theorem zeroCells_nil (zc : Array Value) (n : Nat) (h : n * zc.size = 0) : Builtin.zeroCells zc n = #[] := by
  simp [Builtin.zeroCells, h]

theorem append_room {t tx ty e : TypeId} {i : TypeInfo} {zv : Value} (ht : P.underlying t = some (.slice e)) (hi : P.info? e = some i) (hz : i.zero = some zv) (hzs : zv.cells.size = i.size) {ad : Option Addr} {sLen sCap : Nat} {x : Value} {n : Nat} {news : List Value} {w w' : World}
    (hs : SrcR P i.size i.bytes zv.cells tx x n news w) (hroom : sLen + n ≤ sCap) (hst : match ad with | some a => (storeCells (a.add (sLen * i.size)) news).run P w = .ok () w' | none => w' = w) :
    (Builtin.append_ #[t, tx] ty #[.slice ad sLen sCap, x]).run P w = .ok (.slice ad (sLen + n) sCap) w' := by
  rcases hs.how with ⟨hk, h1, h2, h3⟩ | ⟨k, kx, hk, rfl, hn, hb, hnews⟩
  · cases ad with
    | none =>
      have hst : w' = w := hst
      subst hst
      rcases hk with ⟨e', hk⟩ | hk <;> simp [Builtin.append_, run_underlying ht, run_underlying hk, sizeOf, typeInfo, hi, h1, hroom, h2]
    | some a =>
      have hst : (storeCells (a.add (sLen * i.size)) news).run P w = .ok () w' := hst
      rcases hk with ⟨e', hk⟩ | hk <;> simp [Builtin.append_, run_underlying ht, run_underlying hk, sizeOf, typeInfo, hi, h1, hroom, h2, hst]
  · have hw : IntKind.i64.wrap (n : Int) = n := wrap_small .i64 n (by show n < 9223372036854775808; omega)
    have hneg : ¬ ((n : Int) < 0) := by omega
    have hbig : ¬ (281474976710656 < (n : Int) * (i.bytes : Int)) := by rw [← Int.natCast_mul]; omega
    have e0 : ∀ A : Array Value, A.toList = news → A = news.toArray := fun A hA => by rw [← hA]
    by_cases hz0 : n * i.size = 0
    · have hnil : news = [] := List.eq_nil_of_length_eq_zero (by rw [hs.len, hz0])
      subst hnil
      cases ad with
      | none =>
        have hst : w' = w := hst
        subst hst
        simp [Builtin.append_, run_underlying ht, run_underlying hk, sizeOf, typeInfo, hi, asInt, asIntOf, hw, hneg, hbig, hroom, hz0]
      | some a =>
        have hst : w' = w := by
          have : (storeCells (a.add (sLen * i.size)) []).run P w = .ok () w' := hst
          simp [storeCells] at this
          exact this.symm
        subst hst
        simp [Builtin.append_, run_underlying ht, run_underlying hk, sizeOf, typeInfo, hi, asInt, asIntOf, hw, hneg, hbig, hroom, hz0, storeCells]
    · cases ad with
      | none =>
        have hst : w' = w := hst
        subst hst
        simp [Builtin.append_, run_underlying ht, run_underlying hk, sizeOf, typeInfo, zeroValue, hi, hz, asInt, asIntOf, hw, hneg, hbig, hroom, hz0, ← hnews]
      | some a =>
        have hst : (storeCells (a.add (sLen * i.size)) news).run P w = .ok () w' := hst
        simp [Builtin.append_, run_underlying ht, run_underlying hk, sizeOf, typeInfo, zeroValue, hi, hz, asInt, asIntOf, hw, hneg, hbig, hroom, hz0, ← hnews, hst]

theorem append_grow {t tx ty e : TypeId} {i : TypeInfo} {zv : Value} (ht : P.underlying t = some (.slice e)) (hi : P.info? e = some i) (hz : i.zero = some zv) (hzs : zv.cells.size = i.size) {ad : Option Addr} {sLen sCap : Nat} {x : Value} {n : Nat} {news olds : List Value} {w : World}
    (hs : SrcR P i.size i.bytes zv.cells tx x n news w) (hg : sCap < sLen + n) (hm : sLen + n ≤ 1099511627776) (hb : (sLen + n) * i.bytes ≤ 1099511627776)
    (hold : (Builtin.firstCells i.size sLen (.slice ad sLen sCap)).run P w.drew = .ok olds.toArray w.drew) :
    (Builtin.append_ #[t, tx] ty #[.slice ad sLen sCap, x]).run P w =
      .ok (.slice (some ⟨w.heap.size, 0, none⟩) (sLen + n) (grownCap w (sLen + n) sCap e))
        (w.drew.alloc (.cells ((olds ++ news).toArray ++ Builtin.zeroCells zv.cells (grownCap w (sLen + n) sCap e - (sLen + n))) e)) := by
  have hn : ¬ (sLen + n ≤ sCap) := by omega
  have h63' : ¬ (9223372036854775807 < ((sLen : Int) + (n : Int))) := by omega
  have hfit := growslice_fits (old := sCap) (need := sLen + n) (bytes := i.bytes) hg (by omega)
  have h48' : ¬ (281474976710656 < Builtin.nextslicecap (sLen + n) sCap * i.bytes) := by omega
  rcases hs.how with ⟨hk, h1, h2, h3⟩ | ⟨k, kx, hk, rfl, hn', hb', hnews⟩
  · rcases hk with ⟨e', hk⟩ | hk <;>
    (simp [Builtin.append_, run_underlying ht, run_underlying hk, sizeOf, typeInfo, zeroValue, hi, hz, h1, hn, h63', h48', Question.forced, h3, hold, Go.newRow, grownCap]
     congr 2
     apply Array.ext'
     simp [List.append_assoc])
  · have hw : IntKind.i64.wrap (n : Int) = n := wrap_small .i64 n (by show n < 9223372036854775808; omega)
    have hneg : ¬ ((n : Int) < 0) := by omega
    have hbig : ¬ (281474976710656 < (n : Int) * (i.bytes : Int)) := by rw [← Int.natCast_mul]; omega
    by_cases hz0 : n * i.size = 0
    · have hnil : news = [] := List.eq_nil_of_length_eq_zero (by rw [hs.len, hz0])
      subst hnil
      (simp [Builtin.append_, run_underlying ht, run_underlying hk, sizeOf, typeInfo, zeroValue, hi, hz, asInt, asIntOf, hw, hneg, hbig, hn, h63', h48', hz0, Question.forced, hold, Go.newRow, grownCap])
    · (simp [Builtin.append_, run_underlying ht, run_underlying hk, sizeOf, typeInfo, zeroValue, hi, hz, asInt, asIntOf, hw, hneg, hbig, hn, h63', h48', hz0, Question.forced, hold, Go.newRow, grownCap, ← hnews]
       congr 2
       apply Array.ext'
       simp [List.append_assoc])
end
end Go.Sh
end
