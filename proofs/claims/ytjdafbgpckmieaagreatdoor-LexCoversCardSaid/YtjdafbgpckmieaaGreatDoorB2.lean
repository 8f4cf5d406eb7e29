/-
  The abstract evaluator of closed calls, part 2: sound on every tape. Texts joined by a program.
-/
import Derived.Test.YtjdafbgpckmieaaGreatDoorB1
import Derived.Orders
import Derived.Laws.Externs
import Derived.Lib.Bytealg
import Derived.Scope
import Derived.LoopN
set_option linter.unusedVariables false
set_option linter.unusedSimpArgs false
section
namespace Go.Sh
open Go
section
variable {P : Program} {cx : Cx} {G : Nat → Bool} {nt : Nat} {ρ : Rho} {env : Env} {a : Act} {w0 : World} {K : Nat → Option Obj} {h h' : AH} {w : World} {v : AV}

theorem HR.kill (H : HR w0 K ρ h w) (o : Nat) : HR w0 K ρ (h.put o .dead) w := by
  refine ⟨H.os, H.tape, H.output, H.size, H.frame, fun o' ho' => ?_, fun o' ho' => ?_, fun x y px py hx hy hxy e1 e2 => ?_⟩
  · obtain ⟨f1, f2⟩ := H.fresh o' ho'
    exact ⟨f1, by rw [AH.get_put]; split; rfl; exact f2⟩
  · rw [AH.get_put] at ho' ⊢
    by_cases e : o' = o
    · rw [if_pos e] at ho'; exact absurd rfl ho'
    · rw [if_neg e] at ho' ⊢
      exact H.objs o' ho'
  · rw [AH.get_put] at hx hy
    by_cases ex : x = o
    · rw [if_pos ex] at hx; exact hx.elim
    · by_cases ey : y = o
      · rw [if_pos ey] at hy; exact absurd rfl hy
      · rw [if_neg ex] at hx
        rw [if_neg ey] at hy
        exact H.excl x y px py hx hy hxy e1 e2

/-- an object that bears a new name -/
theorem HR.rename {X : AObj} {o : Nat} {q : Pl} (H : HR w0 K ρ (h.put o X) w) (hX : Owns X) (hp : ρ o = some q) : HR w0 K (upd ρ h.next q) ((h.new X).put o .dead) w := by
  have hlt : o < h.next := by
    rcases Nat.lt_or_ge o h.next with h1 | h1
    · exact h1
    · have := (H.fresh o (by rw [AH.next_put]; exact h1)).1
      rw [hp] at this; cases this
  have hfr : ρ h.next = none := (H.fresh h.next (by rw [AH.next_put]; exact Nat.le_refl _)).1
  have he : Ext' ρ (upd ρ h.next q) := upd_ext hfr
  have gt : ∀ o', ((h.new X).put o .dead).get o' = if o' = o then .dead else if o' = h.next then X else h.get o' := by
    intro o'
    rw [AH.get_put, AH.get_new]
  have go : (h.put o X).get o = X := by rw [AH.get_put, if_pos rfl]
  have gn : ∀ o', o' ≠ o → (h.put o X).get o' = h.get o' := fun o' e => by rw [AH.get_put, if_neg e]
  refine ⟨H.os, H.tape, H.output, H.size, H.frame, fun o' ho' => ?_, fun o' ho' => ?_, fun x y px py hx hy hxy e1 e2 => ?_⟩
  · have ho' : h.next + 1 ≤ o' := ho'
    obtain ⟨f1, f2⟩ := H.fresh o' (by rw [AH.next_put]; omega)
    rw [upd_ne _ _ _ (by omega), gt, if_neg (by omega), if_neg (by omega)]
    rw [gn _ (by omega)] at f2
    exact ⟨f1, f2⟩
  · rw [gt] at ho' ⊢
    by_cases e : o' = o
    · rw [if_pos e] at ho'; exact absurd rfl ho'
    · rw [if_neg e] at ho' ⊢
      by_cases e' : o' = h.next
      · subst e'
        rw [if_pos rfl]
        obtain ⟨q', q1, q2⟩ := H.objs o (by rw [go]; exact hX.alive)
        rw [hp] at q1; cases q1
        rw [go] at q2
        exact ⟨q, upd_same _ _ _, q2.carry he (Nat.le_refl _) rfl (fun hx => q2.free hx)⟩
      · rw [if_neg e'] at ho' ⊢
        obtain ⟨q', q1, q2⟩ := H.objs o' (by rw [gn _ e]; exact ho')
        rw [gn _ e] at q2
        exact ⟨q', by rw [upd_ne _ _ _ e']; exact q1, q2.carry he (Nat.le_refl _) rfl (fun hx => q2.free hx)⟩
  · have old : ∀ z pz, z ≠ o → z ≠ h.next → h.get z ≠ .dead → upd ρ h.next q z = some pz → pz.b ≠ q.b := by
      intro z pz z1 z2 hz hpz
      rw [upd_ne _ _ _ z2] at hpz
      exact fun e => H.excl o z q pz (by rw [go]; exact hX) (by rw [gn _ z1]; exact hz) (Ne.symm z1) hp hpz e.symm
    rw [gt] at hx hy
    by_cases ex : x = o
    · rw [if_pos ex] at hx; exact hx.elim
    · by_cases ey : y = o
      · rw [if_pos ey] at hy; exact absurd rfl hy
      · rw [if_neg ex] at hx
        rw [if_neg ey] at hy
        by_cases fx : x = h.next
        · by_cases fy : y = h.next
          · exact absurd (fx.trans fy.symm) hxy
          · rw [if_neg fy] at hy
            subst fx
            rw [upd_same] at e1; cases e1
            exact (old y py ey fy hy e2).symm
        · rw [if_neg fx] at hx
          by_cases fy : y = h.next
          · subst fy
            rw [upd_same] at e2; cases e2
            exact old x px ex fx hx.alive e1
          · rw [if_neg fy] at hy
            rw [upd_ne _ _ _ fx] at e1
            rw [upd_ne _ _ _ fy] at e2
            exact H.excl x y px py (by rw [gn _ ex]; exact hx) (by rw [gn _ ey]; exact hy) hxy e1 e2

/-- cells that were written, one behind another, from the head on -/
theorem cells_of_list {d : List AV} {l : List AV} {vs : List Value} (hl : concL ρ l = some vs) (rest : Array Value) : ∀ i, i < l.length → ∃ a v, cellZ l.length d (writeZ l 0 .leaf) i = some a ∧ conc ρ a = some v ∧ (vs.toArray ++ rest)[i]? = some v := by
  intro i hi
  have hlen := concL_length hl
  rw [cellZ_write (by omega), if_pos (by omega), Nat.sub_zero]
  obtain ⟨u, u1, u2⟩ := concL_get hl i _ (List.getElem?_eq_getElem hi)
  refine ⟨_, u, List.getElem?_eq_getElem hi, u2, ?_⟩
  rw [Array.getElem?_append_left (by simp; omega)]
  simpa using u1

theorem size_zeros (zc : Array Value) (n : Nat) : (Builtin.zeroCells zc n).size = n * zc.size := by simp [Builtin.zeroCells]

theorem news_ok (T : TysR P cx.ty) (H : HR w0 K ρ h w) {e : TypeId} {d : TD} (he : cx.ty.get e = some d) {u : TypeId} {du : TD} (hu : cx.ty.get u = some du) {x : AV} {vx : Value} {c : List AV} {m : Nat} (hx : conc ρ x = some vx)
    (hn : newsA h d du.k x = some (c, m)) {zv : Value} (hz : ZeroR d zv) : ∃ news, concL ρ c = some news ∧ c.length = m * d.size ∧ SrcR P d.size d.bytes zv.cells u vx m news w := by
  have KU := ty_kind T hu
  unfold newsA at hn
  split at hn
  · rename_i k hk
    rw [hk] at KU
    split at hn
    · rename_i kx n
      obtain ⟨b1, hn⟩ := ifB_some hn
      obtain ⟨b2, hn⟩ := ifB_some hn
      split at hn
      · rename_i l hl
        cases hn
        simp only [conc, Option.some.injEq] at hx
        subst hx
        have hzz : Builtin.zeroCells zv.cells m = (Array.range (m * d.size)).map (zv.cells[· % zv.cells.size]!) := by
          simp only [Builtin.zeroCells, hz.size]
        obtain ⟨l1, l2⟩ := readZ_spec _ _ _ _ _ _ hl
        have how : SrcR P d.size d.bytes zv.cells u (.int kx (Int.ofNat m)) m (Builtin.zeroCells zv.cells m).toList w :=
          ⟨by simp [size_zeros, hz.size], .inr ⟨k, kx, KU, rfl, Nat.le_of_ble_eq_true b1, Nat.le_of_ble_eq_true b2, by simp⟩⟩
        refine ⟨_, ?_, l1, how⟩
        by_cases h0 : d.size = 0
        · have e1 : c = [] := List.eq_nil_of_length_eq_zero (by rw [l1, h0, Nat.mul_zero])
          rw [e1, zeroCells_nil _ _ (by rw [hz.size, h0, Nat.mul_zero])]
          rfl
        · have C := zero_rows (ρ := ρ) hz (m := m) (.inl h0) zv.cells (fun _ => rfl)
          have := C.read hl
          rw [this, List.drop_zero, List.take_of_length_le (by simp), hzz]
      · cases hn
    · cases hn
  · rename_i el hk
    rw [hk] at KU
    have e : sliceCells h d.size x = some (c, m) ∧ (∀ s, x ≠ .str s) := by
      split at hn
      · cases hn
      · rename_i hne
        exact ⟨hn, fun s e => hne s e⟩
    obtain ⟨s1, s2, vs, s3, s4, _⟩ := sliceCells_ok (P := P) H hx e.1
    obtain ⟨d1, _, vs', d3, d4, _⟩ := sliceCells_ok (P := P) H.drew hx e.1
    rw [s3] at d3; cases d3
    have hlen := concL_length s3
    have lens : ∀ w' : World, (Builtin.lenOf vx).run P w' = .ok m w' := by
      intro w'
      cases vx <;> simp_all [Builtin.lenOf]
    exact ⟨vs, s3, s2, by rw [hlen, s2], .inl ⟨.inl ⟨el, KU⟩, lens, s4, d4⟩⟩
  · rename_i hk
    rw [hk] at KU
    split at hn
    · obtain ⟨s1, s2, vs, s3, s4, _⟩ := sliceCells_ok (P := P) H hx hn
      obtain ⟨d1, _, vs', d3, d4, _⟩ := sliceCells_ok (P := P) H.drew hx hn
      rw [s3] at d3; cases d3
      have hlen := concL_length s3
      have lens : ∀ w' : World, (Builtin.lenOf vx).run P w' = .ok m w' := by
        intro w'
        cases vx <;> simp_all [Builtin.lenOf]
      exact ⟨vs, s3, s2, by rw [hlen, s2], .inl ⟨.inr KU, lens, s4, d4⟩⟩
    · cases hn
  · cases hn

/-- a row that is new -/
theorem newRow_ok (H : HR w0 K ρ h w) {d : TD} {e : TypeId} {l : List AV} {n : Nat} {vs : List Value} {zc : Array Value} {g : Nat} (hl : concL ρ l = some vs) (hln : l.length = n * d.size) (hd : d.size ≠ 0) (hz : zc.size = d.size) (hg : n ≤ g) :
    EffR w0 K ρ h (h.new (.cells true e l.length d.zero (writeZ l 0 .leaf))) (.slice h.next 0 n (.op d.size))
      (.ok (.slice (some ⟨w.heap.size, 0, none⟩) n g) (w.drew.alloc (.cells (vs.toArray ++ Builtin.zeroCells zc (g - n)) e))) := by
  have hlen := concL_length hl
  have hsz : (vs.toArray ++ Builtin.zeroCells zc (g - n)).size = g * d.size := by
    rw [Array.size_append, size_zeros, hz, List.size_toArray, hlen, hln, ← Nat.add_mul]
    congr 1
    omega
  have N := (H.drew).newCells (t := e) (z := d.zero) (c := writeZ l 0 .leaf) (len := l.length) (cs := vs.toArray ++ Builtin.zeroCells zc (g - n)) (by rw [hsz, hln]; exact Nat.mul_le_mul_right _ hg) (cells_of_list hl _)
  refine ⟨_, _, _, rfl, ExtN.upd (H.fresh _ (Nat.le_refl _)).1, ?_, N⟩
  have : g * d.size / d.size = g := Nat.mul_div_cancel _ (by omega)
  simp [conc, upd_same, hsz, this]

/-- the two arms, as the first argument tells them -/
structure ArmsR (P : Program) (t u ty e : TypeId) (d : TD) (zc : Array Value) (w : World) (ad : Option Addr) (sLen sCap : Nat) (vx : Value) (m : Nat) (olds news : List Value) : Prop where
  room : sLen + m ≤ sCap → ∀ w', (match ad with | some a => (storeCells (a.add (sLen * d.size)) news).run P w = .ok () w' | none => w' = w) → (Builtin.append_ #[t, u] ty #[.slice ad sLen sCap, vx]).run P w = .ok (.slice ad (sLen + m) sCap) w'
  grow : sCap < sLen + m → sLen + m ≤ mx → (sLen + m) * d.bytes ≤ mx → (Builtin.firstCells d.size sLen (.slice ad sLen sCap)).run P w.drew = .ok olds.toArray w.drew →
    ∃ g, sLen + m ≤ g ∧ (Builtin.append_ #[t, u] ty #[.slice ad sLen sCap, vx]).run P w = .ok (.slice (some ⟨w.heap.size, 0, none⟩) (sLen + m) g) (w.drew.alloc (.cells ((olds ++ news).toArray ++ Builtin.zeroCells zc (g - (sLen + m))) e))
theorem arms {t u ty e : TypeId} {d : TD} {zv : Value} (TR : TyR P e d) (U : P.underlying t = some (.slice e)) (hz : ∀ i, P.info? e = some i → i.zero = some zv) (hzr : ZeroR d zv) {ad : Option Addr} {sLen sCap : Nat} {vx : Value} {m : Nat} {olds news : List Value}
    (hs : SrcR P d.size d.bytes zv.cells u vx m news w) : ArmsR P t u ty e d zv.cells w ad sLen sCap vx m olds news := by
  obtain ⟨i, i1, i2, i3, v, i4, i5⟩ := TR.info
  have hzv := hz i i1
  have hs' : SrcR P i.size i.bytes zv.cells u vx m news w := by rw [i2, i3]; exact hs
  have hzs : zv.cells.size = i.size := by rw [i2]; exact hzr.size
  refine ⟨fun hr w' hst => append_room U i1 hzv hzs hs' hr (by cases ad with | none => exact hst | some a => rw [i2]; exact hst), fun hg h1 h2 ho => ⟨_, grownCap_ge _ _ _ _, append_grow U i1 hzv hzs hs' hg h1 (by rw [i3]; exact h2) (by rw [i2]; exact ho)⟩⟩

theorem append_ok (T : TysR P cx.ty) (H : HR w0 K ρ h w) {t u ty : TypeId} {s x : AV} {vs vx : Value} (hs : conc ρ s = some vs) (hx : conc ρ x = some vx) (e : appA cx t u h s x = .val v h') :
    EffR w0 K ρ h h' v ((Builtin.append_ #[t, u] ty #[vs, vx]).run P w) := by
  unfold appA at e
  split at e
  case h_2 => cases e
  rename_i el d hel
  obtain ⟨U, hd⟩ := elemTD_some T hel
  have U : P.underlying t = some (.slice el) := U
  have TR := T el d hd
  split at e
  case h_2 => cases e
  rename_i du hu
  split at e
  case h_2 => cases e
  rename_i c m hn
  obtain ⟨i, i1, i2, i3, zv, i4, i5⟩ := TR.info
  have hz : ∀ j, P.info? el = some j → j.zero = some zv := fun j hj => by rw [i1] at hj; cases hj; exact i4
  obtain ⟨news, n1, n2, n3⟩ := news_ok (P := P) T H hd hu hx hn i5
  have nlen := concL_length n1
  have fromRow : ∀ {ad : Option Addr} {sLen sCap : Nat} {olds : List Value} {old : List AV}, concL ρ old = some olds → old.length = sLen * d.size → sCap < sLen + m → (Builtin.firstCells d.size sLen (.slice ad sLen sCap)).run P w.drew = .ok olds.toArray w.drew →
      newRow d el h (old ++ c) (sLen + m) = .val v h' → EffR w0 K ρ h h' v ((Builtin.append_ #[t, u] ty #[.slice ad sLen sCap, vx]).run P w) := by
    intro ad sLen sCap olds old ho hol hg hrun e
    unfold newRow at e
    cases b1 : Nat.ble (sLen + m) mx with
    | false => rw [ifB_false b1] at e; cases e
    | true =>
      rw [ifB_true b1] at e
      cases b2 : Nat.ble (Nat.mul (sLen + m) d.bytes) mx with
      | false => rw [ifB_false b2] at e; cases e
      | true =>
        rw [ifB_true b2] at e
        cases b3 : Nat.beq d.size 0 with
        | true => rw [ifB_true b3] at e; cases e
        | false =>
          rw [ifB_false b3] at e
          cases e
          have hd0 : d.size ≠ 0 := fun e => by rw [e] at b3; cases b3
          obtain ⟨g, g1, g2⟩ := (arms (ty := ty) TR U hz i5 n3 (ad := ad) (sLen := sLen) (sCap := sCap) (olds := olds)).grow hg (Nat.le_of_ble_eq_true b1) (Nat.le_of_ble_eq_true b2) hrun
          rw [g2]
          exact newRow_ok H (concL_append ho n1) (by rw [List.length_append, hol, n2, Nat.add_mul]) hd0 i5.size g1
  unfold appendA at e
  split at e
  · -- nil
    simp only [conc, Option.some.injEq] at hs
    subst hs
    unfold appendN at e
    cases hm : Nat.beq m 0 with
    | true =>
      rw [ifB_true hm] at e
      cases e
      have : m = 0 := Nat.eq_of_beq_eq_true hm
      subst this
      have := (arms (ty := ty) TR U hz i5 n3 (ad := none) (sLen := 0) (sCap := 0) (olds := [])).room (by omega) w rfl
      rw [this]
      exact ⟨ρ, _, w, rfl, ExtN.refl _ _, rfl, H⟩
    | false =>
      rw [ifB_false hm] at e
      have hm0 : m ≠ 0 := fun e => by rw [e] at hm; cases hm
      refine fromRow (old := []) (olds := []) rfl (by simp) (by omega) ?_ (by simpa using e)
      simp [Builtin.firstCells]
  · rename_i o i' n cap
    cases ho : h.get o with
    | dead => rw [ho] at e; cases e
    | map es => rw [ho] at e; cases e
    | cells rw' t' len z ct =>
      rw [ho] at e
      obtain ⟨q, q1, q2⟩ := H.objs o (by rw [ho]; intro e; cases e)
      rw [ho] at q2
      have q2 : CellsR K ρ w q rw' t' len z ct := q2
      have rdW : ∀ {old : List AV}, readZ len z ct (Nat.mul n d.size) i' = some old → ∃ olds, concL ρ old = some olds ∧ old.length = n * d.size ∧ ∀ sCap, (Builtin.firstCells d.size n (.slice (some ⟨q.b, q.off + i', none⟩) n sCap)).run P w.drew = .ok olds.toArray w.drew := by
        intro old hold
        obtain ⟨r1, r2⟩ := readZ_spec _ _ _ _ _ _ hold
        obtain ⟨os, o1, o2, o3⟩ := q2.read hold
        refine ⟨os, o1, r1, fun sCap => ?_⟩
        have := run_loadCells_list (P := P) w.drew (⟨q.b, q.off + i', none⟩ : Addr) os (fun j v hj => by simpa using o3 j v hj)
        rw [o2] at this
        exact this
      cases cap with
      | ex k =>
        have e : appendE d el h o i' n k c m rw' t' len z ct = .val v h' := e
        simp only [conc, q1, Option.some.injEq] at hs
        subst hs
        unfold appendE at e
        cases b1 : Nat.ble (Nat.add n m) k with
        | true =>
          rw [ifB_true b1] at e
          cases rw' with
          | false => rw [ifB_false rfl] at e; cases e
          | true =>
            rw [ifB_true rfl] at e
            cases b3 : Nat.ble (Nat.add i' (Nat.mul (Nat.add n m) d.size)) len with
            | false => rw [ifB_false b3] at e; cases e
            | true =>
              rw [ifB_true b3] at e
              cases b4 : atoms c with
              | false => rw [ifB_false b4] at e; cases e
              | true =>
                rw [ifB_true b4] at e
                cases e
                have b1 : n + m ≤ k := Nat.le_of_ble_eq_true b1
                have b3 : i' + (n + m) * d.size ≤ len := Nat.le_of_ble_eq_true b3
                obtain ⟨cur, k1, k2, k3⟩ := H.write (i := i' + n * d.size) ho q1 (by rw [n2, Nat.add_assoc, ← Nat.add_mul]; exact b3) n1
                have hst := run_storeCells_at (P := P) q.b (q.off + (i' + n * d.size)) t' news 0 cur w k1 k2 (atoms_oneCell b4 n1)
                have hroom := (arms (ty := ty) TR U hz i5 n3 (ad := some ⟨q.b, q.off + i', none⟩) (sLen := n) (sCap := k) (olds := [])).room b1 _ (by
                  show (storeCells ((⟨q.b, q.off + i', none⟩ : Addr).add (n * d.size)) news).run P w = _
                  rw [add_lit', Nat.add_assoc]
                  exact hst)
                rw [hroom]
                exact ⟨ρ, _, _, rfl, ExtN.refl _ _, by simp [conc, q1], by simpa using k3⟩
        | false =>
          rw [ifB_false b1] at e
          have hg : k < n + m := by
            rcases Nat.lt_or_ge k (n + m) with h | h
            · exact h
            · have : Nat.ble (Nat.add n m) k = true := Nat.ble_eq_true_of_le h
              rw [this] at b1; cases b1
          split at e
          · rename_i old hold
            obtain ⟨olds, o1, o2, o3⟩ := rdW hold
            exact fromRow o1 o2 hg (o3 k) e
          · cases e
      | op sz =>
        have e : appendP d el h o i' n sz c m rw' t' len z ct = .val v h' := e
        simp only [conc, q1, Option.some.injEq] at hs
        subst hs
        unfold appendP at e
        cases rw' with
        | false => rw [ifB_false rfl] at e; cases e
        | true =>
          rw [ifB_true rfl] at e
          cases b2 : Nat.beq t' el with
          | false => rw [ifB_false b2] at e; cases e
          | true =>
            rw [ifB_true b2] at e
            have : t' = el := Nat.eq_of_beq_eq_true b2
            subst this
            cases b3 : Nat.beq sz d.size with
            | false => rw [ifB_false b3] at e; cases e
            | true =>
              rw [ifB_true b3] at e
              have : sz = d.size := Nat.eq_of_beq_eq_true b3
              subst this
              cases b4 : atoms c with
              | false => rw [ifB_false b4] at e; cases e
              | true =>
                rw [ifB_true b4] at e
                cases b5 : Nat.beq d.size 0 with
                | true => rw [ifB_true b5] at e; cases e
                | false =>
                  rw [ifB_false b5] at e
                  have hd0 : d.size ≠ 0 := fun e => by rw [e] at b5; cases b5
                  obtain ⟨k1, k0, k2, cur, k3, k4⟩ := q2.own rfl
                  cases b6 : Nat.ble (Nat.add i' (Nat.mul (Nat.add n m) d.size)) len with
                  | true =>
                    rw [ifB_true b6] at e
                    cases e
                    have b6 : i' + (n + m) * d.size ≤ len := Nat.le_of_ble_eq_true b6
                    have hcap : n + m ≤ (q.E - i') / d.size := (Nat.le_div_iff_mul_le (by omega)).2 (by omega)
                    obtain ⟨cur, k1, k2, k3⟩ := H.write (i := i' + n * d.size) ho q1 (by rw [n2, Nat.add_assoc, ← Nat.add_mul]; exact b6) n1
                    have hst := run_storeCells_at (P := P) q.b (q.off + (i' + n * d.size)) t' news 0 cur w k1 k2 (atoms_oneCell b4 n1)
                    have hroom := (arms (ty := ty) TR U hz i5 n3 (ad := some ⟨q.b, q.off + i', none⟩) (sLen := n) (sCap := (q.E - i') / d.size) (olds := [])).room hcap _ (by
                      show (storeCells ((⟨q.b, q.off + i', none⟩ : Addr).add (n * d.size)) news).run P w = _
                      rw [add_lit', Nat.add_assoc]
                      exact hst)
                    rw [hroom]
                    exact ⟨ρ, _, _, rfl, ExtN.refl _ _, by simp [conc, q1], by simpa using k3⟩
                  | false =>
                    rw [ifB_false b6] at e
                    cases b7 : Nat.ble (Nat.add n m) mx with
                    | false => rw [ifB_false b7] at e; cases e
                    | true =>
                      rw [ifB_true b7] at e
                      cases b8 : Nat.ble (Nat.mul (Nat.add n m) d.bytes) mx with
                      | false => rw [ifB_false b8] at e; cases e
                      | true =>
                        rw [ifB_true b8] at e
                        cases b9 : Nat.beq i' 0 with
                        | false => rw [ifB_false b9] at e; cases e
                        | true =>
                          rw [ifB_true b9] at e
                          have efin := e
                          have : i' = 0 := Nat.eq_of_beq_eq_true b9
                          subst this
                          have b7 : n + m ≤ mx := Nat.le_of_ble_eq_true b7
                          have b8 : (n + m) * d.bytes ≤ mx := Nat.le_of_ble_eq_true b8
                          have n2 : c.length = m * d.size := n2
                          -- where the row lies behind the call: in its old block, or in a new one
                          have arm : ∀ (len' : Nat) (z' : List AV) (c' : Tr AV) (olds : List Value), v = .slice h.next 0 (n + m) (.op d.size) → h' = (h.new (.cells true t' len' z' c')).put o .dead → olds.length = n * d.size →
                              (∀ (j : Nat) (x : Value), olds[j]? = some x → w.cell? ((⟨q.b, q.off + 0, none⟩ : Addr).add j) = some x) → len' = (n + m) * d.size →
                              (∀ (arr : Array Value), (∀ j, j < n * d.size → arr[j]? = olds[j]?) → (∀ j, j < m * d.size → arr[n * d.size + j]? = news[j]?) → ∀ i, i < len' → ∃ a x, cellZ len' z' c' i = some a ∧ conc ρ a = some x ∧ arr[i]? = some x) →
                              EffR w0 K ρ h h' v ((Builtin.append_ #[t, u] ty #[.slice (some ⟨q.b, q.off + 0, none⟩) n ((q.E - 0) / d.size), vx]).run P w) := by
                            intro len' z' c' olds hv hh hol hcell hlen' hcells
                            have hadd : (n + m) * d.size = n * d.size + m * d.size := Nat.add_mul _ _ _
                            by_cases hroom : n + m ≤ (q.E - 0) / d.size
                            · have hE : (n + m) * d.size ≤ q.E := (Nat.le_div_iff_mul_le (by omega)).1 hroom
                              have hst := run_storeCells_at (P := P) q.b (q.off + n * d.size) t' news 0 cur w k3 (by omega) (atoms_oneCell b4 n1)
                              rw [(arms (ty := ty) TR U hz i5 n3 (ad := some ⟨q.b, q.off + 0, none⟩) (sLen := n) (sCap := (q.E - 0) / d.size) (olds := [])).room hroom _ (by
                                show (storeCells ((⟨q.b, q.off + 0, none⟩ : Addr).add (n * d.size)) news).run P w = _
                                rw [add_lit', Nat.add_zero]
                                exact hst)]
                              simp only [k0, Nat.zero_add, Nat.add_zero] at hcell ⊢
                              have hsz : (cur.toList.take (n * d.size) ++ news ++ cur.toList.drop (n * d.size + news.length)).length = cur.size := by simp; omega
                              have cells' := hcells (cur.toList.take (n * d.size) ++ news ++ cur.toList.drop (n * d.size + news.length)).toArray (fun j hj => by
                                  have hjl : j < olds.length := by omega
                                  have := hcell j olds[j] (List.getElem?_eq_getElem hjl)
                                  rw [add_lit', Nat.zero_add] at this
                                  simp only [World.cell?, k3] at this
                                  rw [List.getElem?_toArray, List.append_assoc, List.getElem?_append_left (by simp; omega), List.getElem?_take_of_lt hj, List.getElem?_eq_getElem hjl, Array.getElem?_toList]
                                  exact this)
                                (fun j hj => by
                                  rw [List.getElem?_toArray, List.append_assoc, List.getElem?_append_right (by simp; omega), List.getElem?_append_left (by simp; omega)]
                                  congr 1
                                  simp
                                  omega)
                              have R := H.replace (p := q) (o := o) (x := .cells true t' len' z' c') (w' := w.setRow q.b (cur.toList.take (n * d.size) ++ news ++ cur.toList.drop (n * d.size + news.length)).toArray) (by rw [ho]; exact rfl) q1 rfl rfl rfl (by simp) (fun b hb => setRow_other w q.b b _ hb)
                                (show CellsR K ρ _ q true t' len' z' c' from ⟨by simpa using q2.lt, fun i hi => by
                                  obtain ⟨a, x, c1, c2, c3⟩ := cells' i hi
                                  refine ⟨a, x, c1, c2, ?_⟩
                                  rw [k0, Nat.zero_add, cell_setRow_same w q.b i cur _ t' _ k3]
                                  exact c3, fun _ => ⟨k1, k0, by omega, _, setRow_heap w q.b cur _ t' _ k3, by rw [List.size_toArray, hsz]; exact k4⟩⟩) (.inl rfl)
                              subst hv; subst hh
                              refine ⟨_, _, _, rfl, ExtN.upd (H.fresh _ (Nat.le_refl _)).1, ?_, R.rename rfl q1⟩
                              simp [conc, upd_same, k0]
                            · have hg : (q.E - 0) / d.size < n + m := by omega
                              have hrun : (Builtin.firstCells d.size n (.slice (some ⟨q.b, q.off + 0, none⟩) n ((q.E - 0) / d.size))).run P w.drew = .ok olds.toArray w.drew := by
                                have := run_loadCells_list (P := P) w.drew (⟨q.b, q.off + 0, none⟩ : Addr) olds (fun j v hj => by simpa using hcell j v hj)
                                rw [hol] at this
                                exact this
                              obtain ⟨g, g1, g2⟩ := (arms (ty := ty) TR U hz i5 n3 (ad := some ⟨q.b, q.off + 0, none⟩) (sLen := n) (sCap := (q.E - 0) / d.size) (olds := olds)).grow hg b7 b8 hrun
                              rw [g2]
                              have hsz : ((olds ++ news).toArray ++ Builtin.zeroCells zv.cells (g - (n + m))).size = g * d.size := by
                                rw [Array.size_append, size_zeros, i5.size, List.size_toArray, List.length_append, hol, nlen, n2, ← Nat.add_mul, ← Nat.add_mul]
                                congr 1
                                omega
                              have cells' := hcells ((olds ++ news).toArray ++ Builtin.zeroCells zv.cells (g - (n + m))) (fun j hj => by
                                  rw [Array.getElem?_append_left (by simp; omega), List.getElem?_toArray, List.getElem?_append_left (by omega)])
                                (fun j hj => by
                                  rw [Array.getElem?_append_left (by simp; omega), List.getElem?_toArray, List.getElem?_append_right (by omega)]
                                  congr 1
                                  omega)
                              have N := ((H.drew).newCells (t := t') (z := z') (c := c') (len := len') (cs := (olds ++ news).toArray ++ Builtin.zeroCells zv.cells (g - (n + m))) (by rw [hsz, hlen']; exact Nat.mul_le_mul_right _ g1) cells').kill o
                              subst hv; subst hh
                              refine ⟨_, _, _, rfl, ExtN.upd (H.fresh _ (Nat.le_refl _)).1, ?_, N⟩
                              have : g * d.size / d.size = g := Nat.mul_div_cancel _ (by omega)
                              simp [conc, upd_same, hsz, this]
                          unfold moveRow at efin
                          cases b10 : Nat.beq len (Nat.mul n d.size) with
                          | true =>
                            rw [ifB_true b10] at efin
                            cases efin
                            have hln : len = n * d.size := Nat.eq_of_beq_eq_true b10
                            refine arm (Nat.add len c.length) z (writeZ c len ct) (cur.toList.take (n * d.size)) rfl rfl (by simp; omega) (fun j x hj => ?_) (by show len + c.length = _; rw [n2, hln, Nat.add_mul]) (fun arr h1 h2 i hi => ?_)
                            · rw [List.getElem?_take] at hj
                              split at hj
                              · rw [add_lit', k0, Nat.zero_add]
                                simp only [World.cell?, k3]
                                rw [← Array.getElem?_toList]
                                exact hj
                              · cases hj
                            · have hi : i < len + c.length := hi
                              rw [show Nat.add len c.length = len + c.length from rfl, cellZ_write (Nat.le_refl _)]
                              by_cases hil : i < len
                              · rw [if_neg (by omega)]
                                obtain ⟨a, x, c1, c2, c3⟩ := q2.cell i hil
                                refine ⟨a, x, ?_, c2, ?_⟩
                                · rw [cellZ_eq] at c1 ⊢
                                  rw [if_pos hil] at c1
                                  rw [if_pos hi]
                                  exact c1
                                · rw [h1 i (by omega), List.getElem?_take_of_lt (by omega), Array.getElem?_toList]
                                  rw [k0, Nat.zero_add] at c3
                                  simpa [World.cell?, k3] using c3
                              · rw [if_pos (by omega)]
                                have hj : i - len < c.length := by omega
                                obtain ⟨x, x1, x2⟩ := concL_get n1 (i - len) _ (List.getElem?_eq_getElem hj)
                                refine ⟨_, x, List.getElem?_eq_getElem hj, x2, ?_⟩
                                have := h2 (i - len) (by omega)
                                rw [show n * d.size + (i - len) = i by omega] at this
                                rw [this]; exact x1
                          | false =>
                            rw [ifB_false b10] at efin
                            split at efin
                            · rename_i old hold
                              cases efin
                              obtain ⟨r1, r2⟩ := readZ_spec _ _ _ _ _ _ hold
                              have r1 : old.length = n * d.size := r1
                              obtain ⟨os, o1, o2, o3⟩ := q2.read hold
                              have o2 : os.length = n * d.size := o2
                              refine arm _ d.zero (writeZ (old ++ c) 0 .leaf) os rfl rfl o2 o3 (by rw [List.length_append, r1, n2, Nat.add_mul]) (fun arr h1 h2 i hi => ?_)
                              rw [cellZ_write (by omega), if_pos (by omega), Nat.sub_zero]
                              obtain ⟨x, x1, x2⟩ := concL_get (concL_append o1 n1) i _ (List.getElem?_eq_getElem hi)
                              refine ⟨_, x, List.getElem?_eq_getElem hi, x2, ?_⟩
                              rw [List.length_append, r1, n2] at hi
                              by_cases hin : i < n * d.size
                              · rw [h1 i hin, ← x1, List.getElem?_append_left (by omega)]
                              · have := h2 (i - n * d.size) (by omega)
                                rw [show n * d.size + (i - n * d.size) = i by omega] at this
                                rw [this, ← x1, List.getElem?_append_right (by omega), o2]
                            · cases efin
  · cases e
end
end Go.Sh
end
section
namespace Go.Sh
open Go
section
variable {P : Program} {cx : Cx} {G : Nat → Bool} {nt : Nat} {ρ : Rho} {env : Env} {a : Act} {w0 : World} {K : Nat → Option Obj} {h h' : AH} {w : World} {v : AV}

theorem concL_take {ρ : Rho} : ∀ {l : List AV} {vs : List Value} (n : Nat), concL ρ l = some vs → concL ρ (l.take n) = some (vs.take n)
  | [], vs, n, h => by simp [concL] at h; subst h; simp [concL]
  | a :: l, vs, n, h => by
    simp only [concL] at h
    cases ha : conc ρ a <;> cases hl : concL ρ l <;> simp [ha, hl] at h
    subst h
    cases n with
    | zero => simp [concL]
    | succ n => simp [concL, ha, concL_take n hl]

theorem storeObj_ok (H : HR w0 K ρ h w) {o i : Nat} {l : List AV} {vs : List Value} {q : Pl} (hq : ρ o = some q) (hl : concL ρ l = some vs) (e : storeObj h o i l (h.get o) = some h') :
    ∃ w', (storeCells ⟨q.b, q.off + i, none⟩ vs).run P w = .ok () w' ∧ HR w0 K ρ h' w' := by
  cases ho : h.get o with
  | dead => rw [ho] at e; cases e
  | map es => rw [ho] at e; cases e
  | cells rw' t' len z c =>
    rw [ho] at e
    have e3 : ifB rw' (ifB (Nat.ble (Nat.add i l.length) len) (ifB (atoms l) (some (h.put o (.cells true t' len z (writeZ l i c)))) none) none) none = some h' := e
    obtain ⟨e4, e5⟩ := ifB_some e3
    obtain ⟨e6, e7⟩ := ifB_some e5
    obtain ⟨e8, e9⟩ := ifB_some e7
    cases e9
    subst e4
    obtain ⟨cur, k1, k2, k3⟩ := H.write ho hq (Nat.le_of_ble_eq_true e6) hl
    exact ⟨_, run_storeCells_at (P := P) q.b (q.off + i) t' vs 0 cur w k1 (by omega) (atoms_oneCell e8 hl), k3⟩

theorem copy_ok (T : TysR P cx.ty) (H : HR w0 K ρ h w) {t ty : TypeId} {d x : AV} {vd vx : Value} (hd : conc ρ d = some vd) (hx : conc ρ x = some vx) (e : copyA cx t h d x = .val v h') (ts : Array TypeId) (hts : ts[0]? = some t) :
    EffR w0 K ρ h h' v ((Builtin.copy_ ts ty #[vd, vx]).run P w) := by
  unfold copyA at e
  split at e
  case h_2 => cases e
  rename_i el td hel
  obtain ⟨U, htd⟩ := elemTD_some T hel
  have U : P.underlying t = some (.slice el) := U
  have SZ := (T el td htd).size
  split at e
  case h_2 => cases e
  rename_i c m hc
  obtain ⟨s1, s2, vs, s3, s4, s5⟩ := sliceCells_ok (P := P) H hx hc
  split at e
  · cases e
    simp only [conc, Option.some.injEq] at hd
    subst hd
    refine ⟨ρ, _, w, ?_, ExtN.refl _ _, rfl, H⟩
    have := s5 0 (Nat.zero_le _)
    simp only [Nat.zero_mul, List.take_zero] at this
    simp [Builtin.copy_, hts, run_underlying U, s1, SZ, this, goInt]
  · rename_i o i n cap
    split at e
    · rename_i h2 hst
      obtain ⟨rfl, e2⟩ := ofOpt_val e
      rw [mkInt_eq] at e2
      cases e2
      cases hq : ρ o with
      | none => cases cap <;> simp [conc, hq] at hd
      | some q =>
        obtain ⟨w', r1, r2⟩ := storeObj_ok (P := P) H hq (concL_take (min m n * td.size) s3) hst
        have := s5 (min m n) (Nat.min_le_left _ _)
        refine ⟨ρ, .int .i64 (Int.ofNat (min m n)), w', ?_, ExtN.refl _ _, rfl, r2⟩
        cases cap <;> simp [conc, hq] at hd <;> subst hd <;> simp [Builtin.copy_, hts, run_underlying U, s1, SZ, show Nat.min m n = min m n from rfl, this, r1, goInt]
    · cases e
  · cases e

theorem bytesOf_ok {ρ : Rho} : ∀ {l : List AV} {s : List UInt8} {vs : List Value}, bytesOf l = some s → concL ρ l = some vs → vs = s.map fun b => Value.int .u8 b.toNat
  | [], s, vs, h, k => by
    have : s = [] := (Option.some.inj h).symm
    subst this
    simp [concL] at k; subst k; rfl
  | a :: l, s, vs, h, k => by
    have h : (match byteOf a with | none => none | some b => (match bytesOf l with | none => none | some r => some (b :: r))) = some s := h
    simp only [concL] at k
    cases ha : conc ρ a <;> cases hl : concL ρ l <;> simp [ha, hl] at k
    subst k
    split at h
    · cases h
    · rename_i b hb
      split at h
      · cases h
      · rename_i r hr
        cases h
        have ih := bytesOf_ok hr hl
        subst ih
        unfold byteOf at hb
        split at hb
        · rename_i m
          obtain ⟨b1, b2⟩ := ifB_some hb
          cases b2
          have hm : m < 256 := by simpa [Nat.blt_eq] using b1
          simp only [conc, Option.some.injEq] at ha
          subst ha
          simp [Nat.mod_eq_of_lt hm]
        · cases hb

theorem unsStr_ok (T : TysR P cx.ty) (H : HR w0 K ρ h w) {t u ty : TypeId} {p n : AV} {vp vn : Value} (hp : conc ρ p = some vp) (hn : conc ρ n = some vn) (e : unsafeStrA cx t h p n = .val v h') :
    EffR w0 K ρ h h' v ((Builtin.unsafeString_ #[t, u] ty #[vp, vn]).run P w) := by
  unfold unsafeStrA at e
  split at e
  case h_2 => cases e
  rename_i n
  simp only [conc, Option.some.injEq] at hn
  subst hn
  cases b1 : Nat.ble n mx with
  | false => rw [ifB_false b1] at e; cases e
  | true =>
    rw [ifB_true b1] at e
    cases b2 : Nat.beq n 0 with
    | true => rw [ifB_true b2] at e; cases e
    | false =>
      rw [ifB_false b2] at e
      have hn0 : n ≠ 0 := fun e => by rw [e] at b2; cases b2
      unfold unsStrP at e
      split at e
      case h_2 => cases e
      rename_i o i
      cases b3 : Nat.beq i 0 with
      | false => rw [ifB_false b3] at e; cases e
      | true =>
        rw [ifB_true b3] at e
        have : i = 0 := Nat.eq_of_beq_eq_true b3
        subst this
        split at e
        case h_2 => cases e
        rename_i el q1 q2 q3 q4 ht
        have U : P.underlying t = some (.pointer el) := ty_kind T ht
        split at e
        case h_2 => cases e
        rename_i d hd
        unfold unsStr at e
        split at e
        case h_2 => cases e
        rename_i t' len z c ho
        cases b4 : Nat.beq t' el with
        | false => rw [ifB_false b4] at e; cases e
        | true =>
          rw [ifB_true b4] at e
          have : t' = el := Nat.eq_of_beq_eq_true b4
          subst this
          cases b5 : Nat.beq d.size 1 with
          | false => rw [ifB_false b5] at e; cases e
          | true =>
            rw [ifB_true b5] at e
            have hd1 : d.size = 1 := Nat.eq_of_beq_eq_true b5
            split at e
            case h_2 => cases e
            rename_i l hl
            split at e
            case h_2 => cases e
            rename_i s hs
            cases e
            obtain ⟨q, q1, q2⟩ := H.objs o (by rw [ho]; intro e; cases e)
            rw [ho] at q2
            have q2 : CellsR K ρ w q true t' len z c := q2
            obtain ⟨k1, k0, k2, cur, k3, k4⟩ := q2.own rfl
            obtain ⟨vs, v1, v2, v3⟩ := q2.read hl
            have hvs := bytesOf_ok hs v1
            have hslen : s.length = n := by rw [← v2, hvs]; simp
            simp only [conc, q1, Option.some.injEq] at hp
            subst hp
            obtain ⟨inf, i1, i2, _⟩ := (T t' d hd).info
            have hc : P.cellsOf t' = 1 := by simp [Program.cellsOf, i1, i2, hd1]
            have hlast : n ≤ cur.size := by
              obtain ⟨r1, r2⟩ := readZ_spec _ _ _ _ _ _ hl
              have := r2 (n - 1) (by omega)
              rw [List.getElem?_eq_getElem (by omega)] at this
              rw [cellZ_eq] at this
              split at this
              · omega
              · cases this
            have run := Lib.run_unsafeString_row (P := P) w t u ty t' U hc q.b cur.size (by simp [World.shape?, k3]) s (by intro e; subst e; simp at hslen; omega) (by omega) (by
              have : n ≤ 1099511627776 := Nat.le_of_ble_eq_true b1
              omega) (fun j x hj => by
                have := v3 j (.int .u8 x.toNat) (by rw [hvs]; simp [hj])
                rw [k0, Nat.zero_add] at this
                exact this)
            rw [hslen] at run
            refine ⟨ρ, _, _, by rw [k0]; exact run, ExtN.refl _ _, rfl, ?_⟩
            have hfz : (w.freeze ⟨q.b, 0, none⟩ n).heap = w.heap.modify q.b fun
                | .cells c elem (lo, hi) => .cells c elem (if lo == hi then (0, 0 + n) else (min lo 0, max hi (0 + n)))
                | o => o := by
              simp only [World.freeze, hn0, if_false]
              rfl
            have hother : ∀ b, b ≠ q.b → (w.freeze ⟨q.b, 0, none⟩ n).heap[b]? = w.heap[b]? := by
              intro b hb
              rw [hfz, Array.getElem?_modify, if_neg (fun e => hb e.symm)]
            exact H.replace (p := q) (x := .dead) (by rw [ho]; exact rfl) q1 (by unfold World.freeze; split <;> rfl) (by unfold World.freeze; split <;> rfl) (by unfold World.freeze; split <;> rfl) (by rw [hfz]; simp) hother trivial (.inr (.inr trivial))
end
end Go.Sh
end
section
namespace Go.Sh
open Go

/-- what a reading leaves alone: what it does not own -/
structure Pres (h h' : AH) : Prop where
  next : h.next ≤ h'.next
  keep : ∀ o, o < h.next → ¬ Owns (h.get o) → h'.get o = h.get o
  from' : ∀ o, ¬ Owns (h'.get o) → h'.get o = h.get o ∨ h'.get o = .dead
theorem Pres.refl (h : AH) : Pres h h := ⟨Nat.le_refl _, fun _ _ _ => rfl, fun _ _ => .inl rfl⟩
theorem Pres.trans {a b c : AH} (h : Pres a b) (k : Pres b c) : Pres a c := by
  refine ⟨Nat.le_trans h.next k.next, fun o ho hn => ?_, fun o hn => ?_⟩
  · have e := h.keep o ho hn
    rw [k.keep o (Nat.lt_of_lt_of_le ho h.next) (by rw [e]; exact hn), e]
  · rcases k.from' o hn with e | e
    · rw [e] at hn ⊢
      exact h.from' o hn
    · exact .inr e
theorem Pres.put {h : AH} {o : Nat} {x : AObj} (ho : Owns (h.get o)) (hx : Owns x ∨ x = .dead) : Pres h (h.put o x) := by
  refine ⟨Nat.le_refl _, fun o' _ hn => ?_, fun o' hn => ?_⟩
  · rw [AH.get_put]
    split
    · rename_i e; subst e; exact absurd ho hn
    · rfl
  · rw [AH.get_put] at hn ⊢
    split at hn
    · rename_i e
      rw [if_pos e]
      rcases hx with hx | hx
      · exact absurd hx hn
      · exact .inr hx
    · rename_i e
      rw [if_neg e]
      exact .inl rfl
theorem Pres.new {h : AH} {x : AObj} (hx : Owns x) : Pres h (h.new x) := by
  refine ⟨Nat.le_succ _, fun o' ho' hn => ?_, fun o' hn => ?_⟩
  · rw [AH.get_new, if_neg (by omega)]
  · rw [AH.get_new] at hn ⊢
    split at hn
    · exact absurd hx hn
    · rename_i e
      rw [if_neg e]
      exact .inl rfl

variable {cx : Cx} {env : Env} {h h' : AH} {v : AV}
theorem Pres.newPut {h : AH} {o : Nat} {x : AObj} (hx : Owns x) (ho : Owns (h.get o)) : Pres h ((h.new x).put o .dead) := by
  refine (Pres.new hx).trans (Pres.put ?_ (.inr rfl))
  rw [AH.get_new]
  split
  · exact hx
  · exact ho
theorem ofOpt_pres {x : Option AV} (e : ofOpt h x = .val v h') : Pres h h' := by
  obtain ⟨rfl, _⟩ := ofOpt_val e
  exact Pres.refl _
theorem storeObj_pres {o i : Nat} {l : List AV} (e : storeObj h o i l (h.get o) = some h') : Pres h h' := by
  cases ho : h.get o with
  | dead => rw [ho] at e; cases e
  | map es => rw [ho] at e; cases e
  | cells rw' t' len z c =>
    rw [ho] at e
    have e3 : ifB rw' (ifB (Nat.ble (Nat.add i l.length) len) (ifB (atoms l) (some (h.put o (.cells true t' len z (writeZ l i c)))) none) none) none = some h' := e
    obtain ⟨e4, e5⟩ := ifB_some e3
    obtain ⟨e6, e7⟩ := ifB_some e5
    obtain ⟨e8, e9⟩ := ifB_some e7
    cases e9
    subst e4
    exact Pres.put (by rw [ho]; exact rfl) (.inl rfl)
theorem ifB_val {b : Bool} {x : Out} (e : ifB b x .fail = .val v h') : b = true ∧ x = .val v h' := by
  cases b
  · cases e
  · exact ⟨rfl, e⟩
theorem ifB_val' {b : Bool} {x : Out} (e : ifB b .fail x = .val v h') : b = false ∧ x = .val v h' := by
  cases b
  · exact ⟨rfl, e⟩
  · cases e
theorem newRow_pres {d : TD} {e : TypeId} {l : List AV} {n : Nat} (k : newRow d e h l n = .val v h') : Pres h h' := by
  unfold newRow at k
  obtain ⟨_, k⟩ := ifB_val k
  obtain ⟨_, k⟩ := ifB_val k
  obtain ⟨_, k⟩ := ifB_val' k
  cases k
  exact Pres.new rfl
theorem append_pres {t u : TypeId} {s x : AV} (k : appA cx t u h s x = .val v h') : Pres h h' := by
  unfold appA at k
  split at k
  case h_2 => cases k
  split at k
  case h_2 => cases k
  split at k
  case h_2 => cases k
  unfold appendA at k
  split at k
  · unfold appendN at k
    generalize Nat.beq _ 0 = b at k
    cases b
    · exact newRow_pres k
    · cases k; exact Pres.refl _
  · rename_i o i n c
    cases ho : h.get o with
    | dead => rw [ho] at k; cases k
    | map es => rw [ho] at k; cases k
    | cells rw' t' len z ct =>
      rw [ho] at k
      cases c with
      | ex cap =>
        have k : appendE _ _ h o i n cap _ _ rw' t' len z ct = .val v h' := k
        unfold appendE at k
        generalize Nat.ble (Nat.add n _) cap = b at k
        cases b
        · have k : (match readZ len z ct _ i with | some old => newRow _ _ h (old ++ _) _ | none => Out.fail) = .val v h' := k
          split at k
          · exact newRow_pres k
          · cases k
        · obtain ⟨r, k⟩ := ifB_val (show ifB rw' _ Out.fail = _ from k)
          obtain ⟨_, k⟩ := ifB_val k
          obtain ⟨_, k⟩ := ifB_val k
          cases k
          exact Pres.put (by rw [ho]; exact r) (.inl rfl)
      | op sz =>
        have k : appendP _ _ h o i n sz _ _ rw' t' len z ct = .val v h' := k
        unfold appendP at k
        obtain ⟨r, k⟩ := ifB_val k
        obtain ⟨_, k⟩ := ifB_val k
        obtain ⟨_, k⟩ := ifB_val k
        obtain ⟨_, k⟩ := ifB_val k
        obtain ⟨_, k⟩ := ifB_val' k
        have own : Owns (h.get o) := by rw [ho]; exact r
        generalize Nat.ble (Nat.add i _) len = b at k
        cases b
        · obtain ⟨_, k⟩ := ifB_val (show ifB _ _ Out.fail = _ from k)
          obtain ⟨_, k⟩ := ifB_val k
          obtain ⟨_, k⟩ := ifB_val k
          unfold moveRow at k
          generalize Nat.beq len _ = b at k
          cases b
          · have k : (match readZ len z ct _ 0 with | some old => Out.val _ ((h.new (.cells true _ (old ++ _).length _ (writeZ (old ++ _) 0 .leaf))).put o .dead) | none => Out.fail) = .val v h' := k
            split at k
            · cases k; exact Pres.newPut rfl own
            · cases k
          · cases k; exact Pres.newPut rfl own
        · cases k; exact Pres.put own (.inl rfl)
  · cases k
end Go.Sh
end
section
namespace Go.Sh
open Go
variable {cx : Cx} {env : Env} {h h' : AH} {v : AV}

theorem update_pres {t : TypeId} {m k x : AV} (e : xUpdate cx h t m k x = .val v h') : Pres h h' := by
  unfold xUpdate at e
  split at e
  · rename_i o
    split at e
    · obtain ⟨_, e⟩ := ifB_val e
      unfold updE at e
      split at e
      · rename_i es ho
        split at e
        · cases e
        · cases e; exact Pres.put (by rw [ho]; exact trivial) (.inl trivial)
      · cases e
    · cases e
  · cases e
theorem store_pres {t : TypeId} {p a : AV} (e : xStore cx h t p a = .val v h') : Pres h h' := by
  unfold xStore at e
  split at e
  · rename_i d hd
    split at e
    · rename_i h2 hs
      cases e
      obtain ⟨o, i, rfl, e1⟩ := onPtr_some (show p.onPtr none _ = some h' from hs)
      obtain ⟨_, e2⟩ := ifB_some e1
      exact storeObj_pres e2
    · cases e
  · cases e
theorem copy_pres {t : TypeId} {d x : AV} (e : copyA cx t h d x = .val v h') : Pres h h' := by
  unfold copyA at e
  split at e
  · split at e
    · split at e
      · cases e; exact Pres.refl _
      · split at e
        · rename_i hs
          obtain ⟨rfl, _⟩ := ofOpt_val e
          exact storeObj_pres hs
        · cases e
      · cases e
    · cases e
  · cases e
theorem unsStr_pres {t : TypeId} {p n : AV} (e : unsafeStrA cx t h p n = .val v h') : Pres h h' := by
  unfold unsafeStrA at e
  split at e
  · obtain ⟨_, e⟩ := ifB_val e
    obtain ⟨_, e⟩ := ifB_val' e
    unfold unsStrP at e
    split at e
    · obtain ⟨_, e⟩ := ifB_val e
      split at e
      · split at e
        · unfold unsStr at e
          split at e
          · rename_i ho
            obtain ⟨_, e⟩ := ifB_val e
            obtain ⟨_, e⟩ := ifB_val e
            split at e
            · split at e
              · cases e; exact Pres.put (by rw [ho]; exact rfl) (.inr rfl)
              · cases e
            · cases e
          · cases e
        · cases e
      · cases e
    · cases e
  · cases e
theorem max_pres {x : AV} {r : List AV} (e : maxA h x r = .val v h') : Pres h h' := by
  unfold maxA at e
  split at e
  · cases x <;> first | (cases e; done) | skip
    rename_i y k n
    cases y <;> first | (cases e; done) | skip
    cases e; exact Pres.refl _
  · cases e
theorem data_pres {x : AV} (e : dataA h x = .val v h') : Pres h h' := by
  unfold dataA at e
  split at e
  · split at e
    · obtain ⟨_, e⟩ := ifB_val' e
      obtain ⟨_, e⟩ := ifB_val e
      cases e; exact Pres.refl _
    · cases e
  · cases e
theorem builtin_pres {b : Builtin} {ts : Array TypeId} {args : List AV} (e : builtinA cx b ts h args = .val v h') : Pres h h' := by
  unfold builtinA at e
  split at e
  · cases e
  · split at e
    · cases e
    · unfold builtin2 at e
      split at e
      · exact ofOpt_pres e
      · split at e
        · split at e
          · exact append_pres e
          · cases e
        · cases e
      · exact ofOpt_pres e
      · split at e
        · exact copy_pres e
        · cases e
      · exact max_pres e
      · split at e
        · exact data_pres e
        · cases e
      · split at e
        · split at e
          · exact unsStr_pres e
          · cases e
        · cases e
      · cases e
theorem outB_pres {x : Option (AObj × (Nat → AV))} (hx : ∀ p, x = some p → Owns p.1) (e : outB h x = .val v h') : Pres h h' := by
  cases x with
  | none => cases e
  | some p => cases e; exact Pres.new (hx p rfl)
theorem bornA_owns {o : Op} {p : AObj × (Nat → AV)} (e : bornA cx env o = some p) : Owns p.1 := by
  cases o <;> first | (cases e; done) | skip
  · have e : bornAlloc cx _ = some p := e
    unfold bornAlloc at e
    split at e <;> cases e
    exact rfl
  · have e : bornBox _ _ = some p := e
    cases e; exact rfl
  · have e : bornSlice cx env _ _ _ = some p := e
    unfold bornSlice at e
    split at e
    · obtain ⟨_, e⟩ := ifB_some' e
      split at e <;> cases e
      exact rfl
    · cases e
  · have e : bornMap = some p := e
    cases e; exact trivial
  · have e : bornMake cx _ _ _ = some p := e
    unfold bornMake at e
    split at e
    · split at e
      · obtain ⟨_, e⟩ := ifB_some e
        obtain ⟨_, e⟩ := ifB_some e
        obtain ⟨_, e⟩ := ifB_some e
        cases e; exact rfl
      · cases e
    · cases e
end Go.Sh
end
section
namespace Go.Sh
open Go
variable {cx : Cx} {env env' : Env} {h h' : AH} {v : AV}

/-- one reading gives what the other gives, where it gives something; the memory stays -/
def Im (h h' : AH) (o o' : Out) : Prop := o = .fail ∨ ∃ v, o = .val v h ∧ o' = .val v h'
theorem Im.fail {o' : Out} : Im h h' .fail o' := .inl rfl
theorem Im.val {v : AV} : Im h h' (.val v h) (.val v h') := .inr ⟨v, rfl, rfl⟩
theorem Im.opt {x x' : Option AV} (e : ∀ v, x = some v → x' = some v) : Im h h' (ofOpt h x) (ofOpt h' x') := by
  cases x with
  | none => exact .fail
  | some v => rw [e v rfl]; exact .val
theorem Im.same {x : Option AV} : Im h h' (ofOpt h x) (ofOpt h' x) := .opt fun _ e => e
theorem Im.ifT {b : Bool} {o o' : Out} (e : b = true → Im h h' o o') : Im h h' (ifB b o .fail) (ifB b o' .fail) := by
  cases b
  · exact .fail
  · exact e rfl
theorem Im.ifF {b : Bool} {o o' : Out} (e : b = false → Im h h' o o') : Im h h' (ifB b .fail o) (ifB b .fail o') := by
  cases b
  · exact e rfl
  · exact .fail
theorem Im.onPtr {x : AV} {f f' : Nat → Nat → Out} (e : ∀ o i, x = .ptr o i → Im h h' (f o i) (f' o i)) : Im h h' (x.onPtr .fail f) (x.onPtr .fail f') := by
  cases x <;> first | exact e _ _ rfl | exact .fail
theorem Im.onInt {x : AV} {f f' : IntKind → Int → Out} (e : ∀ o i, x = .int o i → Im h h' (f o i) (f' o i)) : Im h h' (x.onInt .fail f) (x.onInt .fail f') := by
  cases x <;> first | exact e _ _ rfl | exact .fail
theorem Im.val_left {o o' : Out} (e : Im h h' o o') {k : AH} (hv : o = .val v k) : k = h ∧ o' = .val v h' := by
  rcases e with e | ⟨u, e1, e2⟩
  · rw [e] at hv; cases hv
  · rw [e1] at hv; cases hv; exact ⟨rfl, e2⟩

/-- the object that a reading looks into -/
noncomputable def logOf (env : Env) (o : Op) : Option Nat :=
  match o with
  | .load _ a => objOf (opnd env a)
  | .slice _ x _ _ _ => objOf (opnd env x)
  | .convert _ _ x => objOf (opnd env x)
  | .call c => (match c.args.toList with | x :: _ => objOf (opnd env x) | [] => none)
  | _ => none

/-- what is alive in the one is the same in the other -/
def Agr (h h' : AH) (l : Option Nat) : Prop := ∀ o, l = some o → h.get o ≠ .dead → h'.get o = h.get o

theorem load_im {t : TypeId} {p : AV} (e : Agr h h' (objOf p)) : Im h h' (xLoad cx h t p) (xLoad cx h' t p) := by
  unfold xLoad
  cases cx.ty.get t with
  | none => exact .fail
  | some d =>
    refine Im.opt fun v hv => ?_
    obtain ⟨o, i, rfl, hv2⟩ := onPtr_some (show p.onPtr none _ = some v from hv)
    have hv2 : loadObj d i (h.get o) = some v := hv2
    show loadObj d i (h'.get o) = some v
    rw [e o rfl]
    · exact hv2
    · intro hd; rw [hd] at hv2; cases hv2
theorem sliceK_im {d : Option TD} {x : AV} {lo hi : Option AV} (e : Agr h h' (objOf x)) (hv : sliceK h d x lo hi = some v) : sliceK h' d x lo hi = some v := by
  unfold sliceK at hv ⊢
  split at hv
  · cases hv
  · split at hv
    · exact hv
    · rename_i o i n c
      unfold sliceS at hv ⊢
      split at hv
      · cases hv
      · rename_i z
        obtain ⟨b1, hv⟩ := ifB_some hv
        obtain ⟨b2, hv⟩ := ifB_some' hv
        rw [ifB_true b1, ifB_false b2]
        by_cases hd : h.get o = .dead
        · rw [hd] at hv; cases hv
        · rw [e o rfl hd]
          exact hv
    · cases hv
theorem slice_im {t : TypeId} {x : Operand} {lo hi m : Option Operand} (e : Agr h h' (objOf (opnd env x))) : Im h h' (xSlice cx env h t x lo hi m) (xSlice cx env h' t x lo hi m) := by
  unfold xSlice
  split
  · exact .fail
  · refine Im.opt fun v hv => ?_
    unfold sliceA at hv ⊢
    split at hv
    · exact hv
    · exact sliceK_im e hv
    · cases hv
theorem alive_im {x : AV} (e : Agr h h' (objOf x)) (hv : alive h x = some v) : alive h' x = some v := by
  obtain ⟨o, i, rfl, hv⟩ := onPtr_some (show x.onPtr none _ = some v from hv)
  show (match h'.get o with
    | .cells _ _ len _ _ => ifB (Nat.blt i len) (some (.ptr o i)) none
    | _ => none) = some v
  by_cases hd : h.get o = .dead
  · rw [hd] at hv; cases hv
  · rw [e o rfl hd]; exact hv
theorem aliveAs_im {u : TypeId} {d : TD} {x : AV} (e : Agr h h' (objOf x)) (hv : aliveAs h u d x = some v) : aliveAs h' u d x = some v := by
  obtain ⟨o, i, rfl, hv⟩ := onPtr_some (show x.onPtr none _ = some v from hv)
  obtain ⟨b1, hv⟩ := ifB_some hv
  show ifB (Nat.beq i 0) (match h'.get o with
      | .cells true t len _ _ => ifB (Nat.beq t u) (ifB (Nat.ble d.size len) (ifB (Nat.beq d.size 0) none (some (.ptr o i))) none) none
      | _ => none) none = some v
  rw [ifB_true b1]
  by_cases hd : h.get o = .dead
  · rw [hd] at hv; cases hv
  · rw [e o rfl hd]; exact hv
theorem convert_im {s d : TypeId} {x : AV} (e : Agr h h' (objOf x)) : Im h h' (xConvert cx h s d x) (xConvert cx h' s d x) := by
  unfold xConvert
  split
  · split
    · exact Im.onInt fun _ _ _ => .same
    · exact .fail
  · split
    · split
      · exact Im.ifF fun _ => .opt fun v hv => alive_im e hv
      · exact .fail
    · exact .fail
  · split
    · split
      · exact .opt fun v hv => aliveAs_im e hv
      · exact .fail
    · exact .fail
  · exact .fail
theorem fld_im {s : TypeId} {x : AV} {f : Nat} : Im h h' (xFieldAddr cx h s x f) (xFieldAddr cx h' s x f) := by
  unfold xFieldAddr fldA
  cases fldOf (cx.ty.get s) f with
  | none => exact .fail
  | some p => exact Im.onPtr fun _ _ _ => .val
theorem ixA_im {o i j : Nat} {d : Option TD} : Im h h' (ixA cx h o i j d) (ixA cx h' o i j d) := by
  unfold ixA
  split
  · split
    · exact Im.ifT fun _ => .val
    · exact .fail
  · exact .fail
theorem ixE_im {o i n j : Nat} {d : Option (TypeId × TD)} : Im h h' (ixE h o i n j d) (ixE h' o i n j d) := by
  unfold ixE
  cases d with
  | none => exact .fail
  | some d => exact Im.ifT fun _ => .val
theorem ix_im {t : TypeId} {x ix : AV} : Im h h' (xIndexAddr cx h t x ix) (xIndexAddr cx h' t x ix) := by
  unfold xIndexAddr
  refine Im.onInt fun k j _ => ?_
  cases j with
  | negSucc j => exact .fail
  | ofNat j =>
    show Im h h' (ixJ cx h t x j) (ixJ cx h' t x j)
    unfold ixJ
    cases x <;> first | exact ixA_im | exact ixE_im | exact .fail
theorem index_im {t : TypeId} {x ix : AV} : Im h h' (xIndex cx h t x ix) (xIndex cx h' t x ix) := by
  unfold xIndex
  split
  · split
    · split
      · split
        · exact .same
        · exact .fail
      · exact .fail
    · split
      · split
        · exact Im.ifT fun _ => Im.ifT fun _ => .same
        · exact .fail
      · exact .fail
    · exact .fail
  · exact .fail
theorem extract_im {x : AV} {i : Nat} : Im h h' (xExtract h x i) (xExtract h' x i) := by
  unfold xExtract
  split
  · exact .same
  · exact .fail
theorem lenMap_im {x : AV} (e : Agr h h' (objOf x)) {a b : TypeId} (hv : lenK cx (.map a b) h x = some v) : lenK cx (.map a b) h' x = some v := by
  cases x <;> first | (cases hv; done) | skip
  rename_i y
  cases y <;> first | (cases hv; done) | exact hv | skip
  rename_i o
  have hv : (match h.get o with | .map es => mkInt .i64 (.ofNat es.length) | _ => none) = some v := hv
  show (match h'.get o with | .map es => mkInt .i64 (.ofNat es.length) | _ => none) = some v
  by_cases hd : h.get o = .dead
  · rw [hd] at hv; cases hv
  · rw [e o rfl hd]; exact hv
theorem len_im {t : TypeId} {x : AV} (e : Agr h h' (objOf x)) (hv : lenA cx t h x = some v) : lenA cx t h' x = some v := by
  unfold lenA at hv ⊢
  split at hv
  · rename_i d hd
    cases hk : d.k <;> rw [hk] at hv <;> first | exact hv | exact lenMap_im e hv
  · cases hv
theorem data_im {x : AV} (e : Agr h h' (objOf x)) : Im h h' (dataA h x) (dataA h' x) := by
  unfold dataA
  split
  · rename_i o i n z
    by_cases hd : h.get o = .dead
    · rw [hd]; exact .fail
    · rw [e o rfl hd]
      split
      · exact Im.ifF fun _ => Im.ifT fun _ => .val
      · exact .fail
  · exact .fail
theorem max_im {x : AV} {r : List AV} : Im h h' (maxA h x r) (maxA h' x r) := by
  unfold maxA
  split
  · exact Im.onInt fun _ _ _ => Im.onInt fun _ _ _ => .val
  · exact .fail
def rdB (b : Builtin) : Bool := match b with | .len | .cap | .max | .unsafeSliceData => true | _ => false
theorem builtin2_im {b : Builtin} (hb : rdB b = true) {t : TypeId} {ts : List TypeId} {x : AV} {r : List AV} (e : Agr h h' (objOf x)) : Im h h' (builtin2 cx b t ts h x r) (builtin2 cx b t ts h' x r) := by
  cases b <;> first | (cases hb; done) | skip
  · exact .same
  · exact .opt fun v hv => len_im e hv
  · exact max_im
  · show Im h h' (match r with | [] => dataA h x | _ => .fail) (match r with | [] => dataA h' x | _ => .fail)
    split
    · exact data_im e
    · exact .fail
theorem argsA_nil : argsA env [] = [] := rfl
theorem argsA_cons (x : Operand) (l : List Operand) : argsA env (x :: l) = opnd env x :: argsA env l := rfl

theorem read_im {o : Op} (ho : isRead o = true) (e : Agr h h' (logOf env o)) : Im h h' (execO o cx env h) (execO o cx env h') := by
  cases o <;> first | (cases ho; done) | skip
  · exact .val
  · exact .val
  · rename_i c a b
    show Im h h' (xPick env h c a b) (xPick env h' c a b)
    unfold xPick
    cases opnd env c <;> first | exact .fail | skip
    rename_i t
    cases t <;> exact .val
  · exact .same
  · exact load_im e
  · exact Im.onPtr fun _ _ _ => .val
  · exact .same
  · exact .same
  · exact convert_im e
  · exact .val
  · exact slice_im e
  · exact fld_im
  · exact ix_im
  · exact index_im
  · exact extract_im
  · rename_i c
    obtain ⟨cal, args, ts⟩ := c
    cases cal with
    | value f => cases ho
    | invoke r m => cases ho
    | builtin b =>
      have hb : rdB b = true := ho
      have e : Agr h h' (match args.toList with | x :: _ => objOf (opnd env x) | [] => none) := e
      show Im h h' (builtinA cx b ts h (argsA env args.toList)) (builtinA cx b ts h' (argsA env args.toList))
      cases hargs : args.toList with
      | nil => exact .fail
      | cons x l =>
        rw [hargs] at e
        rw [argsA_cons]
        unfold builtinA
        cases ts.toList with
        | nil => exact .fail
        | cons t ts => exact builtin2_im hb e

theorem read_same {o : Op} (ho : isRead o = true) (e : execO o cx env h = .val v h') : h' = h :=
  ((read_im (h := h) (h' := h) ho (fun _ _ _ => rfl)).val_left e).1
theorem read_agr {o : Op} {k : AH} (ho : isRead o = true) (hv : execO o cx env h = .val v k) (e : Agr h h' (logOf env o)) : execO o cx env h' = .val v h' :=
  ((read_im ho e).val_left hv).2
theorem read_nocall {o : Op} (ho : isRead o = true) {f : FuncId} {l : List AV} : execO o cx env h ≠ .call f l := by
  intro hc
  rcases read_im (cx := cx) (env := env) (h := h) (h' := h) ho (fun _ _ _ => rfl) with e | ⟨u, e1, e2⟩
  · rw [e] at hc; cases hc
  · rw [e1] at hc; cases hc
theorem logD_read {o : Op} (ho : isRead o = true) (i : Nat) (log : List Lg) : logD env h i o log = match logOf env o with | some ob => ⟨i, ob, false⟩ :: log | none => log := by
  cases o <;> first | (cases ho; done) | rfl | skip
  rename_i c
  obtain ⟨cal, args, ts⟩ := c
  show (match args.toList with | x :: _ => logA (opnd env x) i log | [] => log) = match (match args.toList with | x :: _ => objOf (opnd env x) | [] => none : Option Nat) with | some ob => ⟨i, ob, false⟩ :: log | none => log
  split <;> rfl
theorem logD_birth {o : Op} (ho : isBirth o = true) (i : Nat) (log : List Lg) : logD env h i o log = ⟨i, h.next, true⟩ :: log := by
  cases o <;> first | (cases ho; done) | rfl

/-! ### the frame: only the operands are looked at -/
theorem argsA_env : ∀ {l : List Operand}, (∀ x ∈ l, opnd env x = opnd env' x) → argsA env l = argsA env' l
  | [], _ => rfl
  | x :: l, e => by
    rw [argsA_cons, argsA_cons, e x (List.mem_cons_self ..), argsA_env fun y hy => e y (List.mem_cons_of_mem _ hy)]
theorem partsA_env {l : List (Nat × Operand)} (e : ∀ x ∈ l.map (·.2), opnd env x = opnd env' x) : partsA env l = partsA env' l := by
  unfold partsA
  refine List.map_congr_left fun p hp => ?_
  rw [e p.2 (List.mem_map.2 ⟨p, hp, rfl⟩)]
theorem optOp_env {x : Option Operand} (e : ∀ y, x = some y → opnd env y = opnd env' y) : optOp env x = optOp env' x := by
  cases x with
  | none => rfl
  | some y => exact congrArg some (e y rfl)
theorem execO_env {o : Op} (e : ∀ x ∈ o.operands, opnd env x = opnd env' x) : execO o cx env h = execO o cx env' h := by
  cases o <;> simp only [Op.operands] at e <;> first | rfl | skip
  case move x => show Out.val _ _ = _; rw [e x (by simp)]; rfl
  case assign x => show Out.val _ _ = _; rw [e x (by simp)]; rfl
  case pick c a b =>
    show xPick env h c a b = xPick env' h c a b
    unfold xPick
    rw [e c (by simp), e a (by simp), e b (by simp)]
  case box t x => show xBox h t _ = xBox h t _; rw [e x (by simp)]
  case build t ps =>
    show ofOpt h (xBuild cx env t ps) = ofOpt h (xBuild cx env' t ps)
    unfold xBuild
    rw [partsA_env fun x hx => e x (by simpa using hx)]
  case buildSlice t n ps =>
    show xBuildSlice cx env h t n ps = xBuildSlice cx env' h t n ps
    unfold xBuildSlice
    rw [partsA_env fun x hx => e x (by simpa using hx)]
  case insert t m k x => show xUpdate cx h t _ _ _ = xUpdate cx h t _ _ _; rw [e m (by simp), e k (by simp), e x (by simp)]
  case load t x => show xLoad cx h t _ = xLoad cx h t _; rw [e x (by simp)]
  case store t x y => show xStore cx h t _ _ = xStore cx h t _ _; rw [e x (by simp), e y (by simp)]
  case nilCheck x => show xNil h _ = xNil h _; rw [e x (by simp)]
  case binOp op t x y t' => show ofOpt h (binA cx t op _ _) = ofOpt h (binA cx t op _ _); rw [e x (by simp), e y (by simp)]
  case unOp op t x => show ofOpt h (unA op _) = ofOpt h (unA op _); rw [e x (by simp)]
  case convert s d x => show xConvert cx h s d _ = xConvert cx h s d _; rw [e x (by simp)]
  case makeFunc f fs cs =>
    show Out.val (.func f (argsA env fs.toList) (argsA env cs.toList)) h = Out.val (.func f (argsA env' fs.toList) (argsA env' cs.toList)) h
    rw [argsA_env (l := fs.toList) fun x hx => e x (by simp at hx ⊢; exact .inl hx), argsA_env (l := cs.toList) fun x hx => e x (by simp at hx ⊢; exact .inr hx)]
  case makeSlice t x y => show xMakeSlice cx h t _ _ = xMakeSlice cx h t _ _; rw [e x (by simp), e y (by simp)]
  case slice t x lo hi m =>
    show xSlice cx env h t x lo hi m = xSlice cx env' h t x lo hi m
    unfold xSlice
    rw [e x (by simp), optOp_env (x := lo) fun y hy => e y (by simp [hy]), optOp_env (x := hi) fun y hy => e y (by simp [hy])]
  case fieldAddr s x f => show xFieldAddr cx h s _ f = xFieldAddr cx h s _ f; rw [e x (by simp)]
  case indexAddr t x y => show xIndexAddr cx h t _ _ = xIndexAddr cx h t _ _; rw [e x (by simp), e y (by simp)]
  case index t x y => show xIndex cx h t _ _ = xIndex cx h t _ _; rw [e x (by simp), e y (by simp)]
  case lookup t x y ok => show xLookup cx h t _ _ ok = xLookup cx h t _ _ ok; rw [e x (by simp), e y (by simp)]
  case mapUpdate t m k x => show xUpdate cx h t _ _ _ = xUpdate cx h t _ _ _; rw [e m (by simp), e k (by simp), e x (by simp)]
  case extract t i => show xExtract h _ i = xExtract h _ i; rw [e t (by simp)]
  case call c =>
    obtain ⟨cal, args, ts⟩ := c
    have ea : argsA env args.toList = argsA env' args.toList := argsA_env fun x hx => e x (by simp [Call.operands] at hx ⊢; exact .inr hx)
    cases cal with
    | invoke r m => rfl
    | value f =>
      show (match opnd env f with | .func (.func g) fs cs => Out.call g (fs ++ (argsA env args.toList ++ cs)) | _ => .fail) = (match opnd env' f with | .func (.func g) fs cs => Out.call g (fs ++ (argsA env' args.toList ++ cs)) | _ => .fail)
      rw [ea, e f (by simp [Call.operands])]
    | builtin b => show builtinA cx b ts h _ = builtinA cx b ts h _; rw [ea]
  case defer c =>
    obtain ⟨cal, args, ts⟩ := c
    cases cal with
    | value f => show xDefer cx h _ = xDefer cx h _; rw [e f (by simp [Call.operands])]
    | _ => rfl
theorem bornA_env {o : Op} (ho : isBirth o = true) (e : ∀ x ∈ o.operands, opnd env x = opnd env' x) : bornA cx env o = bornA cx env' o := by
  cases o <;> first | (cases ho; done) | skip
  · rfl
  · rename_i t x
    simp only [Op.operands] at e
    show bornBox t _ = bornBox t _
    rw [e x (by simp)]
  · rename_i t n ps
    simp only [Op.operands] at e
    show bornSlice cx env t n ps = bornSlice cx env' t n ps
    unfold bornSlice
    rw [partsA_env fun x hx => e x (by simpa using hx)]
  · rfl
  · rename_i t x y
    simp only [Op.operands] at e
    show bornMake cx t _ _ = bornMake cx t _ _
    rw [e x (by simp), e y (by simp)]
end Go.Sh
end
section
namespace Go.Sh
open Go
section
variable {cx : Cx} {env env' : Env} {h h' : AH} {v : AV}

/-- no call comes of it -/
def NC (o : Out) : Prop := ∀ f l, o ≠ .call f l
theorem NC.fail : NC .fail := fun _ _ e => by cases e
theorem NC.val {v : AV} {h : AH} : NC (.val v h) := fun _ _ e => by cases e
theorem NC.opt {x : Option AV} : NC (ofOpt h x) := by cases x <;> first | exact .fail | exact .val
theorem NC.ifB {b : Bool} {o o' : Out} (e : NC o) (e' : NC o') : NC (Sh.ifB b o o') := by cases b <;> assumption
theorem NC.newRow {d : TD} {e : TypeId} {l : List AV} {n : Nat} : NC (Sh.newRow d e h l n) := .ifB (.ifB (.ifB .fail .val) .fail) .fail
theorem NC.moveRow {d : TD} {e : TypeId} {o n : Nat} {l : List AV} {m len : Nat} {z : List AV} {c : Tr AV} : NC (Sh.moveRow d e h o n l m len z c) := by
  unfold Sh.moveRow
  refine .ifB .val ?_
  split
  · exact .val
  · exact .fail
theorem NC.appendE {d : TD} {e : TypeId} {o i n cap : Nat} {new : List AV} {m : Nat} {rw' : Bool} {t len : Nat} {z : List AV} {c : Tr AV} : NC (Sh.appendE d e h o i n cap new m rw' t len z c) := by
  unfold Sh.appendE
  refine .ifB (.ifB (.ifB (.ifB .val .fail) .fail) .fail) ?_
  split
  · exact .newRow
  · exact .fail
theorem NC.appendP {d : TD} {e : TypeId} {o i n s : Nat} {new : List AV} {m : Nat} {rw' : Bool} {t len : Nat} {z : List AV} {c : Tr AV} : NC (Sh.appendP d e h o i n s new m rw' t len z c) := by
  unfold Sh.appendP
  exact .ifB (.ifB (.ifB (.ifB (.ifB .fail (.ifB .val (.ifB (.ifB (.ifB .moveRow .fail) .fail) .fail))) .fail) .fail) .fail) .fail
theorem NC.app {t u : TypeId} {s x : AV} : NC (appA cx t u h s x) := by
  unfold appA
  split
  · split
    · split
      · unfold appendA
        split
        · exact .ifB .val .newRow
        · rename_i o i n c
          unfold appendO
          cases h.get o with
          | dead => exact .fail
          | map es => exact .fail
          | cells rw' t len z ct =>
            cases c with
            | ex k => exact .appendE
            | op s => exact .appendP
        · exact .fail
      · exact .fail
    · exact .fail
  · exact .fail
theorem NC.copy {t : TypeId} {d x : AV} : NC (copyA cx t h d x) := by
  unfold copyA
  repeat' (first | exact .fail | exact .val | exact .opt | split)
theorem NC.unsStr {t : TypeId} {p n : AV} : NC (unsafeStrA cx t h p n) := by
  unfold unsafeStrA
  split
  · refine .ifB (.ifB .fail ?_) .fail
    unfold unsStrP
    split
    · refine .ifB ?_ .fail
      split
      · split
        · unfold Sh.unsStr
          split
          · refine .ifB (.ifB ?_ .fail) .fail
            split
            · split
              · exact .val
              · exact .fail
            · exact .fail
          · exact .fail
        · exact .fail
      · exact .fail
    · exact .fail
  · exact .fail
theorem Im.nc {o : Out} (e : Im h h o o) : NC o := by
  rcases e with e | ⟨u, e1, _⟩
  · rw [e]; exact .fail
  · rw [e1]; exact .val
theorem NC.builtin {b : Builtin} {ts : Array TypeId} {args : List AV} : NC (builtinA cx b ts h args) := by
  unfold builtinA
  split
  · exact .fail
  · split
    · exact .fail
    · unfold builtin2
      split
      · exact .opt
      · split
        · split
          · exact .app
          · exact .fail
        · exact .fail
      · exact .opt
      · split
        · exact .copy
        · exact .fail
      · exact (max_im (h := h) (h' := h)).nc
      · split
        · exact (data_im (h := h) (h' := h) (fun _ _ _ => rfl)).nc
        · exact .fail
      · split
        · split
          · exact .unsStr
          · exact .fail
        · exact .fail
      · exact .fail
theorem NC.outB {x : Option (AObj × (Nat → AV))} : NC (Sh.outB h x) := by cases x <;> first | exact .fail | exact .val
theorem NC.update {t : TypeId} {m k x : AV} : NC (xUpdate cx h t m k x) := by
  unfold xUpdate
  split
  · split
    · refine .ifB ?_ .fail
      unfold updE
      split
      · split
        · exact .fail
        · exact .val
      · exact .fail
    · exact .fail
  · exact .fail
theorem NC.store {t : TypeId} {p a : AV} : NC (xStore cx h t p a) := by
  unfold xStore
  repeat' (first | exact .fail | exact .val | split)
theorem NC.lookup {t : TypeId} {m k : AV} {ok : Bool} : NC (xLookup cx h t m k ok) := by
  unfold xLookup
  split
  · refine .ifB ?_ .fail
    repeat' (first | exact .fail | exact .val | split)
  · exact .fail
theorem lookup_same {t : TypeId} {m k : AV} {ok : Bool} (e : xLookup cx h t m k ok = .val v h') : h' = h := by
  unfold xLookup at e
  split at e
  · obtain ⟨_, e⟩ := ifB_val e
    repeat' (first | (cases e; done) | (cases e; rfl) | split at e)
  · cases e
theorem NC.defer {a : AV} : NC (xDefer cx h a) := by
  unfold xDefer
  repeat' (first | exact .fail | exact .val | split)
theorem defer_same {a : AV} (e : xDefer cx h a = .val v h') : h' = h := by
  unfold xDefer at e
  repeat' (first | (cases e; done) | (cases e; rfl) | split at e)

theorem exec_nc {o : Op} (hc : ∀ c, o ≠ .call c) : NC (execO o cx env h) := by
  by_cases hr : isRead o = true
  · exact fun f l => read_nocall hr
  · by_cases hb : isBirth o = true
    · rw [born_exec hb]; exact .outB
    · cases o <;> first | (exact absurd rfl hr) | (exact absurd rfl hb) | exact .fail | skip
      · exact .update
      · exact .store
      · exact .lookup
      · exact .update
      · rename_i c; exact absurd rfl (hc c)
      · rename_i c
        show NC (match c.callee with | .value f => xDefer cx h (opnd env f) | _ => .fail)
        split
        · exact .defer
        · exact .fail
theorem exec_pres {o : Op} (e : execO o cx env h = .val v h') : Pres h h' := by
  by_cases hr : isRead o = true
  · rw [read_same hr e]; exact Pres.refl _
  · by_cases hb : isBirth o = true
    · rw [born_exec hb] at e
      exact outB_pres (fun p hp => bornA_owns hp) e
    · cases o <;> first | (exact absurd rfl hr) | (exact absurd rfl hb) | (cases e; done) | skip
      · exact update_pres e
      · exact store_pres e
      · rw [lookup_same e]; exact Pres.refl _
      · exact update_pres e
      · rename_i c
        obtain ⟨cal, args, ts⟩ := c
        cases cal with
        | value f =>
          have e : (match opnd env f with | .func (.func g) fs cs => Out.call g (fs ++ (argsA env args.toList ++ cs)) | _ => .fail) = .val v h' := e
          split at e <;> cases e
        | invoke r m => cases e
        | builtin b => exact builtin_pres e
      · rename_i c
        have e : (match c.callee with | .value f => xDefer cx h (opnd env f) | _ => .fail) = .val v h' := e
        split at e
        · rw [defer_same e]; exact Pres.refl _
        · cases e
end

section
variable {P : Program} {cx : Cx} {G : Nat → Bool} {nt : Nat} {ρ : Rho} {env : Env} {a : Act} {w0 : World} {K : Nat → Option Obj} {h h' : AH} {w : World} {v : AV}

def okM (o : Op) : Bool := match o with | .makeMap _ (some _) => false | _ => true
def okO (G : Nat → Bool) (nt : Nat) (o : Op) : Bool := okM o && o.operands.toList.all (okX G nt)
theorem okO_x {o : Op} (h : okO G nt o = true) : ∀ x ∈ o.operands, okX G nt x = true := by
  unfold okO at h
  simp only [Bool.and_eq_true, List.all_eq_true] at h
  exact fun x hx => h.2 x (by simpa using hx)
def DefOk (cx : Cx) (d : Deferred) : Prop := ∃ g cap, d.target = .fn (.func g) cap ∧ cx.dfr.get g = some ()

/-- what one operation comes to -/
inductive OpR (P : Program) (cx : Cx) (w0 : World) (K : Nat → Option Obj) (ρ : Rho) (h : AH) (w : World) : Out → Result Next → Prop
  | fail (r) : OpR P cx w0 K ρ h w .fail r
  | val {h' v ρ' x w'} (e : ExtN h.next ρ ρ') (c : conc ρ' v = some x) (H : HR w0 K ρ' h' w') : OpR P cx w0 K ρ h w (.val v h') (.ok (.value x) w')
  | skip {h' ρ' w'} (e : ExtN h.next ρ ρ') (H : HR w0 K ρ' h' w') : OpR P cx w0 K ρ h w (.val (.tup []) h') (.ok .skip w')
  | defer {d} (hd : DefOk cx d) : OpR P cx w0 K ρ h w (.val (.tup []) h) (.ok (.defer d) w)
  | call {f l vs r} (c : concL ρ l = some vs) (e : r = (callFunc f vs.toArray).run P w) : OpR P cx w0 K ρ h w (.call f l) r

theorem OpR.ofRead (H : HR w0 K ρ h w) {s : Sem Value} (hr : ReadR P ρ h h' w v (s.run P w)) :
    OpR P cx w0 K ρ h w (.val v h') ((do pure (.value (← s)) : Sem Next).run P w) := by
  obtain ⟨rfl, x, h1, h2⟩ := hr
  rw [Sem.run_bind, h2]
  exact .val (ExtN.refl _ _) h1 H
theorem OpR.ofEff {s : Sem Value} (hr : EffR w0 K ρ h h' v (s.run P w)) :
    OpR P cx w0 K ρ h w (.val v h') ((do pure (.value (← s)) : Sem Next).run P w) := by
  obtain ⟨ρ', x, w', h1, h2, h3, h4⟩ := hr
  rw [Sem.run_bind, h1]
  exact .val h2 h3 h4
theorem OpR.ofBorn (H : HR w0 K ρ h w) {s : Sem Value} {x : Option (AObj × (Nat → AV))} (hr : ∀ p, x = some p → BornR ρ p.1 p.2 (s.run P w) w) :
    OpR P cx w0 K ρ h w (outB h x) ((do pure (.value (← s)) : Sem Next).run P w) := by
  cases x with
  | none => exact .fail _
  | some p => exact .ofEff ((hr p rfl).eff H)
theorem OpR.ofOpt (H : HR w0 K ρ h w) {s : Sem Value} {x : Option AV} (hr : ∀ v, x = some v → ∃ y, conc ρ v = some y ∧ s.run P w = .ok y w) :
    OpR P cx w0 K ρ h w (Sh.ofOpt h x) ((do pure (.value (← s)) : Sem Next).run P w) := by
  cases x with
  | none => exact .fail _
  | some v =>
    obtain ⟨y, h1, h2⟩ := hr v rfl
    exact .ofRead H ⟨rfl, y, h1, h2⟩
theorem OpR.ofX {o : Out} (hn : NC o) {r : Result Next} (hv : ∀ v h', o = .val v h' → OpR P cx w0 K ρ h w (.val v h') r) : OpR P cx w0 K ρ h w o r := by
  cases o with
  | fail => exact .fail _
  | val v h' => exact hv v h' rfl
  | call f l => exact absurd rfl (hn f l)

theorem born_ok (T : TysR P cx.ty) (hE : EnvR nt ρ env a) (hG : GlobR G ρ) (w : World) {o : Oper} (hb : isBirth o.op = true) (hx : okO G nt o.op = true) {p : AObj × (Nat → AV)} (e : bornA cx env o.op = some p) :
    ∃ s : Sem Value, execOp a.eval o = (do pure (.value (← s))) ∧ BornR ρ p.1 p.2 (s.run P w) w := by
  obtain ⟨dst, op, type, pos, after, guard⟩ := o
  obtain ⟨x, mk⟩ := p
  have hX := okO_x hx
  cases op <;> first | (cases hb; done) | skip
  · exact ⟨_, rfl, alloc_ok T w e⟩
  · rename_i t y
    exact ⟨_, rfl, box_ok w (opnd_conc hE hG (hX y (by simp [Op.operands]))) e⟩
  · rename_i t n ps
    refine ⟨_, rfl, buildSlice_ok T hE hG w ?_ e⟩
    exact List.all_eq_true.2 fun p hp => hX p.2 (by simp only [Op.operands, List.mem_toArray, List.mem_map]; exact ⟨p, hp, rfl⟩)
  · rename_i t r
    cases r with
    | none => exact ⟨_, rfl, map_ok w e⟩
    | some r => simp [okO, okM] at hx
  · rename_i t l c
    exact ⟨_, rfl, makeSlice_ok T w (opnd_conc hE hG (hX l (by simp [Op.operands]))) (opnd_conc hE hG (hX c (by simp [Op.operands]))) e⟩

theorem data_arr (vx : Value) (vr : List Value) : ((vx :: vr).toArray)[0]? = some vx := by simp

theorem builtin_ok (T : TysR P cx.ty) (H : HR w0 K ρ h w) {b : Builtin} {ts : Array TypeId} {ty : TypeId} {cs : Array Bool} {args : List AV} {vs : List Value} (hargs : concL ρ args = some vs)
    (e : builtinA cx b ts h args = .val v h') : OpR P cx w0 K ρ h w (.val v h') ((builtin b ts ty cs vs.toArray).run P w) := by
  unfold builtinA at e
  split at e
  · cases e
  rename_i x rest
  split at e
  · cases e
  rename_i t tl htl
  have hts : ts = (t :: tl).toArray := by rw [← htl]
  have ht0 : ts[0]? = some t := by rw [hts]; simp
  obtain ⟨vx, vr, rfl, hx, hr⟩ : ∃ vx vr, vs = vx :: vr ∧ conc ρ x = some vx ∧ concL ρ rest = some vr := by
    simp only [concL] at hargs
    cases h1 : conc ρ x with
    | none => simp [h1] at hargs
    | some vx =>
      cases h2 : concL ρ rest with
      | none => simp [h1, h2] at hargs
      | some vr => simp [h1, h2] at hargs; exact ⟨vx, vr, hargs.symm, rfl, rfl⟩
  have one : ∀ y, rest = [y] → ∃ vy, vr = [vy] ∧ conc ρ y = some vy := by
    intro y hy
    subst hy
    simp only [concL] at hr
    cases h1 : conc ρ y with
    | none => simp [h1] at hr
    | some vy => simp [h1] at hr; exact ⟨vy, hr.symm, rfl⟩
  have none' : rest = [] → vr = [] := by
    intro hy
    subst hy
    simpa [concL] using hr.symm
  unfold builtin2 at e
  split at e
  · -- len
    obtain ⟨rfl, e1⟩ := ofOpt_val e
    obtain ⟨y, y1, y2⟩ := len_ok T H (ty := ty) hx e1 ts (vx :: vr).toArray ht0
    exact .ofRead (s := Builtin.len_ ts ty (vx :: vr).toArray) H ⟨rfl, y, y1, y2 _ (data_arr vx vr)⟩
  · -- append
    split at e
    · rename_i y
      split at e
      · rename_i u
        obtain ⟨vy, rfl, hy⟩ := one _ rfl
        rw [hts]
        exact .ofEff (s := Builtin.append_ #[t, u] ty #[vx, vy]) (append_ok T H hx hy e)
      · cases e
    · cases e
  · -- cap
    obtain ⟨rfl, e1⟩ := ofOpt_val e
    obtain ⟨y, y1, y2⟩ := cap_ok (w := w) T (ty := ty) hx e1 ts ht0
    exact .ofRead (s := Builtin.cap_ ts ty (vx :: vr).toArray) H ⟨rfl, y, y1, y2 _ (data_arr vx vr)⟩
  · -- copy
    split at e
    · rename_i y
      obtain ⟨vy, rfl, hy⟩ := one _ rfl
      exact .ofEff (s := Builtin.copy_ ts ty #[vx, vy]) (copy_ok T H hx hy e ts ht0)
    · cases e
  · exact .ofRead (s := Builtin.max_ ts ty (vx :: vr).toArray) H (max_ok hx hr e ts)
  · split at e
    · rw [none' rfl]
      exact .ofRead (s := Builtin.unsafeSliceData_ ts ty #[vx]) H (data_ok H hx e ts)
    · cases e
  · split at e
    · rename_i y
      split at e
      · rename_i u
        obtain ⟨vy, rfl, hy⟩ := one _ rfl
        rw [hts]
        exact .ofEff (s := Builtin.unsafeString_ #[t, u] ty #[vx, vy]) (unsStr_ok T H hx hy e)
      · cases e
    · cases e
  · cases e

theorem concL_app {l m : List AV} {vs us : List Value} (h1 : concL ρ l = some vs) (h2 : concL ρ m = some us) : concL ρ (l ++ m) = some (vs ++ us) := concL_append h1 h2

theorem exec_ok (T : TysR P cx.ty) (E : EqsR P cx.eqt) (hE : EnvR nt ρ env a) (hG : GlobR G ρ) (H : HR w0 K ρ h w) {o : Oper} (hx : okO G nt o.op = true) :
    OpR P cx w0 K ρ h w (execO o.op cx env h) ((execOp a.eval o).run P w) := by
  by_cases hb : isBirth o.op = true
  · rw [born_exec hb]
    cases hp : bornA cx env o.op with
    | none => exact .fail _
    | some p =>
      obtain ⟨s, s1, s2⟩ := born_ok T hE hG w hb hx hp
      rw [s1]
      exact .ofEff (s2.eff H)
  have hX := okO_x hx
  obtain ⟨dst, op, type, pos, after, guard⟩ := o
  have cX : ∀ x ∈ op.operands, conc ρ (opnd env x) = some (a.eval x) := fun x hm => opnd_conc hE hG (hX x hm)
  cases op <;> first | (exact absurd rfl hb) | exact .fail _ | skip
  case move x => exact .val (ExtN.refl _ _) (cX x (by simp [Op.operands])) H
  case assign x => exact .val (ExtN.refl _ _) (cX x (by simp [Op.operands])) H
  case pick c x y =>
    refine .ofX (exec_nc fun _ e => by cases e) fun v h' e => ?_
    obtain ⟨rfl, t, t1, t2⟩ := pick_ok hE hG (hX c (by simp [Op.operands])) (hX x (by simp [Op.operands])) (hX y (by simp [Op.operands])) e
    have : (execOp a.eval ⟨dst, .pick c x y, type, pos, after, guard⟩).run P w = .ok (.value (if t then a.eval x else a.eval y)) w := by
      simp [execOp, asBool, t1]
    rw [this]
    exact .val (ExtN.refl _ _) t2 H
  case build t ps =>
    refine OpR.ofOpt (s := Instr.build t (ps.map fun (i, x) => (i, a.eval x))) H fun v e => ?_
    exact build_ok T hE hG (List.all_eq_true.2 fun p hp => hX p.2 (by simp only [Op.operands, List.mem_toArray, List.mem_map]; exact ⟨p, hp, rfl⟩)) e
  case insert t m k x =>
    refine .ofX (exec_nc fun _ e => by cases e) fun v h' e => ?_
    obtain ⟨rfl, w', e1, e2⟩ := update_ok T H (cX m (by simp [Op.operands])) (cX k (by simp [Op.operands])) (cX x (by simp [Op.operands])) e
    have : (execOp a.eval ⟨dst, .insert t m k x, type, pos, after, guard⟩).run P w = .ok .skip w' := by simp [execOp, e1]
    rw [this]
    exact .skip (ExtN.refl _ _) e2
  case mapUpdate t m k x =>
    refine .ofX (exec_nc fun _ e => by cases e) fun v h' e => ?_
    obtain ⟨rfl, w', e1, e2⟩ := update_ok T H (cX m (by simp [Op.operands])) (cX k (by simp [Op.operands])) (cX x (by simp [Op.operands])) e
    have : (execOp a.eval ⟨dst, .mapUpdate t m k x, type, pos, after, guard⟩).run P w = .ok .skip w' := by simp [execOp, e1]
    rw [this]
    exact .skip (ExtN.refl _ _) e2
  case load t x =>
    show OpR P cx w0 K ρ h w (xLoad cx h t (opnd env x)) _
    unfold xLoad
    cases hd : cx.ty.get t with
    | none => exact .fail _
    | some d => exact OpR.ofOpt (s := Instr.loadAt t (a.eval x)) H fun v e => loadA_ok T H hd (cX x (by simp [Op.operands])) e
  case store t x y =>
    refine .ofX (exec_nc fun _ e => by cases e) fun v h' e => ?_
    have e : xStore cx h t (opnd env x) (opnd env y) = .val v h' := e
    unfold xStore at e
    split at e
    · rename_i d hd
      split at e
      · rename_i h2 hs
        cases e
        obtain ⟨w', e1, e2⟩ := store_ok (P := P) T H hd (cX x (by simp [Op.operands])) (cX y (by simp [Op.operands])) hs
        have : (execOp a.eval ⟨dst, .store t x y, type, pos, after, guard⟩).run P w = .ok .skip w' := by simp [execOp, e1]
        rw [this]
        exact .skip (ExtN.refl _ _) e2
      · cases e
    · cases e
  case nilCheck x =>
    refine .ofX (exec_nc fun _ e => by cases e) fun v h' e => ?_
    have hc := cX x (by simp [Op.operands])
    have e : xNil h (opnd env x) = .val v h' := e
    unfold xNil at e
    cases hx : opnd env x <;> rw [hx] at e <;> first | (cases e; done) | skip
    rename_i o i
    cases e
    rw [hx] at hc
    cases hp : ρ o with
    | none => simp [conc, hp] at hc
    | some p =>
      have hc' : a.eval x = .pointer (some ⟨p.b, p.off + i, none⟩) := by simpa [conc, hp] using hc.symm
      have : (execOp a.eval ⟨dst, .nilCheck x, type, pos, after, guard⟩).run P w = .ok (.value (a.eval x)) w := by simp [execOp, hc']
      rw [this]
      exact .val (ExtN.refl _ _) hc H
  case binOp op t x y t' =>
    refine OpR.ofOpt (s := do eqGuard op t x y (a.eval x) (a.eval y); Go.binOp op t (a.eval x) (a.eval y)) H fun v e => ?_
    obtain ⟨z, z1, z2⟩ := binA_ok T E (w := w) (cX x (by simp [Op.operands])) (cX y (by simp [Op.operands])) e
    exact ⟨z, z1, z2 x y⟩
  case unOp op t x => exact OpR.ofOpt (s := Op.unary op (a.eval x)) H fun v e => un_ok (cX x (by simp [Op.operands])) e
  case convert s d x => exact .ofX (exec_nc fun _ e => by cases e) fun v h' e => .ofRead (s := convert s d (a.eval x)) H (convert_ok T H (cX x (by simp [Op.operands])) e)
  case makeFunc f fs cs =>
    have h1 : concL ρ (argsA env fs.toList) = some (fs.toList.map a.eval) := args_conc hE hG (List.all_eq_true.2 fun x hm => hX x (by simp [Op.operands]; exact .inl (by simpa using hm)))
    have h2 : concL ρ (argsA env cs.toList) = some (cs.toList.map a.eval) := args_conc hE hG (List.all_eq_true.2 fun x hm => hX x (by simp [Op.operands]; exact .inr (by simpa using hm)))
    refine OpR.ofRead (s := Instr.makeFunc f (fs.map a.eval) (cs.map a.eval)) (v := .func f (argsA env fs.toList) (argsA env cs.toList)) H ⟨rfl, .func f (fs.map a.eval) (cs.map a.eval), ?_, ?_⟩
    · simp only [conc, h1, h2]
      congr 2 <;> (apply Array.ext'; simp)
    · simp [Instr.makeFunc]
  case slice t x lo hi m =>
    have hx : okX G nt x = true := hX x (by simp [Op.operands])
    show OpR P cx w0 K ρ h w (xSlice cx env h t x lo hi m) _
    unfold xSlice
    cases m with
    | some m => exact .fail _
    | none =>
      refine OpR.ofOpt (s := Instr.sliceAt t (a.eval x) (lo.map a.eval) (hi.map a.eval) none) H fun v e => ?_
      exact slice_ok T H (cX x (by simp [Op.operands])) (optOp_conc hE hG (by cases lo with | none => rfl | some y => exact hX y (by simp [Op.operands]))) (optOp_conc hE hG (by cases hi with | none => rfl | some y => exact hX y (by simp [Op.operands]))) e
  case fieldAddr s x f => exact .ofX (exec_nc fun _ e => by cases e) fun v h' e => .ofRead (s := Instr.fieldAt s (a.eval x) f) H (fld_ok T (cX x (by simp [Op.operands])) e)
  case indexAddr t x y => exact .ofX (exec_nc fun _ e => by cases e) fun v h' e => .ofRead (s := Instr.indexAt t (a.eval x) (a.eval y)) H (ix_ok T (cX x (by simp [Op.operands])) (cX y (by simp [Op.operands])) e)
  case index t x y => exact .ofX (exec_nc fun _ e => by cases e) fun v h' e => .ofRead (s := Instr.index t (a.eval x) (a.eval y)) H (index_ok T (cX x (by simp [Op.operands])) (cX y (by simp [Op.operands])) e)
  case lookup t x y ok => exact .ofX (exec_nc fun _ e => by cases e) fun v h' e => .ofRead (s := Instr.lookup t (a.eval x) (a.eval y) ok) H (lookup_ok T H (cX x (by simp [Op.operands])) (cX y (by simp [Op.operands])) e)
  case extract t i => exact .ofX (exec_nc fun _ e => by cases e) fun v h' e => .ofRead (s := Instr.extract (a.eval t) i) H (extract_ok (cX t (by simp [Op.operands])) e)
  case call c =>
    obtain ⟨cal, args, ts⟩ := c
    have hargs : concL ρ (argsA env args.toList) = some (args.toList.map a.eval) := args_conc hE hG (List.all_eq_true.2 fun x hm => hX x (by simp [Op.operands, Call.operands]; exact .inr (by simpa using hm)))
    cases cal with
    | invoke r m => exact .fail _
    | builtin b =>
      refine .ofX NC.builtin fun v h' e => ?_
      obtain ⟨cs, hrun⟩ : ∃ cs, (execOp a.eval ⟨dst, .call ⟨.builtin b, args, ts⟩, type, pos, after, guard⟩).run P w = (builtin b ts type cs (args.toList.map a.eval).toArray).run P w := by
        have hm : args.map a.eval = (args.toList.map a.eval).toArray := by apply Array.ext'; simp
        rw [← hm]
        exact ⟨_, rfl⟩
      rw [hrun]
      exact builtin_ok (P := P) T H hargs e
    | value f =>
      have hf := cX f (by simp [Op.operands, Call.operands])
      show OpR P cx w0 K ρ h w (match opnd env f with | .func (.func g) fs cs => Out.call g (fs ++ (argsA env args.toList ++ cs)) | _ => .fail) _
      split
      · rename_i g fs cs hof
        rw [hof] at hf
        simp only [conc] at hf
        cases h1 : concL ρ fs with
        | none => simp [h1] at hf
        | some vf =>
          cases h2 : concL ρ cs with
          | none => simp [h1, h2] at hf
          | some vc =>
            simp only [h1, h2, Option.some.injEq] at hf
            refine .call (concL_append h1 (concL_append hargs h2)) ?_
            have hm : args.map a.eval = (args.toList.map a.eval).toArray := by apply Array.ext'; simp
            simp [execOp, resolve, ← hf, Deferred.ofValue, invoke, hm]
      · exact .fail _
  case defer c =>
    obtain ⟨cal, args, ts⟩ := c
    cases cal with
    | invoke r m => exact .fail _
    | builtin b => exact .fail _
    | value f =>
      have hf := cX f (by simp [Op.operands, Call.operands])
      show OpR P cx w0 K ρ h w (xDefer cx h (opnd env f)) _
      unfold xDefer
      split
      · rename_i g fs cs hof
        rw [hof] at hf
        simp only [conc] at hf
        cases h1 : concL ρ fs with
        | none => simp [h1] at hf
        | some vf =>
          cases h2 : concL ρ cs with
          | none => simp [h1, h2] at hf
          | some vc =>
            simp only [h1, h2, Option.some.injEq] at hf
            split
            · rename_i u hg
              have : (execOp a.eval ⟨dst, .defer ⟨.value f, args, ts⟩, type, pos, after, guard⟩).run P w = .ok (.defer { target := .fn (.func g) vc.toArray, args := vf.toArray ++ args.map a.eval }) w := by
                simp [execOp, resolve, ← hf, Deferred.ofValue]
              rw [this]
              exact .defer ⟨g, _, rfl, hg⟩
            · exact .fail _
      · exact .fail _
end
end Go.Sh
end
section
namespace Go.Sh
open Go

/-! ### objects that are kept out of the way -/
def Dim (x y : AObj) : Prop := y = .dead ∨ ∃ t len z c, x = .cells true t len z c ∧ y = .cells false t len z c
structure LockR (h0 h : AH) (sv : List (Nat × AObj)) (D : Nat → Prop) : Prop where
  next : h.next = h0.next
  off : ∀ o, ¬ D o → h.get o = h0.get o
  dim : ∀ o, D o → ¬ Owns (h.get o) ∧ Dim (h0.get o) (h.get o)
  back : ∀ h1, (unlockL sv h1).next = h1.next ∧ (∀ o, D o → (unlockL sv h1).get o = h0.get o) ∧ ∀ o, ¬ D o → (unlockL sv h1).get o = h1.get o

theorem LockR.nil (h : AH) : LockR h h [] (fun _ => False) :=
  ⟨rfl, fun _ _ => rfl, fun _ hd => hd.elim, fun h1 => ⟨rfl, fun _ hd => hd.elim, fun _ _ => rfl⟩⟩

theorem lock1_some {hide : Bool} {x y : AObj} (e : lock1 hide x = some y) : ¬ Owns y ∧ (y = .dead ∨ ∃ t len z c, x = .cells true t len z c ∧ y = .cells false t len z c) ∧ (hide = true → y = .dead) := by
  unfold lock1 at e
  cases hide with
  | true => cases e; exact ⟨fun h => h, .inl rfl, fun _ => rfl⟩
  | false =>
    cases x with
    | dead => cases e
    | map es => cases e; exact ⟨fun h => h, .inl rfl, fun h => (by cases h)⟩
    | cells rw' t len z c =>
      cases rw' with
      | true => cases e; exact ⟨fun h => (by cases h), .inr ⟨_, _, _, _, rfl, rfl⟩, fun h => (by cases h)⟩
      | false => cases e
theorem lock1_none {hide : Bool} {x : AObj} (e : lock1 hide x = none) : hide = false ∧ ¬ Owns x := by
  unfold lock1 at e
  cases hide with
  | true => cases e
  | false =>
    refine ⟨rfl, ?_⟩
    cases x with
    | dead => exact fun h => h
    | map es => cases e
    | cells rw' t len z c =>
      cases rw' with
      | true => cases e
      | false => exact fun h => by cases h

theorem LockR.step {h0 h : AH} {sv : List (Nat × AObj)} {D : Nat → Prop} (H : LockR h0 h sv D) {hide : Bool} {ob : Nat} {y : AObj} (e : lock1 hide (h.get ob) = some y) :
    LockR h0 (h.put ob y) ((ob, h.get ob) :: sv) (fun o => D o ∨ o = ob) := by
  obtain ⟨l1, l2, l3⟩ := lock1_some e
  refine ⟨H.next, fun o hn => ?_, fun o hd => ?_, fun h1 => ?_⟩
  · have hn1 : ¬ D o := fun x => hn (.inl x)
    have hn2 : o ≠ ob := fun x => hn (.inr x)
    rw [AH.get_put, if_neg hn2]
    exact H.off o hn1
  · by_cases ho : o = ob
    · subst ho
      rw [AH.get_put, if_pos rfl]
      refine ⟨l1, ?_⟩
      rcases l2 with l2 | ⟨t, len, z, c, l2, l2'⟩
      · exact .inl l2
      · by_cases hdo : D o
        · rcases (H.dim o hdo).2 with k | ⟨t', len', z', c', k, k'⟩
          · rw [k] at l2; cases l2
          · rw [k'] at l2; cases l2
        · rw [H.off o hdo] at l2
          exact .inr ⟨t, len, z, c, l2, l2'⟩
    · rw [AH.get_put, if_neg ho]
      exact H.dim o (hd.resolve_right ho)
  · obtain ⟨b1, b2, b3⟩ := H.back (h1.put ob (h.get ob))
    show (unlockL sv (h1.put ob (h.get ob))).next = _ ∧ _
    refine ⟨b1, fun o hd => ?_, fun o hn => ?_⟩
    · show (unlockL sv (h1.put ob (h.get ob))).get o = _
      by_cases hdo : D o
      · exact b2 o hdo
      · have ho : o = ob := hd.resolve_left hdo
        rw [b3 o hdo, AH.get_put, if_pos ho, ← H.off o hdo, ho]
    · show (unlockL sv (h1.put ob (h.get ob))).get o = _
      have hn1 : ¬ D o := fun x => hn (.inl x)
      have hn2 : o ≠ ob := fun x => hn (.inr x)
      rw [b3 o hn1, AH.get_put, if_neg hn2]

/-- what is locked stays out of the way -/
theorem lockL_out (m : Nat) : ∀ (log : List Lg) (h : AH) (sv : List (Nat × AObj)), (lockL m log h sv).1.next = h.next ∧ ∀ o, ¬ Owns (h.get o) → ¬ Owns ((lockL m log h sv).1.get o) ∧ (h.get o = .dead → (lockL m log h sv).1.get o = .dead)
  | [], h, sv => ⟨rfl, fun o hn => ⟨hn, fun e => e⟩⟩
  | e :: l, h, sv => by
    cases hb : Nat.testBit m e.i with
    | true =>
      have : lockL m (e :: l) h sv = lockL m l h sv := by show ifB (Nat.testBit m e.i) _ _ = _; rw [hb]
      rw [this]; exact lockL_out m l h sv
    | false =>
      have : lockL m (e :: l) h sv = match lock1 e.hide (h.get e.o) with
          | some y => lockL m l (h.put e.o y) ((e.o, h.get e.o) :: sv)
          | none => lockL m l h sv := by show ifB (Nat.testBit m e.i) _ _ = _; rw [hb]; rfl
      rw [this]
      cases hl : lock1 e.hide (h.get e.o) with
      | none => exact lockL_out m l h sv
      | some y =>
        obtain ⟨i1, i2⟩ := lockL_out m l (h.put e.o y) ((e.o, h.get e.o) :: sv)
        refine ⟨i1, fun o hn => ?_⟩
        have hy := lock1_some hl
        have hput : ¬ Owns ((h.put e.o y).get o) ∧ (h.get o = .dead → (h.put e.o y).get o = .dead) := by
          rw [AH.get_put]
          split
          · rename_i heq
            refine ⟨hy.1, fun hd => ?_⟩
            rcases hy.2.1 with k | ⟨t, len, z, c, k, _⟩
            · exact k
            · rw [← heq, hd] at k; cases k
          · exact ⟨hn, fun x => x⟩
        exact ⟨(i2 o hput.1).1, fun hd => (i2 o hput.1).2 (hput.2 hd)⟩
theorem lockL_ok (m : Nat) (h0 : AH) : ∀ (log : List Lg) (h : AH) (sv : List (Nat × AObj)) (D : Nat → Prop), LockR h0 h sv D →
    ∃ D', LockR h0 (lockL m log h sv).1 (lockL m log h sv).2 D' ∧ (∀ o, D o → D' o) ∧ ∀ e ∈ log, Nat.testBit m e.i = false → ¬ Owns ((lockL m log h sv).1.get e.o) ∧ (e.hide = true → D' e.o ∧ (lockL m log h sv).1.get e.o = .dead)
  | [], h, sv, D, H => ⟨D, H, fun _ h => h, fun e he => by cases he⟩
  | e :: l, h, sv, D, H => by
    cases hb : Nat.testBit m e.i with
    | true =>
      have : lockL m (e :: l) h sv = lockL m l h sv := by show ifB (Nat.testBit m e.i) _ _ = _; rw [hb]
      rw [this]
      obtain ⟨D', h1, h2, h3⟩ := lockL_ok m h0 l h sv D H
      refine ⟨D', h1, h2, fun e' he hf => ?_⟩
      rcases List.mem_cons.1 he with rfl | he
      · rw [hb] at hf; cases hf
      · exact h3 e' he hf
    | false =>
      have : lockL m (e :: l) h sv = match lock1 e.hide (h.get e.o) with
          | some y => lockL m l (h.put e.o y) ((e.o, h.get e.o) :: sv)
          | none => lockL m l h sv := by show ifB (Nat.testBit m e.i) _ _ = _; rw [hb]; rfl
      rw [this]
      cases hl : lock1 e.hide (h.get e.o) with
      | none =>
        obtain ⟨D', h1, h2, h3⟩ := lockL_ok m h0 l h sv D H
        refine ⟨D', h1, h2, fun e' he hf => ?_⟩
        rcases List.mem_cons.1 he with rfl | he
        · obtain ⟨n1, n2⟩ := lock1_none hl
          exact ⟨((lockL_out m l h sv).2 _ n2).1, fun x => by rw [n1] at x; cases x⟩
        · exact h3 e' he hf
      | some y =>
        obtain ⟨D', h1, h2, h3⟩ := lockL_ok m h0 l (h.put e.o y) ((e.o, h.get e.o) :: sv) _ (H.step hl)
        obtain ⟨l1, l2, l3⟩ := lock1_some hl
        have hg : (h.put e.o y).get e.o = y := by rw [AH.get_put, if_pos rfl]
        refine ⟨D', h1, fun o hd => h2 o (.inl hd), fun e' he hf => ?_⟩
        rcases List.mem_cons.1 he with rfl | he
        · have k := (lockL_out m l (h.put e'.o y) ((e'.o, h.get e'.o) :: sv)).2 e'.o (by rw [hg]; exact l1)
          exact ⟨k.1, fun x => ⟨h2 _ (.inr rfl), k.2 (by rw [hg]; exact l3 x)⟩⟩
        · exact h3 e' he hf

section
variable {ρ : Rho} {w0 : World} {K : Nat → Option Obj} {h h' : AH} {w : World}

theorem HR.congr (H : HR w0 K ρ h w) (hn : h'.next = h.next) (hg : ∀ o, h'.get o = h.get o) : HR w0 K ρ h' w :=
  ⟨H.os, H.tape, H.output, H.size, H.frame, fun o ho => by rw [hg]; exact H.fresh o (by omega), fun o ho => by rw [hg] at ho ⊢; exact H.objs o ho,
    fun o o' p p' h1 h2 h3 h4 h5 => H.excl o o' p p' (by rw [← hg]; exact h1) (by rw [← hg]; exact h2) h3 h4 h5⟩

/-- the blocks that are kept out of the way -/
def Lies (hs : AH) (ρ : Rho) (D : Nat → Prop) (b : Nat) : Prop := ∃ o p, D o ∧ hs.get o ≠ .dead ∧ ρ o = some p ∧ p.b = b
open Classical in
noncomputable def KD (K : Nat → Option Obj) (w : World) (hs : AH) (ρ : Rho) (D : Nat → Prop) (b : Nat) : Option Obj := if Lies hs ρ D b then w.heap[b]? else K b
theorem KD_pos {D : Nat → Prop} {hs : AH} {b : Nat} (h : Lies hs ρ D b) : KD K w hs ρ D b = w.heap[b]? := by unfold KD; rw [if_pos h]
theorem KD_neg {D : Nat → Prop} {hs : AH} {b : Nat} (h : ¬ Lies hs ρ D b) : KD K w hs ρ D b = K b := by unfold KD; rw [if_neg h]

/-- the memory under locks -/
theorem HR.lock {hs hl : AH} {D : Nat → Prop} (H : HR w0 K ρ hs w) (hn : hl.next = hs.next)
    (off : ∀ o, ¬ D o → hl.get o = hs.get o) (dim : ∀ o, D o → ¬ Owns (hl.get o) ∧ Dim (hs.get o) (hl.get o)) : HR w0 (KD K w hs ρ D) ρ hl w := by
  refine ⟨H.os, H.tape, H.output, H.size, fun b x hk => ?_, fun o ho => ?_, fun o ho => ?_, fun o o' p p' h1 h2 h3 h4 h5 => ?_⟩
  · by_cases hL : Lies hs ρ D b
    · rw [KD_pos hL] at hk; exact hk
    · rw [KD_neg hL] at hk; exact H.frame b x hk
  · obtain ⟨f1, f2⟩ := H.fresh o (by omega)
    refine ⟨f1, ?_⟩
    by_cases hd : D o
    · rcases (dim o hd).2 with k | ⟨t, len, z, c, k, _⟩
      · exact k
      · rw [f2] at k; cases k
    · rw [off o hd]; exact f2
  · by_cases hd : D o
    · obtain ⟨d1, d2⟩ := dim o hd
      rcases d2 with k | ⟨t, len, z, c, k, k'⟩
      · exact absurd k ho
      · obtain ⟨p, p1, p2⟩ := H.objs o (by rw [k]; intro e; cases e)
        refine ⟨p, p1, ?_⟩
        rw [k] at p2
        rw [k']
        have p2 : CellsR K ρ w p true t len z c := p2
        exact (show CellsR _ _ _ _ _ _ _ _ _ from ⟨p2.lt, p2.cell, fun e => by cases e⟩)
    · rw [off o hd] at ho ⊢
      obtain ⟨p, p1, p2⟩ := H.objs o ho
      refine ⟨p, p1, p2.carry (Ext'.refl _) (Nat.le_refl _) rfl fun hx => ?_⟩
      have hL : ¬ Lies hs ρ D p.b := by
        rintro ⟨o', p', l1, l2, l3, l4⟩
        exact H.excl o o' p p' hx l2 (fun e => hd (e ▸ l1)) p1 l3 l4.symm
      rw [KD_neg hL]
      exact p2.free hx
  · by_cases hd : D o
    · exact absurd h1 (dim o hd).1
    · rw [off o hd] at h1
      refine H.excl o o' p p' h1 ?_ h3 h4 h5
      by_cases hd' : D o'
      · rcases (dim o' hd').2 with k | ⟨t, len, z, c, k, _⟩
        · exact absurd k h2
        · rw [k]; intro e; cases e
      · rw [off o' hd'] at h2; exact h2

/-- and without them again -/
theorem HR.unlock {hs hl h1 h2 : AH} {D : Nat → Prop} {ρ' : Rho} {w' : World} (H : HR w0 K ρ hs w) (hn : hl.next = hs.next)
    (off : ∀ o, ¬ D o → hl.get o = hs.get o) (H' : HR w0 (KD K w hs ρ D) ρ' h1 w') (E : Ext' ρ ρ') (Pr : Pres hl h1)
    (k1 : h2.next = h1.next) (k2 : ∀ o, D o → h2.get o = hs.get o) (k3 : ∀ o, ¬ D o → h2.get o = h1.get o) : HR w0 K ρ' h2 w' := by
  have hnx : hs.next ≤ h1.next := by have := Pr.next; omega
  -- where something lies that was locked
  have there : ∀ o, D o → hs.get o ≠ .dead → ∃ p, ρ o = some p ∧ ρ' o = some p ∧ ObjR K ρ w p (hs.get o) ∧ Lies hs ρ D p.b := fun o hd hx => by
    obtain ⟨p, p1, p2⟩ := H.objs o hx
    exact ⟨p, p1, E o p p1, p2, o, p, hd, hx, p1, rfl⟩
  have kept : ∀ b, Lies hs ρ D b → ∃ x, KD K w hs ρ D b = some x ∧ w.heap[b]? = some x ∧ w'.heap[b]? = some x := fun b hL => by
    obtain ⟨o, p, l1, l2, l3, l4⟩ := hL
    obtain ⟨q, q1, q2⟩ := H.objs o l2
    rw [l3] at q1; cases q1
    have hlt : b < w.heap.size := by rw [← l4]; exact q2.lt l2
    have hk : KD K w hs ρ D b = some w.heap[b] := by rw [KD_pos ⟨o, p, l1, l2, l3, l4⟩]; exact Array.getElem?_eq_getElem hlt
    exact ⟨w.heap[b], hk, Array.getElem?_eq_getElem hlt, H'.frame b _ hk⟩
  have free : ∀ {o : Nat} {p : Pl}, ρ' o = some p → Owns (h1.get o) → ¬ Lies hs ρ D p.b := fun {o p} hp ho hL => by
    obtain ⟨q, q1, q2⟩ := H'.objs o ho.alive
    rw [hp] at q1; cases q1
    have := q2.free ho
    obtain ⟨x, x1, _⟩ := kept p.b hL
    rw [this] at x1; cases x1
  refine ⟨H'.os, H'.tape, H'.output, H'.size, fun b x hk => ?_, fun o ho => ?_, fun o ho => ?_, fun o o' p p' i1 i2 i3 i4 i5 => ?_⟩
  · by_cases hL : Lies hs ρ D b
    · obtain ⟨y, y1, y2, y3⟩ := kept b hL
      have := H.frame b x hk
      rw [this] at y2; cases y2
      exact y3
    · exact H'.frame b x (by rw [KD_neg hL]; exact hk)
  · obtain ⟨f1, f2⟩ := H'.fresh o (by omega)
    refine ⟨f1, ?_⟩
    by_cases hd : D o
    · rw [k2 o hd]; exact (H.fresh o (by omega)).2
    · rw [k3 o hd]; exact f2
  · by_cases hd : D o
    · rw [k2 o hd] at ho ⊢
      obtain ⟨p, p1, p2, p3, p4⟩ := there o hd ho
      obtain ⟨x, x1, x2, x3⟩ := kept p.b p4
      have hsz : w.heap.size ≤ w'.heap.size ∨ True := .inr trivial
      refine ⟨p, p2, ?_⟩
      -- sizes are not compared: what is asked is that the block lies in the new memory
      cases hx : hs.get o with
      | dead => exact absurd hx ho
      | cells rw' t len z c =>
        rw [hx] at p3
        have p3 : CellsR K ρ w p rw' t len z c := p3
        have hb : w'.heap[p.b]? = w.heap[p.b]? := by rw [x2, x3]
        refine (show CellsR _ _ _ _ _ _ _ _ _ from ⟨(Array.getElem?_eq_some_iff.1 x3).1, fun i hi => ?_, fun hrw => ?_⟩)
        · obtain ⟨a, v, c1, c2, c3⟩ := p3.cell i hi
          exact ⟨a, v, c1, conc_mono E _ _ c2, by rw [← c3]; exact World.cell?_of_block (w := w) hb⟩
        · obtain ⟨g1, g0, g2, arr, g3, g4⟩ := p3.own hrw
          exact ⟨g1, g0, g2, arr, by rw [hb]; exact g3, g4⟩
      | map es =>
        rw [hx] at p3
        have p3 : MapR K ρ w p es := p3
        obtain ⟨arr, clk, g1, g2⟩ := p3.here
        exact (show MapR _ _ _ _ _ from ⟨(Array.getElem?_eq_some_iff.1 x3).1, p3.free, arr, clk, by rw [x3, ← x2]; exact g1, g2.mono E⟩)
    · rw [k3 o hd] at ho ⊢
      obtain ⟨p, p1, p2⟩ := H'.objs o ho
      refine ⟨p, p1, p2.carry (Ext'.refl _) (Nat.le_refl _) rfl fun hx => ?_⟩
      have := p2.free hx
      rw [KD_neg (free p1 hx)] at this
      exact this
  · have alive1 : ∀ {o : Nat}, ¬ D o → h1.get o ≠ .dead → ¬ Owns (h1.get o) → hs.get o ≠ .dead := fun {o} hd ha hno => by
      rcases Pr.from' o hno with e | e
      · rw [e] at ha; rw [off o hd] at ha; exact ha
      · exact absurd e ha
    by_cases hd : D o
    · rw [k2 o hd] at i1
      obtain ⟨q, q1, q2, q3, q4⟩ := there o hd i1.alive
      rw [i4] at q2; cases q2
      by_cases hd' : D o'
      · rw [k2 o' hd'] at i2
        obtain ⟨q', r1, r2, r3, r4⟩ := there o' hd' i2
        rw [i5] at r2; cases r2
        exact H.excl o o' p p' i1 i2 i3 q1 r1
      · rw [k3 o' hd'] at i2
        by_cases ho' : Owns (h1.get o')
        · exact fun e => free i5 ho' (e ▸ q4)
        · have ha := alive1 hd' i2 ho'
          obtain ⟨q', r1, r2⟩ := H.objs o' ha
          have := E o' q' r1
          rw [i5] at this; cases this
          exact H.excl o o' p p' i1 ha i3 q1 r1
    · rw [k3 o hd] at i1
      by_cases hd' : D o'
      · rw [k2 o' hd'] at i2
        obtain ⟨q', r1, r2, r3, r4⟩ := there o' hd' i2
        rw [i5] at r2; cases r2
        exact fun e => free i4 i1 (e ▸ r4)
      · rw [k3 o' hd'] at i2
        exact H'.excl o o' p p' i1 i2 i3 i4 i5

/-- a new block, at a name that was kept for it -/
theorem HR.born (H : HR w0 K ρ h w) (x : AObj) (o : Nat) (ob : Obj) (p : Pl) (hp : p.b = w.heap.size) (ho : o < h.next) (hρ : ρ o = none)
    (hx : ObjR K (upd ρ o p) (w.alloc ob) p x) : HR w0 K (upd ρ o p) (h.put o x) (w.alloc ob) := by
  have he : Ext' ρ (upd ρ o p) := upd_ext hρ
  have hsz : (w.alloc ob).heap.size = w.heap.size + 1 := by simp
  refine ⟨H.os, H.tape, H.output, by rw [hsz]; have := H.size; omega, fun b y hk => ?_, fun o' ho' => ?_, fun o' ho' => ?_, fun a b pa pb ha hb hab h1 h2 => ?_⟩
  · rw [RowKit.Below.heap_alloc _ _ _ (lt_of_frame H hk)]; exact H.frame b y hk
  · rw [AH.next_put] at ho'
    have hne : o' ≠ o := by omega
    rw [upd_ne _ _ _ hne, AH.get_put, if_neg hne]
    exact H.fresh o' ho'
  · by_cases e : o' = o
    · subst e
      exact ⟨p, upd_same _ _ _, by rw [AH.get_put, if_pos rfl]; exact hx⟩
    · rw [AH.get_put, if_neg e] at ho' ⊢
      obtain ⟨q, h1, h2⟩ := H.objs o' ho'
      exact ⟨q, by rw [upd_ne _ _ _ e]; exact h1, h2.carry he (by rw [hsz]; omega) (RowKit.Below.heap_alloc _ _ _ (h2.lt ho')) (fun hx => h2.free hx)⟩
  · have old : ∀ o' q, h.get o' ≠ .dead → ρ o' = some q → q.b < w.heap.size := fun o' q hd hq => by
      obtain ⟨q', h1, h2⟩ := H.objs o' hd
      rw [hq] at h1; cases h1; exact h2.lt hd
    by_cases ea : a = o
    · subst ea
      have hb' : b ≠ a := fun e => hab e.symm
      rw [AH.get_put, if_neg hb'] at hb
      rw [upd_same] at h1; cases h1
      rw [upd_ne _ _ _ hb'] at h2
      have := old b pb hb h2
      omega
    · rw [AH.get_put, if_neg ea] at ha
      rw [upd_ne _ _ _ ea] at h1
      by_cases eb : b = o
      · subst eb
        rw [upd_same] at h2; cases h2
        have := old a pa ha.alive h1
        omega
      · rw [AH.get_put, if_neg eb] at hb
        rw [upd_ne _ _ _ eb] at h2
        exact H.excl a b pa pb ha hb hab h1 h2
end
end Go.Sh
end
section
namespace Go.Sh
open Go

theorem binds_eq (e : Edge) : Region.binds .any e = bindsE e := by
  obtain ⟨on, g⟩ := e
  cases g <;> rfl
theorem bitN_some {o : Option Nat} {b : Nat} (h : (bitN o).testBit b = true) : ∃ x, o = some x ∧ x.testBit b = true := by
  cases o with
  | none => simp [bitN] at h
  | some x => exact ⟨x, rfl, h⟩
theorem predM_cons (acc : List Nat) (e : Edge) (l : List Edge) : predM acc (e :: l) = ifB (bindsE e) (Nat.lor (predM acc l) (Nat.lor (Nat.pow 2 e.on) (bitN (nth acc e.on)))) (predM acc l) := rfl
theorem bit_lor (x y b : Nat) : (Nat.lor x y).testBit b = (x.testBit b || y.testBit b) := Nat.testBit_or x y b
theorem bit_pow (n b : Nat) : (Nat.pow 2 n).testBit b = decide (n = b) := Nat.testBit_two_pow
theorem predM_bit {acc : List Nat} {b : Nat} : ∀ {l : List Edge}, (predM acc l).testBit b = true → ∃ e ∈ l, bindsE e = true ∧ (b = e.on ∨ ∃ x, nth acc e.on = some x ∧ x.testBit b = true)
  | [], h => by simp [predM] at h
  | e :: l, h => by
    rw [predM_cons] at h
    cases hb : bindsE e with
    | false =>
      rw [ifB_false hb] at h
      obtain ⟨e', h1, h2⟩ := predM_bit h
      exact ⟨e', List.mem_cons_of_mem _ h1, h2⟩
    | true =>
      rw [ifB_true hb, bit_lor, bit_lor, bit_pow] at h
      simp only [Bool.or_eq_true, decide_eq_true_eq] at h
      rcases h with h | h | h
      · obtain ⟨e', h1, h2⟩ := predM_bit h
        exact ⟨e', List.mem_cons_of_mem _ h1, h2⟩
      · exact ⟨e, List.mem_cons_self .., hb, .inl h.symm⟩
      · exact ⟨e, List.mem_cons_self .., hb, .inr (bitN_some h)⟩
theorem predM_on {acc : List Nat} : ∀ {l : List Edge} {e : Edge}, e ∈ l → bindsE e = true → (predM acc l).testBit e.on = true
  | e' :: l, e, h, hb => by
    rw [predM_cons]
    rcases List.mem_cons.1 h with rfl | h
    · rw [ifB_true hb, bit_lor, bit_lor, bit_pow]
      simp
    · have := predM_on (acc := acc) h hb
      cases hb' : bindsE e' with
      | false => exact this
      | true => show (Nat.lor (predM acc l) _).testBit e.on = true; rw [bit_lor, this]; rfl

/-- what the marks of operations say -/
structure MarkR (all : List DOp) (d : DOp) : Prop where
  one : ∀ e ∈ d.o.after, bindsE e = true → d.m.testBit e.on = true
  bit : ∀ b, d.m.testBit b = true → ∃ e ∈ d.o.after, bindsE e = true ∧ (b = e.on ∨ ∃ d' ∈ all, d'.i = e.on ∧ d'.i < d.i ∧ d'.m.testBit b = true)
theorem marks_cons (o : Oper) (l : List Oper) (i : Nat) (acc : List Nat) : marks (o :: l) i acc = ⟨i, o, predM acc o.after.toList, false⟩ :: marks l (i + 1) (acc ++ [predM acc o.after.toList]) := rfl
theorem marks_ok : ∀ (l : List Oper) (i : Nat) (acc : List Nat) (prev : List DOp), acc = prev.map (·.m) → prev.length = i → (∀ (k : Nat) (d : DOp), prev[k]? = some d → d.i = k) →
    ∀ d ∈ marks l i acc, i ≤ d.i ∧ l[d.i - i]? = some d.o ∧ MarkR (prev ++ marks l i acc) d
  | [], i, acc, prev, h1, h2, h3, d, hd => by cases hd
  | o :: l, i, acc, prev, h1, h2, h3, d, hd => by
    rw [marks_cons] at hd ⊢
    rcases List.mem_cons.1 hd with rfl | hd
    · refine ⟨Nat.le_refl _, by simp, fun e he hb => predM_on (by simpa using he) hb, fun b hb => ?_⟩
      obtain ⟨e, e1, e2, e3⟩ := predM_bit hb
      refine ⟨e, by simpa using e1, e2, e3.imp id ?_⟩
      rintro ⟨x, x1, x2⟩
      rw [nth_eq, h1, List.getElem?_map] at x1
      cases hp : prev[e.on]? with
      | none => rw [hp] at x1; cases x1
      | some d' =>
        rw [hp] at x1
        cases x1
        have hi := h3 _ _ hp
        have hlt := (List.getElem?_eq_some_iff.1 hp).1
        exact ⟨d', List.mem_append_left _ (List.mem_of_getElem? hp), hi, by show d'.i < i; omega, x2⟩
    · obtain ⟨g1, g2, g3⟩ := marks_ok l (i + 1) _ (prev ++ [⟨i, o, predM acc o.after.toList, false⟩]) (by rw [h1]; simp) (by simp [h2]) (fun k d' hk => by
        rcases Nat.lt_or_ge k prev.length with hlt | hge
        · rw [List.getElem?_append_left hlt] at hk; exact h3 k d' hk
        · rw [List.getElem?_append_right hge] at hk
          have : k - prev.length = 0 := by
            rcases Nat.eq_zero_or_pos (k - prev.length) with h | h
            · exact h
            · rw [List.getElem?_eq_none (by simp; omega)] at hk; cases hk
          rw [this] at hk
          simp at hk
          subst hk
          show i = k
          omega) d hd
      refine ⟨by omega, ?_, ?_⟩
      · rw [show d.i - i = (d.i - (i + 1)) + 1 by omega]
        simpa using g2
      · rw [List.append_assoc] at g3
        exact g3

theorem allD_mem {ops : Array Oper} {d : DOp} (h : d ∈ allD ops) : ∃ d0 ∈ marks ops.toList 0 [], d = flag ops (marks ops.toList 0 []) d0 := by
  obtain ⟨d0, h1, h2⟩ := List.mem_map.1 h
  exact ⟨d0, h1, h2.symm⟩
theorem allD_early {ops : Array Oper} {d : DOp} (h : d ∈ allD ops) (he : d.e = true) : isEarly d.o.op = true := by
  obtain ⟨d0, h1, rfl⟩ := allD_mem h
  have he : (isEarly d0.o.op && alone ops (marks ops.toList 0 []) d0) = true := he
  simp only [Bool.and_eq_true] at he
  exact he.1
theorem allD_ok {ops : Array Oper} {d : DOp} (h : d ∈ allD ops) : ops[d.i]? = some d.o ∧ MarkR (allD ops) d := by
  obtain ⟨d0, h1, rfl⟩ := allD_mem h
  obtain ⟨_, h2, h3⟩ := marks_ok ops.toList 0 [] [] rfl rfl (fun k d h => by simp at h) d0 h1
  rw [List.nil_append] at h3
  refine ⟨show ops[d0.i]? = some d0.o by simpa using h2, h3.one, fun b hb => ?_⟩
  obtain ⟨e, e1, e2, e3⟩ := h3.bit b hb
  refine ⟨e, e1, e2, e3.imp id fun ⟨d', q1, q2, q3, q4⟩ => ⟨_, List.mem_map.2 ⟨d', q1, rfl⟩, q2, q3, q4⟩⟩
theorem marks_inj : ∀ (l : List Oper) (i : Nat) (acc : List Nat) (d d' : DOp), d ∈ marks l i acc → d' ∈ marks l i acc → d.i = d'.i → d = d'
  | [], _, _, d, _, h, _, _ => by cases h
  | o :: l, i, acc, d, d', h, h', e => by
    have ge : ∀ (l : List Oper) (i : Nat) (acc : List Nat) (d : DOp), d ∈ marks l i acc → i ≤ d.i := by
      intro l
      induction l with
      | nil => intro i acc d h; cases h
      | cons o l ih =>
        intro i acc d h
        rw [marks_cons] at h
        rcases List.mem_cons.1 h with rfl | h
        · exact Nat.le_refl _
        · have := ih _ _ _ h; omega
    rw [marks_cons] at h h'
    rcases List.mem_cons.1 h with rfl | h
    · rcases List.mem_cons.1 h' with rfl | h'
      · rfl
      · have := ge _ _ _ _ h'
        have e : i = d'.i := e
        omega
    · rcases List.mem_cons.1 h' with rfl | h'
      · have := ge _ _ _ _ h
        have e : d.i = i := e
        omega
      · exact marks_inj l _ _ d d' h h' e

theorem allD_inj {ops : Array Oper} {d d' : DOp} (h : d ∈ allD ops) (h' : d' ∈ allD ops) (e : d.i = d'.i) : d = d' := by
  obtain ⟨a, a1, rfl⟩ := allD_mem h
  obtain ⟨b, b1, rfl⟩ := allD_mem h'
  rw [marks_inj _ _ _ a b a1 b1 e]

/-- what is closed under what must stand ahead holds all marks -/
theorem bits_closed {ops : Array Oper} {L : Nat → Prop} (hL : ∀ d ∈ allD ops, L d.i → ∀ e ∈ d.o.after, bindsE e = true → L e.on) :
    ∀ (n : Nat) (d : DOp), d.i < n → d ∈ allD ops → (∀ e ∈ d.o.after, bindsE e = true → L e.on) → ∀ b, d.m.testBit b = true → L b := by
  intro n
  induction n with
  | zero => intro d h; omega
  | succ n ih =>
    intro d hn hd hall b hb
    obtain ⟨e, e1, e2, e3⟩ := (allD_ok hd).2.bit b hb
    have he := hall e e1 e2
    rcases e3 with rfl | ⟨d', d1, d2, d3, d4⟩
    · exact he
    · exact ih d' (by omega) d1 (hL d' d1 (d2 ▸ he)) b d4

/-! ### the chosen order -/
theorem takeD_mem {rd : Bool} {done : Nat} : ∀ {l : List DOp} {r : DOp × List DOp}, takeD rd done l = some r → r.1 ∈ l ∧ ∀ x ∈ r.2, x ∈ l
  | [], r, h => by cases h
  | d :: l, r, h => by
    have h : ifB (ready d done && (d.e || !rd)) (some (d, l)) (match takeD rd done l with | some r => some (r.1, d :: r.2) | none => none) = some r := h
    cases hb : (ready d done && (d.e || !rd)) with
    | true =>
      rw [ifB_true hb] at h
      cases h
      exact ⟨List.mem_cons_self .., fun x hx => List.mem_cons_of_mem _ hx⟩
    | false =>
      rw [ifB_false hb] at h
      cases ht : takeD rd done l with
      | none => rw [ht] at h; cases h
      | some q =>
        rw [ht] at h
        cases h
        obtain ⟨i1, i2⟩ := takeD_mem ht
        refine ⟨List.mem_cons_of_mem _ i1, fun x hx => ?_⟩
        rcases List.mem_cons.1 hx with rfl | hx
        · exact List.mem_cons_self ..
        · exact List.mem_cons_of_mem _ (i2 x hx)
theorem takeE_mem {done : Nat} {l : List DOp} {r : DOp × List DOp} (h : takeE done l = some r) : r.1 ∈ l ∧ ∀ x ∈ r.2, x ∈ l := by
  unfold takeE at h
  split at h
  · rename_i q hq; cases h; exact takeD_mem hq
  · exact takeD_mem h
theorem eager_mem : ∀ (n done : Nat) (l : List DOp) (d : DOp), d ∈ eager n done l → d ∈ l
  | 0, _, _, d, h => by cases h
  | n + 1, done, l, d, h => by
    have h : d ∈ (match takeE done l with | some r => r.1 :: eager n (Nat.lor done (Nat.pow 2 r.1.i)) r.2 | none => []) := h
    cases ht : takeE done l with
    | none => rw [ht] at h; cases h
    | some r =>
      rw [ht] at h
      obtain ⟨i1, i2⟩ := takeE_mem ht
      rcases List.mem_cons.1 h with rfl | h
      · exact i1
      · exact i2 _ (eager_mem n _ _ d h)
theorem canon_mem {ops : Array Oper} {d : DOp} (h : d ∈ canon ops) : d ∈ allD ops := eager_mem _ _ _ d h

/-! ### what is asked of an open region -/
noncomputable def okCanon : Nat → List DOp → Bool
  | _, [] => true
  | done, d :: rest => ready d done && (!Nat.testBit done d.i && ((d.e || rest.all (fun d' => !ready d' done)) && okCanon (Nat.lor done (Nat.pow 2 d.i)) rest))
noncomputable def okPair (ops : Array Oper) (d d' : DOp) : Bool :=
  match d'.o.dst with
  | none => true
  | some t => ((Nat.testBit d.m d'.i || !usesT ops d t) || (!d'.e && (Nat.beq d.i d'.i || Nat.testBit d'.m d.i))) && (Nat.beq d.i d'.i || (match d.o.dst with | some u => !Nat.beq u t | none => true))
noncomputable def okReg (ops : Array Oper) : Bool :=
  let c := canon ops
  okCanon 0 c && ((c.all fun d => c.all fun d' => okPair ops d d') && (List.range ops.size).all fun i => c.any fun d => Nat.beq d.i i)

structure RegR (ops : Array Oper) : Prop where
  chain : okCanon 0 (canon ops) = true
  pair : ∀ d ∈ canon ops, ∀ d' ∈ canon ops, okPair ops d d' = true
  cover : ∀ i, i < ops.size → ∃ d ∈ canon ops, d.i = i
theorem okReg_ok {ops : Array Oper} (h : okReg ops = true) : RegR ops := by
  unfold okReg at h
  simp only [Bool.and_eq_true, List.all_eq_true, List.any_eq_true, List.mem_range] at h
  obtain ⟨h1, h2, h3⟩ := h
  exact ⟨h1, fun d hd d' hd' => h2 d hd d' hd', fun i hi => by
    obtain ⟨d, d1, d2⟩ := h3 i hi
    exact ⟨d, d1, Nat.eq_of_beq_eq_true d2⟩⟩
theorem okCanon_cons {done : Nat} {d : DOp} {rest : List DOp} (h : okCanon done (d :: rest) = true) :
    ready d done = true ∧ done.testBit d.i = false ∧ (d.e = true ∨ ∀ d' ∈ rest, ready d' done = false) ∧ okCanon (Nat.lor done (Nat.pow 2 d.i)) rest = true := by
  have h : (ready d done && (!Nat.testBit done d.i && ((d.e || rest.all (fun d' => !ready d' done)) && okCanon (Nat.lor done (Nat.pow 2 d.i)) rest))) = true := h
  simp only [Bool.and_eq_true, Bool.or_eq_true, Bool.not_eq_true', List.all_eq_true] at h
  exact ⟨h.1, h.2.1, h.2.2.1, h.2.2.2⟩
theorem ready_iff {d : DOp} {done : Nat} : ready d done = true ↔ ∀ b, d.m.testBit b = true → done.testBit b = true := by
  unfold ready
  rw [show (Nat.beq (Nat.land d.m done) d.m = true) = (Nat.land d.m done = d.m) from propext ⟨Nat.eq_of_beq_eq_true, fun e => by rw [e]; simp⟩]
  constructor
  · intro h b hb
    have : (Nat.land d.m done).testBit b = true := by rw [h]; exact hb
    rw [show Nat.land d.m done = d.m &&& done from rfl, Nat.testBit_and] at this
    simp only [Bool.and_eq_true] at this
    exact this.2
  · intro h
    apply Nat.eq_of_testBit_eq
    intro b
    rw [show Nat.land d.m done = d.m &&& done from rfl, Nat.testBit_and]
    cases hb : d.m.testBit b with
    | false => rfl
    | true => simp [h b hb]
theorem okPair_use {ops : Array Oper} {d d' : DOp} (h : okPair ops d d' = true) {t : Nat} (ht : d'.o.dst = some t) (hu : usesT ops d t = true) : d.m.testBit d'.i = true ∨ (d'.e = false ∧ (d.i = d'.i ∨ d'.m.testBit d.i = true)) := by
  unfold okPair at h
  rw [ht] at h
  simp only [Bool.and_eq_true, Bool.or_eq_true, hu, Bool.not_true, Bool.false_eq_true, or_false, Bool.not_eq_true'] at h
  exact h.1.imp id fun ⟨h1, h2⟩ => ⟨h1, h2.imp Nat.eq_of_beq_eq_true id⟩
theorem okPair_dst {ops : Array Oper} {d d' : DOp} (h : okPair ops d d' = true) {t : Nat} (ht : d'.o.dst = some t) (hd : d.o.dst = some t) : d.i = d'.i := by
  unfold okPair at h
  rw [ht, hd] at h
  simp only [Bool.and_eq_true, Bool.or_eq_true] at h
  rcases h.2 with h | h
  · exact Nat.eq_of_beq_eq_true h
  · simp at h
end Go.Sh
end
section
namespace Go.Sh
open Go

/-! ### what an operation comes to, calls and all -/
/-- the end of a body -/
def EndsIn (r : R) (env : Env) (h : AH) : Prop := r = .norm env h ∨ r = .ret env h
inductive Comes (cx : Cx) (ih : Ev) : Out → AH → AV → AH → Prop
  | val (v : AV) (h h1 : AH) : Comes cx ih (.val v h1) h v h1
  | call {f : FuncId} {l : List AV} {fn : AF} {h h1 : AH} {env' : Env} {v : AV} (hf : cx.fn.get f = some fn) (he : EndsIn (ih (.code fn.body) (mkEnv l 0 .leaf) h) env' h1) (hr : resA cx env' h1 fn.res = some v) : Comes cx ih (.call f l) h v h1
  | ext {f : FuncId} {l : List AV} {e : Ext} {h : AH} {v : AV} (hf : cx.fn.get f = none) (hx : cx.ext.get f = some e) (hv : extA e l = some v) : Comes cx ih (.call f l) h v h

def R.bad (r : R) : Prop := ∃ s, r = .fail s

theorem stepOut_inv {cx : Cx} {ih : Ev} {all : Array Oper} {rest : List Oper} {dst : Option Nat} {pos : String} {env : Env} {h : AH} {x : Out}
    (hr : ¬ (stepOut cx ih all rest dst pos env h x).bad) : ∃ v h1, Comes cx ih x h v h1 ∧ stepOut cx ih all rest dst pos env h x = ih (.ops all rest) (put env dst v) h1 := by
  cases x with
  | fail => exact absurd ⟨_, rfl⟩ hr
  | val v h1 => exact ⟨v, h1, .val v h h1, rfl⟩
  | call f args =>
    have e0 : stepOut cx ih all rest dst pos env h (.call f args) = stepCall cx ih all rest dst f args env h := rfl
    rw [e0] at hr ⊢
    unfold stepCall at hr ⊢
    cases hf : cx.fn.get f with
    | some fn =>
      simp only [hf] at hr ⊢
      have fin : ∀ env' h', EndsIn (ih (.code fn.body) (mkEnv args 0 .leaf) h) env' h' → ¬ (backA ih all rest dst env h' (resA cx env' h' fn.res)).bad →
          ∃ v h1, Comes cx ih (.call f args) h v h1 ∧ backA ih all rest dst env h' (resA cx env' h' fn.res) = ih (.ops all rest) (put env dst v) h1 := by
        intro env' h' he hb
        cases hv : resA cx env' h' fn.res with
        | none => rw [hv] at hb; exact absurd ⟨_, rfl⟩ hb
        | some v => exact ⟨v, h', .call hf he hv, rfl⟩
      cases hb : ih (.code fn.body) (mkEnv args 0 .leaf) h with
      | fail s => rw [hb] at hr; exact absurd ⟨_, rfl⟩ hr
      | norm env' h' => rw [hb] at hr; exact fin env' h' (.inl hb) hr
      | ret env' h' => rw [hb] at hr; exact fin env' h' (.inr hb) hr
      | exit id env' h' => rw [hb] at hr; exact absurd ⟨_, rfl⟩ hr
    | none =>
      simp only [hf] at hr ⊢
      cases hx : cx.ext.get f with
      | none => simp only [hx] at hr; exact absurd ⟨_, rfl⟩ hr
      | some e =>
        simp only [hx] at hr ⊢
        cases hv : extA e args with
        | none => rw [hv] at hr; exact absurd ⟨_, rfl⟩ hr
        | some v => exact ⟨v, h, .ext hf hx hv, rfl⟩

theorem outD_inv {cx : Cx} {ih : Ev} {all : Array Oper} {rest : List DOp} {log : List Lg} {dst : Option Nat} {sv : List (Nat × AObj)} {pos : String} {env : Env} {h : AH} {x : Out}
    (hr : ¬ (outD cx ih all rest log dst sv pos env x h).bad) : ∃ v h1, Comes cx ih x h v h1 ∧ outD cx ih all rest log dst sv pos env x h = ih (.dops all rest log) (put env dst v) (unlockL sv h1) := by
  cases x with
  | fail => exact absurd ⟨_, rfl⟩ hr
  | val v h1 => exact ⟨v, h1, .val v h h1, rfl⟩
  | call f args =>
    have e0 : outD cx ih all rest log dst sv pos env (.call f args) h = callD cx ih all rest log dst sv f args env h := rfl
    rw [e0] at hr ⊢
    unfold callD at hr ⊢
    cases hf : cx.fn.get f with
    | some fn =>
      simp only [hf] at hr ⊢
      have fin : ∀ env' h', EndsIn (ih (.code fn.body) (mkEnv args 0 .leaf) h) env' h' → ¬ (backD ih all rest log dst sv env h' (resA cx env' h' fn.res)).bad →
          ∃ v h1, Comes cx ih (.call f args) h v h1 ∧ backD ih all rest log dst sv env h' (resA cx env' h' fn.res) = ih (.dops all rest log) (put env dst v) (unlockL sv h1) := by
        intro env' h' he hb
        cases hv : resA cx env' h' fn.res with
        | none => rw [hv] at hb; exact absurd ⟨_, rfl⟩ hb
        | some v => exact ⟨v, h', .call hf he hv, rfl⟩
      cases hb : ih (.code fn.body) (mkEnv args 0 .leaf) h with
      | fail s => rw [hb] at hr; exact absurd ⟨_, rfl⟩ hr
      | norm env' h' => rw [hb] at hr; exact fin env' h' (.inl hb) hr
      | ret env' h' => rw [hb] at hr; exact fin env' h' (.inr hb) hr
      | exit id env' h' => rw [hb] at hr; exact absurd ⟨_, rfl⟩ hr
    | none =>
      simp only [hf] at hr ⊢
      cases hx : cx.ext.get f with
      | none => simp only [hx] at hr; exact absurd ⟨_, rfl⟩ hr
      | some e =>
        simp only [hx] at hr ⊢
        cases hv : extA e args with
        | none => rw [hv] at hr; exact absurd ⟨_, rfl⟩ hr
        | some v => exact ⟨v, h, .ext hf hx hv, rfl⟩

/-! ### what a reading leaves alone -/
def PresR (h : AH) (r : R) : Prop := ∀ env' h' id, (r = .norm env' h' ∨ r = .ret env' h' ∨ r = .exit id env' h') → Pres h h'
theorem PresR.fail {h : AH} {s : String} : PresR h (.fail s) := fun _ _ _ e => by rcases e with e | e | e <;> cases e
theorem PresR.of {h h1 : AH} {r : R} (p : Pres h h1) (k : PresR h1 r) : PresR h r := fun env' h' id e => p.trans (k env' h' id e)
theorem PresR.norm {h : AH} {env : Env} : PresR h (.norm env h) := fun _ _ _ e => by rcases e with e | e | e <;> cases e; exact Pres.refl _
theorem PresR.ret {h : AH} {env : Env} : PresR h (.ret env h) := fun _ _ _ e => by rcases e with e | e | e <;> cases e; exact Pres.refl _
theorem PresR.exit {h : AH} {env : Env} {id : Nat} : PresR h (.exit id env h) := fun _ _ _ e => by rcases e with e | e | e <;> cases e; exact Pres.refl _
theorem Comes.pres {cx : Cx} {ih : Ev} (H : ∀ c env h, PresR h (ih c env h)) {out : Out} {h h1 : AH} {v : AV} (hp : ∀ v' h', out = .val v' h' → Pres h h') (hc : Comes cx ih out h v h1) : Pres h h1 := by
  cases hc with
  | val => exact hp _ _ rfl
  | call hf he hr =>
    rcases he with he | he
    · exact H _ _ _ _ _ 0 (.inl he)
    · exact H _ _ _ _ _ 0 (.inr (.inl he))
  | ext => exact Pres.refl _

theorem lock_pres {h hl h1 : AH} {m : Nat} {log : List Lg} {sv : List (Nat × AObj)} (e : lockL m log h [] = (hl, sv)) (p : Pres hl h1) : Pres h (unlockL sv h1) := by
  obtain ⟨D, h2, _, h3⟩ := lockL_ok m h log h [] _ (LockR.nil h)
  rw [e] at h2
  obtain ⟨b1, b2, b3⟩ := h2.back h1
  refine ⟨by rw [b1, ← h2.next]; exact p.next, fun o ho hn => ?_, fun o hn => ?_⟩
  · by_cases hd : D o
    · exact b2 o hd
    · have hoff : hl.get o = h.get o := h2.off o hd
      rw [b3 o hd, p.keep o (by rw [show hl.next = h.next from h2.next]; exact ho) (by rw [hoff]; exact hn), hoff]
  · by_cases hd : D o
    · exact .inl (b2 o hd)
    · have hoff : hl.get o = h.get o := h2.off o hd
      rw [b3 o hd] at hn ⊢
      rw [← hoff]
      exact p.from' o hn

theorem bad_of {r : R} (h : ¬ r.bad) (s : String) : r ≠ .fail s := fun e => h ⟨s, e⟩
theorem PresR.good {h : AH} {r : R} (k : ¬ r.bad → PresR h r) : PresR h r := by
  cases r with
  | fail s => exact .fail
  | _ => exact k (fun ⟨s, e⟩ => by cases e)

theorem ev_succ (cx : Cx) (n : Nat) (c : Cmd) (env : Env) (h : AH) : ev cx (n + 1) c env h = stepEv cx (ev cx n) c env h := rfl
theorem ev_pres (cx : Cx) : ∀ (n : Nat) (c : Cmd) (env : Env) (h : AH), PresR h (ev cx n c env h)
  | 0, c, env, h => .fail
  | n + 1, c, env, h => by
    have IH := ev_pres cx n
    rw [ev_succ]
    generalize ev cx n = ih at IH
    cases c with
    | code c =>
      show PresR h (stepC c ih env h)
      have th : ∀ (c' : Cmd) (r : R), PresR h r → PresR h (thenC ih c' r) := fun c' r hr => by
        cases r with
        | fail s => exact .fail
        | norm env' h' => exact .of (hr env' h' 0 (.inl rfl)) (IH _ _ _)
        | ret env' h' => exact hr
        | exit id env' h' => exact hr
      cases c with
      | skip => exact .norm
      | region id ops draw =>
        cases draw
        · exact IH _ _ _
        · exact IH _ _ _
      | seq a b => exact th _ _ (IH _ _ _)
      | cond c t e =>
        show PresR h (stepCond ih (opnd env c) t e env h)
        cases opnd env c with
        | bool b => cases b <;> exact IH _ _ _
        | _ => exact .fail
      | block id b =>
        have := IH (.code b) env h
        show PresR h (unBlock id (ih (.code b) env h))
        cases hb : ih (.code b) env h with
        | fail s => exact .fail
        | norm env' h' => rw [hb] at this; exact this
        | ret env' h' => rw [hb] at this; exact this
        | exit id' env' h' =>
          rw [hb] at this
          have p := this env' h' id' (.inr (.inr rfl))
          show PresR h (ifB (Nat.beq id id') (.norm env' h') (.exit id' env' h'))
          cases Nat.beq id id'
          · exact .of p .exit
          · exact .of p .norm
      | loop b => exact th _ _ (IH _ _ _)
      | exit id => exact .exit
      | scope b => exact IH _ _ _
      | label l => exact .norm
      | ret => exact .ret
      | rangeFunc f ps x y => exact .fail
      | goto l => exact .fail
      | refuse w => exact .fail
    | ops all l =>
      cases l with
      | nil => exact .norm
      | cons o rest =>
        show PresR h (ifB (wantedA all env o.guard) (stepOut cx ih all rest o.dst o.pos env h (execO o.op cx env h)) (ih (.ops all rest) (put env o.dst (.tup [])) h))
        cases wantedA all env o.guard with
        | false => exact IH _ _ _
        | true =>
          refine PresR.good fun hb => ?_
          have hb : ¬ (stepOut cx ih all rest o.dst o.pos env h (execO o.op cx env h)).bad := hb
          obtain ⟨v, h1, c1, c2⟩ := stepOut_inv hb
          show PresR h (stepOut cx ih all rest o.dst o.pos env h (execO o.op cx env h))
          rw [c2]
          exact .of (c1.pres IH fun v' h' e => exec_pres e) (IH _ _ _)
    | dops all l log =>
      cases l with
      | nil => exact .norm
      | cons d rest =>
        show PresR h (stepDO cx ih all rest log d env h)
        unfold stepDO
        cases wantedA all env d.o.guard with
        | false => exact IH _ _ _
        | true =>
          cases d.e with
          | true =>
            refine PresR.good fun hb => ?_
            have hb : ¬ (outD cx ih all rest (logD env h d.i d.o.op log) d.o.dst [] d.o.pos env (execO d.o.op cx env h) h).bad := hb
            obtain ⟨v, h1, c1, c2⟩ := outD_inv hb
            show PresR h (outD cx ih all rest (logD env h d.i d.o.op log) d.o.dst [] d.o.pos env (execO d.o.op cx env h) h)
            rw [c2]
            exact .of (c1.pres IH fun v' h' e => exec_pres e) (IH _ _ _)
          | false =>
            refine PresR.good fun hb => ?_
            have hb : ¬ (effD cx ih all rest log d.o env (lockL d.m log h [])).bad := hb
            show PresR h (effD cx ih all rest log d.o env (lockL d.m log h []))
            cases hl : lockL d.m log h [] with
            | mk hk sv =>
              rw [hl] at hb
              have hb : ¬ (outD cx ih all rest log d.o.dst sv d.o.pos env (execO d.o.op cx env hk) hk).bad := hb
              show PresR h (outD cx ih all rest log d.o.dst sv d.o.pos env (execO d.o.op cx env hk) hk)
              obtain ⟨v, h1, c1, c2⟩ := outD_inv hb
              rw [c2]
              exact .of (lock_pres hl (c1.pres IH fun v' h' e => exec_pres e)) (IH _ _ _)
end Go.Sh
end
section
namespace Go.Sh
open Go
section
variable {P : Program} {cx : Cx} {G : Nat → Bool} {nt : Nat} {ρ : Rho} {env : Env} {a : Act} {w0 : World} {K : Nat → Option Obj} {h h' : AH} {w : World} {v : AV}

theorem run_enter {f : FuncId} {F : Func} {c : Code} (hf : P.funcs[f]? = some F) (hn : (F.name == "runtime.NumGoroutine") = false) (hb : F.body = some c) (args : Array Value) (w : World) :
    (callFunc f args).run P w = .ok (.enter f args) w := by
  have h1 : F.name ≠ "runtime.NumGoroutine" := by simpa using hn
  simp [callFunc, hf, h1, hb]

def DefsOk (cx : Cx) (a : Act) : Prop := ∀ d ∈ a.defers, DefOk cx d
/-- a function that is called when another one ends turns nothing -/
def DfrR (P : Program) (w0 : World) (g : FuncId) : Prop := ∀ (args : Array Value) (w : World), (callFunc g args).run P w = .ok (.enter g args) w ∧
  CallsD P g args .returning w fun e u' w' => (∃ v, e = .returned v) ∧ u' = .returning ∧ ∀ K ρ h, HR w0 K ρ h w → HR w0 K ρ h w'
def ExtR (P : Program) (f : FuncId) : Ext → Prop
  | .same => ∀ (x : Value) (w : World), (callFunc f #[x]).run P w = .ok (.value x) w
  | .indexByte => ∀ (s : ByteArray) (c : Int) (w : World), (callFunc f #[.string s, .int .u8 c]).run P w = .ok (.value (.int .i64 (Lib.indexByte s.data.toList c.toNat.toUInt8))) w

/-! ### what is asked of a text -/
def okD (G : Nat → Bool) (nt : Nat) (o : Oper) : Bool := okO G nt o.op && (match o.dst with | some t => Nat.blt t nt | none => true)
noncomputable def okC (G : Nat → Bool) (nt : Nat) (c : Code) : Bool :=
  @Code.rec (fun _ => Bool) true (fun _ ops draw => ops.toList.all (okD G nt) && (!draw || okReg ops)) (fun _ _ a b => a && b) (fun c _ _ a b => okX G nt c && (a && b)) (fun _ _ a => a) (fun _ a => a)
    (fun _ _ _ _ _ _ => true) (fun _ => true) (fun _ a => a) (fun _ => true) (fun _ => true) true (fun _ => true) c
def okRes (nt : Nat) (r : ResultVar) : Bool := match r with | .tmp t => Nat.blt t nt | .cell a _ => Nat.blt a nt
structure TabR (P : Program) (cx : Cx) (G : Nat → Bool) (w0 : World) : Prop where
  ty : TysR P cx.ty
  eqt : EqsR P cx.eqt
  fn : ∀ f fn, cx.fn.get f = some fn → ∃ F, P.funcs[f]? = some F ∧ F.ntmps = fn.nt ∧ F.results.toList = fn.res ∧ F.body = some fn.body ∧ (F.name == "runtime.NumGoroutine") = false ∧ okC G fn.nt fn.body = true ∧ fn.res.all (okRes fn.nt) = true
  ext : ∀ f e, cx.ext.get f = some e → ExtR P f e
  dfr : ∀ g, cx.dfr.get g = some () → DfrR P w0 g
  mixed : P.follows .mixedOrders = true

def SoundCall (P : Program) (cx : Cx) (G : Nat → Bool) (w0 : World) (n : Nat) : Prop := ∀ (f : FuncId) (fn : AF) (args : List AV) (h : AH) (env' : Env) (h' : AH) (v : AV), cx.fn.get f = some fn →
  EndsIn (ev cx n (.code fn.body) (mkEnv args 0 .leaf) h) env' h' → resA cx env' h' fn.res = some v →
  ∀ (K : Nat → Option Obj) (ρ : Rho) (w : World) (vs : List Value), HR w0 K ρ h w → GlobR G ρ → concL ρ args = some vs →
    Calls P f vs.toArray w fun e w' => ∃ x ρ', e = .returned x ∧ ExtN h.next ρ ρ' ∧ conc ρ' v = some x ∧ HR w0 K ρ' h' w'

theorem concL_one {x : AV} {vs : List Value} (h : concL ρ [x] = some vs) : ∃ y, vs = [y] ∧ conc ρ x = some y := by
  simp only [concL] at h
  cases h1 : conc ρ x with
  | none => simp [h1] at h
  | some y => simp [h1] at h; exact ⟨y, h.symm, rfl⟩
theorem concL_two {x y : AV} {vs : List Value} (h : concL ρ [x, y] = some vs) : ∃ p q, vs = [p, q] ∧ conc ρ x = some p ∧ conc ρ y = some q := by
  simp only [concL] at h
  cases h1 : conc ρ x with
  | none => simp [h1] at h
  | some p =>
    cases h2 : conc ρ y with
    | none => simp [h1, h2] at h
    | some q => simp [h1, h2] at h; exact ⟨p, q, h.symm, rfl, rfl⟩

theorem idxByte_eq (c : UInt8) : ∀ (s : List UInt8) (i : Nat), idxByte s (.ofNat c.toNat) i = if Lib.indexByte s c = -1 then -1 else (i : Int) + Lib.indexByte s c
  | [], i => by simp [idxByte, Lib.indexByte]
  | b :: s, i => by
    show ifB (iEq (.ofNat b.toNat) (.ofNat c.toNat)) (.ofNat i) (idxByte s (.ofNat c.toNat) (i + 1)) = _
    rw [iEq_eq]
    by_cases hb : b = c
    · subst hb; simp [ifB, Lib.indexByte]
    · have h1 : ((Int.ofNat b.toNat) == (Int.ofNat c.toNat)) = false := by
        rw [beq_eq_false_iff_ne]
        intro e
        exact hb (UInt8.toNat_inj.1 (Int.ofNat.inj e))
      have h2 : (b == c) = false := by simpa using hb
      rw [h1]
      show idxByte s _ (i + 1) = _
      rw [idxByte_eq c s (i + 1)]
      have hge := Lib.indexByte_ge s c
      have hc : Lib.indexByte (b :: s) c = if Lib.indexByte s c = -1 then -1 else Lib.indexByte s c + 1 := by
        rw [Lib.indexByte, h2]; simp
      rw [hc]
      by_cases h3 : Lib.indexByte s c = -1
      · simp [h3]
      · rw [if_neg h3, if_neg h3, if_neg (by omega)]
        omega
theorem ext_ok {f : FuncId} {e : Ext} {l : List AV} {vs : List Value} (hx : ExtR P f e) (hv : extA e l = some v) (hl : concL ρ l = some vs) (w : World) :
    ∃ x, conc ρ v = some x ∧ (callFunc f vs.toArray).run P w = .ok (.value x) w := by
  unfold extA at hv
  split at hv
  · rename_i x
    cases hv
    obtain ⟨y, rfl, hy⟩ := concL_one hl
    exact ⟨y, hy, hx y w⟩
  · rename_i s c
    obtain ⟨b1, b2⟩ := ifB_some hv
    have hc : c < 256 := by simpa [Nat.blt_eq] using b1
    rw [mkInt_eq] at b2
    cases b2
    obtain ⟨p, q, rfl, hp, hq⟩ := concL_two hl
    simp only [conc, Option.some.injEq] at hp hq
    subst hp; subst hq
    refine ⟨_, rfl, ?_⟩
    have := hx ⟨s.toArray⟩ (Int.ofNat c) w
    rw [show ([Value.string ⟨s.toArray⟩, Value.int .u8 (Int.ofNat c)] : List Value).toArray = #[.string ⟨s.toArray⟩, .int .u8 (Int.ofNat c)] from rfl, this]
    have h1 : (Int.ofNat c).toNat.toUInt8.toNat = c := by simp [Nat.mod_eq_of_lt hc]
    have h2 := idxByte_eq ((Int.ofNat c).toNat.toUInt8) s 0
    rw [h1] at h2
    rw [h2]
    by_cases h3 : Lib.indexByte s ((Int.ofNat c).toNat.toUInt8) = -1
    · rw [if_pos h3, h3]
    · rw [if_neg h3]; simp
  · cases hv

/-- one operation, calls and all -/
theorem op_wp (F : TabR P cx G w0) {n : Nat} (SC : SoundCall P cx G w0 n) {o : Oper} {K' : Act → World → Prop} {Q : Exit → Act → World → Prop} {out : Out} {hl h1 : AH}
    (hG : GlobR G ρ) (H : HR w0 K ρ hl w) (hop : OpR P cx w0 K ρ hl w out ((execOp a.eval o).run P w)) (hc : Comes cx (ev cx n) out hl v h1)
    (hk : ∀ ρ' x w' a2, a2.tmps = a.tmps → (DefsOk cx a → DefsOk cx a2) → ExtN hl.next ρ ρ' → conc ρ' v = some x → HR w0 K ρ' h1 w' → K' (a2.put o.dst x) w') : o.wp P a w K' Q := by
  unfold Oper.wp
  generalize (execOp a.eval o).run P w = r at hop
  cases hc with
  | val v hl h1 =>
    cases hop with
    | val e c H' => exact hk _ _ _ a rfl id e c H'
    | skip e H' => exact hk _ _ _ a rfl id e (conc_undef _) H'
    | defer hd =>
      refine hk ρ undef w { a with defers := _ :: a.defers } rfl (fun hD d' hm => ?_) (ExtN.refl _ _) (conc_undef _) H
      rcases List.mem_cons.1 hm with rfl | hm
      · exact hd
      · exact hD d' hm
  | call hf he hr =>
    cases hop with
    | call c e =>
      obtain ⟨Fn, f1, f2, f3, f4, f5, f6, f7⟩ := F.fn _ _ hf
      rw [e, run_enter f1 f5 f4]
      show Calls P _ _ w _
      refine (SC _ _ _ _ _ _ _ hf he hr K ρ w _ H hG c).mono fun e w' he' => ?_
      obtain ⟨x, ρ', rfl, g1, g2, g3⟩ := he'
      exact hk ρ' x w' a rfl id g1 g2 g3
  | ext hf hx hv =>
    cases hop with
    | call c e =>
      obtain ⟨x, x1, x2⟩ := ext_ok (F.ext _ _ hx) hv c w
      rw [e, x2]
      exact hk ρ x w a rfl id (ExtN.refl _ _) x1 H
end
end Go.Sh
end
