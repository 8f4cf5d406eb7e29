/-
  The abstract evaluator of closed calls, part 3: sound on every tape. Texts joined by a program.
-/
import Derived.Test.YtjdafbgpckmieaaGreatDoorB2
import Derived.Laws.StructEq
import Derived.KernelRfl
set_option linter.unusedVariables false
set_option linter.unusedSimpArgs false
section
namespace Go.Sh
open Go
section
variable {P : Program} {cx : Cx} {G : Nat → Bool} {nt : Nat} {ρ ρ' ρ0 : Rho} {env env' : Env} {a a2 : Act} {w0 : World} {K : Nat → Option Obj} {h h' : AH} {w w' : World} {v : AV}
  {ops : Array Oper} {listed : Array Bool} {pre rest rest' : List DOp} {done n0 : Nat} {log log' : List Lg} {tg tg' : Nat → Option Nat}

structure EnvS (nt : Nat) (ρ : Rho) (S : Nat → Prop) (env : Env) (a : Act) : Prop where
  size : nt ≤ a.tmps.size
  slot : ∀ t, t < nt → ¬ S t → conc ρ (oTmp t env) = some (a.tmps.getD t undef)
noncomputable def maskE : List Nat → Env → Env
  | [], e => e
  | t :: l, e => (maskE l e).set t (.tup [])
def maskA : List Nat → Act → Act
  | [], a => a
  | t :: l, a => (maskA l a).put (some t) undef
theorem maskE_get (t : Nat) (env : Env) : ∀ l : List Nat, (t ∈ l → oTmp t (maskE l env) = .tup []) ∧ (t ∉ l → oTmp t (maskE l env) = oTmp t env)
  | [] => ⟨fun h => (by cases h), fun _ => rfl⟩
  | u :: l => by
    have ih := maskE_get t env l
    have e : oTmp t (maskE (u :: l) env) = if t = u then .tup [] else oTmp t (maskE l env) := oTmp_set _ _ _ _
    rw [e]
    by_cases h : t = u
    · rw [if_pos h]; exact ⟨fun _ => rfl, fun hn => absurd (by rw [h]; exact List.mem_cons_self ..) hn⟩
    · rw [if_neg h]
      exact ⟨fun hm => ih.1 ((List.mem_cons.1 hm).resolve_left h), fun hn => ih.2 fun hm => hn (List.mem_cons_of_mem _ hm)⟩
theorem maskA_get (t : Nat) (a : Act) : ∀ l : List Nat, (maskA l a).tmps.size = a.tmps.size ∧ (t ∈ l → (maskA l a).tmps.getD t undef = undef) ∧ (t ∉ l → (maskA l a).tmps.getD t undef = a.tmps.getD t undef)
  | [] => ⟨rfl, fun h => (by cases h), fun _ => rfl⟩
  | u :: l => by
    obtain ⟨i1, i2, i3⟩ := maskA_get t a l
    have e : (maskA (u :: l) a).tmps = (maskA l a).tmps.setIfInBounds u undef := rfl
    rw [e]
    refine ⟨by simpa using i1, fun hm => ?_, fun hn => ?_⟩
    · by_cases h : t = u
      · subst h
        by_cases hb : t < (maskA l a).tmps.size <;> simp [hb]
      · have := i2 ((List.mem_cons.1 hm).resolve_left h)
        rw [Array.getD_eq_getD_getElem?, Array.getElem?_setIfInBounds, if_neg (Ne.symm h), ← Array.getD_eq_getD_getElem?]
        exact this
    · have h : t ≠ u := fun h => hn (by rw [h]; exact List.mem_cons_self ..)
      have := i3 fun hm => hn (List.mem_cons_of_mem _ hm)
      rw [← this, Array.getD_eq_getD_getElem?, Array.getElem?_setIfInBounds, if_neg (Ne.symm h), ← Array.getD_eq_getD_getElem?]
theorem EnvS.mask {S : Nat → Prop} (H : EnvS nt ρ S env a) {l : List Nat} (hl : ∀ t, S t → t ∈ l) : EnvR nt ρ (maskE l env) (maskA l a) := by
  refine ⟨by rw [(maskA_get 0 a l).1]; exact H.size, fun t ht => ?_⟩
  by_cases hm : t ∈ l
  · rw [(maskE_get t env l).1 hm, (maskA_get t a l).2.1 hm]; exact conc_undef _
  · rw [(maskE_get t env l).2 hm, (maskA_get t a l).2.2 hm]
    exact H.slot t ht fun hs => hm (hl t hs)
theorem opnd_tmp (env : Env) (t : Nat) : opnd env (.tmp t) = oTmp t env := rfl
theorem mask_opnd {l : List Nat} {x : Operand} (hx : ∀ t, x = .tmp t → t ∉ l) : opnd (maskE l env) x = opnd env x ∧ (maskA l a).eval x = a.eval x := by
  cases x with
  | tmp t => exact ⟨(maskE_get t env l).2 (hx t rfl), (maskA_get t a l).2.2 (hx t rfl)⟩
  | const v => exact ⟨rfl, rfl⟩
  | global g => exact ⟨rfl, rfl⟩
  | func f => exact ⟨rfl, rfl⟩

theorem oTmp_put {d : Option Nat} {v : AV} {t : Nat} (hd : d ≠ some t) : oTmp t (put env d v) = oTmp t env := by
  cases d with
  | none => rfl
  | some u =>
    show oTmp t (env.set u v) = _
    rw [oTmp_set, if_neg fun e => hd (by rw [e])]
theorem oTmp_put_same {v : AV} {t : Nat} : oTmp t (put env (some t) v) = v := by
  show oTmp t (env.set t v) = _
  rw [oTmp_set, if_pos rfl]
theorem opnd_put {d : Option Nat} {v : AV} {x : Operand} (hx : ∀ t, x = .tmp t → d ≠ some t) : opnd (put env d v) x = opnd env x := by
  cases x with
  | tmp t => exact oTmp_put (hx t rfl)
  | _ => rfl
theorem getD_put {d : Option Nat} {x : Value} {t : Nat} (hd : d ≠ some t) : (a.put d x).tmps.getD t undef = a.tmps.getD t undef := by
  cases d with
  | none => rfl
  | some u =>
    have : u ≠ t := fun e => hd (by rw [e])
    simp [Act.put, Array.getElem?_setIfInBounds, this]
theorem getD_put_same {x : Value} {t : Nat} (ht : t < a.tmps.size) : (a.put (some t) x).tmps.getD t undef = x := by
  simp [Act.put, ht]

theorem conc_bool {x : AV} {b : Bool} (h : conc ρ x = some (.bool b)) : x = .bool b := by
  cases x with
  | bool c => simp [conc] at h; rw [h]
  | int k n => simp [conc] at h
  | ptr o i => cases hp : ρ o <;> simp [conc, hp] at h
  | slice o i n c => cases c <;> cases hp : ρ o <;> simp [conc, hp] at h
  | agg l => cases hl : concL ρ l <;> simp [conc, hl] at h
  | tup l => cases hl : concL ρ l <;> simp [conc, hl] at h
  | func f l m => cases hl : concL ρ l <;> cases hm : concL ρ m <;> simp [conc, hl, hm] at h
  | iface t v => cases hl : conc ρ v <;> simp [conc, hl] at h
  | oth y =>
    cases y with
    | map o => cases hp : ρ o <;> simp [conc, hp] at h
    | _ => simp [conc] at h

theorem wantedA_eq (g : Option (Nat × Bool)) (env : Env) : wantedA ops env g = match g with
    | none => true
    | some (j, want) => (match (ops[j]?).bind (·.dst) with | none => false | some u => wantedV want (env.get u)) := by
  cases g with
  | none => rfl
  | some p =>
    obtain ⟨j, want⟩ := p
    show wantedD env want (dstAt (nth ops.toList j)) = _
    rw [nth_eq, Array.getElem?_toList]
    show wantedD env want (dstAt ops[j]?) = match (ops[j]?).bind (·.dst) with | none => false | some u => wantedV want (env.get u)
    cases ops[j]? with
    | none => rfl
    | some o =>
      show wantedD env want o.dst = match o.dst with | none => false | some u => wantedV want (env.get u)
      cases o.dst <;> rfl
theorem wanted_ok {o : Oper} (hs : ∀ u, gTmp ops o.guard = some u → conc ρ (oTmp u env) = some (a.tmps.getD u undef)) : wantedA ops env o.guard = Region.wanted o (yielded ops a.tmps) := by
  rw [wantedA_eq]
  unfold Region.wanted
  cases hg : o.guard with
  | none => rfl
  | some p =>
    obtain ⟨j, want⟩ := p
    show (match (ops[j]?).bind (·.dst) with | none => false | some u => wantedV want (env.get u)) = (yielded ops a.tmps j == some want)
    unfold yielded
    cases hd : (ops[j]?).bind (·.dst) with
    | none => rfl
    | some u =>
      have hsu := hs u (by rw [hg]; exact hd)
      show wantedV want (env.get u) = ((match (some u : Option Nat).bind (a.tmps[·]?) with | some (.bool b) => some b | _ => none) == some want)
      simp only [Option.bind_some]
      cases he : env.get u with
      | none =>
        have h1 : oTmp u env = .tup [] := by unfold oTmp; rw [he]
        rw [h1, conc_undef] at hsu
        have hn : ∀ b, a.tmps[u]? ≠ some (.bool b) := by
          intro b hb
          simp [hb, undef] at hsu
        show false = _
        split
        · rename_i b hb; exact absurd hb (hn b)
        · rfl
      | some x =>
        have h1 : oTmp u env = x := by unfold oTmp; rw [he]
        rw [h1] at hsu
        by_cases hx : ∃ b, x = .bool b
        · obtain ⟨b, rfl⟩ := hx
          have h2 : a.tmps.getD u undef = .bool b := by simpa [conc] using hsu.symm
          have h3 : a.tmps[u]? = some (.bool b) := by
            rw [Array.getD_eq_getD_getElem?] at h2
            cases h4 : a.tmps[u]? with
            | none => rw [h4] at h2; simp [undef] at h2
            | some y => rw [h4] at h2; simpa using h2
          simp only [h3]
          cases want <;> cases b <;> rfl
        · have hn : ∀ b, a.tmps[u]? ≠ some (.bool b) := by
            intro b hb
            have : a.tmps.getD u undef = .bool b := by simp [hb]
            rw [this] at hsu
            exact hx ⟨b, conc_bool hsu⟩
          have h5 : wantedV want (some x) = false := by
            cases x <;> first | rfl | exact absurd ⟨_, rfl⟩ hx
          rw [h5]
          split
          · rename_i b hb; exact absurd hb (hn b)
          · rfl
theorem wanted_env {o : Oper} (hs : ∀ u, gTmp ops o.guard = some u → env'.get u = env.get u) : wantedA ops env' o.guard = wantedA ops env o.guard := by
  rw [wantedA_eq, wantedA_eq]
  cases hg : o.guard with
  | none => rfl
  | some p =>
    obtain ⟨j, want⟩ := p
    show (match (ops[j]?).bind (·.dst) with | none => false | some u => wantedV want (env'.get u)) = (match (ops[j]?).bind (·.dst) with | none => false | some u => wantedV want (env.get u))
    cases hd : (ops[j]?).bind (·.dst) with
    | none => rfl
    | some u =>
      show wantedV want (env'.get u) = wantedV want (env.get u)
      rw [show env'.get u = env.get u from hs u (by rw [hg]; exact hd)]
theorem get_put {d : Option Nat} {v : AV} {t : Nat} (hd : d ≠ some t) : (put env d v).get t = env.get t := by
  cases d with
  | none => rfl
  | some u =>
    show (env.set u v).get t = _
    rw [Tr.get_set, if_neg fun e => hd (by rw [e])]
theorem logOf_env {o : Op} (e : ∀ x ∈ o.operands, opnd env' x = opnd env x) : logOf env' o = logOf env o := by
  cases o <;> first | rfl | skip
  · show objOf _ = objOf _; rw [e _ (by simp [Op.operands])]
  · show objOf _ = objOf _; rw [e _ (by simp [Op.operands])]
  · show objOf _ = objOf _; rw [e _ (by simp [Op.operands])]
  · rename_i c
    show (match c.args.toList with | x :: _ => objOf (opnd env' x) | [] => none) = (match c.args.toList with | x :: _ => objOf (opnd env x) | [] => none)
    cases hc : c.args.toList with
    | nil => rfl
    | cons x l =>
      show objOf _ = objOf _
      rw [e x (by simp only [Op.operands, Call.operands, Array.mem_append]; exact .inr (by rw [← Array.mem_toList_iff, hc]; exact List.mem_cons_self ..))]
theorem uses_opnd {d : DOp} {t : Nat} (hu : usesT ops d t = false) : (∀ x ∈ d.o.op.operands, x ≠ .tmp t) ∧ gTmp ops d.o.guard ≠ some t := by
  unfold usesT at hu
  simp only [Bool.or_eq_false_iff, List.any_eq_false] at hu
  refine ⟨fun x hx e => ?_, fun e => ?_⟩
  · have := hu.1 x (by simpa using hx)
    rw [e] at this
    simp [isT] at this
  · have := hu.2
    rw [e] at this
    simp at this

/-! ### what is under way -/
def Has (env : Env) (dst : Option Nat) (v : AV) : Prop := ∀ t, dst = some t → oTmp t env = v
inductive PendR (cx : Cx) (ops : Array Oper) (log : List Lg) (env : Env) (h : AH) (ρ : Rho) (tg : Nat → Option Nat) (n0 : Nat) (d : DOp) : Prop
  | skip (hw : wantedA ops env d.o.guard = false) (hv : Has env d.o.dst (.tup [])) (ht : tg d.i = none)
  | read (v : AV) (hw : wantedA ops env d.o.guard = true) (hr : isRead d.o.op = true) (he : execO d.o.op cx env h = .val v h) (hv : Has env d.o.dst v) (ht : tg d.i = none)
      (hl : ∀ ob, logOf env d.o.op = some ob → (⟨d.i, ob, false⟩ : Lg) ∈ log)
  | birth (x : AObj) (mk : Nat → AV) (o : Nat) (hw : wantedA ops env d.o.guard = true) (hb : isBirth d.o.op = true) (he : bornA cx env d.o.op = some (x, mk)) (hv : Has env d.o.dst (mk o)) (ht : tg d.i = some o)
      (ho : h.get o = x) (hρ : ρ o = none) (hlt : o < h.next) (hn : n0 ≤ o) (hl : (⟨d.i, o, true⟩ : Lg) ∈ log)
theorem PendR.step {d : DOp} (H : PendR cx ops log env h ρ tg n0 d) (h1 : ∀ x ∈ d.o.op.operands, opnd env' x = opnd env x) (h2 : wantedA ops env' d.o.guard = wantedA ops env d.o.guard)
    (h3 : ∀ t, d.o.dst = some t → oTmp t env' = oTmp t env) (h4 : ∀ y ∈ log, y ∈ log') (h5 : tg' d.i = tg d.i) (h6 : isRead d.o.op = true → (∀ ob, logOf env d.o.op = some ob → (⟨d.i, ob, false⟩ : Lg) ∈ log) → ∀ ob, logOf env d.o.op = some ob → h.get ob ≠ .dead → h'.get ob = h.get ob)
    (h7 : ∀ o, tg d.i = some o → (⟨d.i, o, true⟩ : Lg) ∈ log → o < h.next → h'.get o = h.get o ∧ ρ' o = ρ o) (h8 : h.next ≤ h'.next) : PendR cx ops log' env' h' ρ' tg' n0 d := by
  have hh : ∀ {v : AV}, Has env d.o.dst v → Has env' d.o.dst v := fun hv t ht => by rw [h3 t ht]; exact hv t ht
  cases H with
  | skip hw hv ht => exact .skip (by rw [h2]; exact hw) (hh hv) (by rw [h5]; exact ht)
  | read v hw hr he hv ht hl =>
    refine .read v (by rw [h2]; exact hw) hr ?_ (hh hv) (by rw [h5]; exact ht) fun ob hob => h4 _ (hl ob (by rw [← logOf_env h1]; exact hob))
    rw [execO_env h1]
    exact read_agr hr he fun ob hob hd => h6 hr hl ob hob hd
  | birth x mk o hw hb he hv ht ho hρ hlt hn hl =>
    obtain ⟨k1, k2⟩ := h7 o ht hl hlt
    exact .birth x mk o (by rw [h2]; exact hw) hb (by rw [bornA_env hb h1]; exact he) (hh hv) (by rw [h5]; exact ht) (by rw [k1]; exact ho) (by rw [k2]; exact hρ) (by omega) hn (h4 _ hl)

def Hd (pre : List DOp) (listed : Array Bool) (tg : Nat → Option Nat) (o : Nat) : Prop := ∃ d ∈ pre, listed.getD d.i false = false ∧ tg d.i = some o
structure Inv (cx : Cx) (G : Nat → Bool) (nt : Nat) (w0 : World) (K : Nat → Option Obj) (ops : Array Oper) (n0 : Nat) (ρ0 : Rho) (listed : Array Bool) (pre rest : List DOp) (done : Nat) (log : List Lg) (env : Env) (h : AH) (tg : Nat → Option Nat) (ρ : Rho) (a : Act) (w : World) : Prop where
  size : listed.size = ops.size
  split : canon ops = pre ++ rest
  dn : ∀ b, done.testBit b = true ↔ ∃ d ∈ pre, d.i = b
  okc : okCanon done rest = true
  sub : ∀ i, listed.getD i false = true → ∃ d ∈ pre, d.i = i
  closed : ∀ d ∈ pre, listed.getD d.i false = true → ∀ e ∈ d.o.after, bindsE e = true → listed.getD e.on false = true
  rdy : ∀ d ∈ pre, ∀ b, d.m.testBit b = true → ∃ d' ∈ pre, d'.i = b
  eff : ∀ d ∈ pre, d.e = false → listed.getD d.i false = true
  ext : ExtN n0 ρ0 ρ
  nxt : n0 ≤ h.next
  fr : EnvS nt ρ (fun t => ∃ d ∈ pre, listed.getD d.i false = false ∧ d.o.dst = some t) env a
  glob : GlobR G ρ
  defs : DefsOk cx a
  pend : ∀ d ∈ pre, listed.getD d.i false = false → PendR cx ops log env h ρ tg n0 d
  apart : ∀ d ∈ pre, ∀ d' ∈ pre, listed.getD d.i false = false → listed.getD d'.i false = false → ∀ o, tg d.i = some o → tg d'.i = some o → d.i = d'.i
  heap : ∃ hs : AH, hs.next = h.next ∧ (∀ o, Hd pre listed tg o → hs.get o = .dead) ∧ (∀ o, ¬ Hd pre listed tg o → hs.get o = h.get o) ∧ HR w0 K ρ hs w

theorem getD_false {i : Nat} (h : listed.getD i true = false) : listed.getD i false = false ∧ i < listed.size := by
  rcases Nat.lt_or_ge i listed.size with hi | hi
  · simp [hi] at h ⊢; exact h
  · simp [Array.getElem?_eq_none hi] at h
theorem getD_set {i j : Nat} (hi : i < listed.size) : (listed.setIfInBounds i true).getD j false = if j = i then true else listed.getD j false := by
  by_cases h : j = i
  · subst h; simp [hi]
  · rw [if_neg h, getD_set_ne false (Ne.symm h)]

section
variable (I : Inv cx G nt w0 K ops n0 ρ0 listed pre rest done log env h tg ρ a w)
include I
theorem Inv.all {d : DOp} (hd : d ∈ pre ++ rest) : d ∈ allD ops ∧ ops[d.i]? = some d.o := by
  have h1 : d ∈ allD ops := canon_mem (by rw [I.split]; exact hd)
  exact ⟨h1, (allD_ok h1).1⟩
theorem Inv.same {d d' : DOp} (hd : d ∈ pre ++ rest) (hd' : d' ∈ pre ++ rest) (e : d.i = d'.i) : d = d' :=
  allD_inj (I.all hd).1 (I.all hd').1 e
theorem Inv.bits {d : DOp} (hd : d ∈ pre ++ rest) (hp : ∀ e ∈ d.o.after, bindsE e = true → listed.getD e.on false = true) : ∀ b, d.m.testBit b = true → listed.getD b false = true := by
  refine bits_closed (L := fun b => listed.getD b false = true) (fun d' hd' hl => ?_) (d.i + 1) d (by omega) (I.all hd).1 hp
  obtain ⟨d2, e1, e2⟩ := I.sub d'.i hl
  have : d2 = d' := allD_inj (I.all (List.mem_append_left _ e1)).1 hd' e2
  subst this
  exact I.closed d2 e1 hl
theorem Inv.free (R : RegR ops) {d d' : DOp} (hd : d ∈ pre ++ rest) (hp : ∀ e ∈ d.o.after, bindsE e = true → listed.getD e.on false = true) (hd' : d' ∈ pre) (hl : listed.getD d'.i false = false) {t : Nat} (ht : d'.o.dst = some t) : usesT ops d t = false := by
  cases hu : usesT ops d t with
  | false => rfl
  | true =>
    rcases okPair_use (R.pair d (by rw [I.split]; exact hd) d' (by rw [I.split]; exact List.mem_append_left _ hd')) ht hu with k | ⟨k, _⟩
    · have := I.bits hd hp d'.i k
      rw [hl] at this; cases this
    · have := I.eff d' hd' k
      rw [hl] at this; cases this
/-- the frames, those that are under way put aside -/
theorem Inv.mask (R : RegR ops) {d : DOp} (hd : d ∈ pre ++ rest) (hp : ∀ e ∈ d.o.after, bindsE e = true → listed.getD e.on false = true) (hnt : ∀ o ∈ ops, okD G nt o = true) :
    ∃ l : List Nat, EnvR nt ρ (maskE l env) (maskA l a) ∧ (∀ x ∈ d.o.op.operands, opnd (maskE l env) x = opnd env x) ∧ ((∀ cs b, d.o.op ≠ .select cs b) → execOp (maskA l a).eval d.o = execOp a.eval d.o) ∧
      wantedA ops env d.o.guard = Region.wanted d.o (yielded ops a.tmps) := by
  let l : List Nat := pre.filterMap fun d => if listed.getD d.i false then none else d.o.dst
  have hmem : ∀ t, t ∈ l ↔ ∃ d ∈ pre, listed.getD d.i false = false ∧ d.o.dst = some t := fun t => by
    simp only [l, List.mem_filterMap]
    constructor
    · rintro ⟨d', h1, h2⟩
      split at h2
      · cases h2
      · rename_i h3; exact ⟨d', h1, by simpa using h3, h2⟩
    · rintro ⟨d', h1, h2, h3⟩
      exact ⟨d', h1, by rw [h2]; simpa using h3⟩
  have hnu : ∀ t, t ∈ l → usesT ops d t = false := fun t ht => by
    obtain ⟨d', h1, h2, h3⟩ := (hmem t).1 ht
    exact I.free R hd hp h1 h2 h3
  have hop : ∀ x ∈ d.o.op.operands, opnd (maskE l env) x = opnd env x ∧ (maskA l a).eval x = a.eval x := fun x hx =>
    mask_opnd fun t ht hm => (uses_opnd (hnu t hm)).1 x hx ht
  refine ⟨l, I.fr.mask fun t ht => (hmem t).2 ht, fun x hx => (hop x hx).1, fun hs => execOp_congr d.o hs fun x hx => (hop x hx).2, wanted_ok (ρ := ρ) fun u hu => ?_⟩
  have hlt : u < nt := by
    unfold gTmp at hu
    split at hu
    · rename_i j b hg
      cases ho : ops[j]? with
      | none => rw [ho] at hu; cases hu
      | some o =>
        rw [ho] at hu
        have hu : o.dst = some u := hu
        have := hnt o (Array.mem_of_getElem? ho)
        unfold okD at this
        rw [hu] at this
        simp only [Bool.and_eq_true, Nat.blt_eq] at this
        exact this.2
    · cases hu
  exact I.fr.slot u hlt fun hs => (uses_opnd (hnu u ((hmem u).2 hs))).2 hu

theorem Inv.fresh {d : DOp} (R : RegR ops) (hr : rest = d :: rest') : ready d done = true ∧ (∀ d' ∈ pre, d'.i ≠ d.i) ∧ listed.getD d.i false = false ∧ (d.e = true ∨ ∀ d' ∈ rest', ready d' done = false) ∧ okCanon (Nat.lor done (Nat.pow 2 d.i)) rest' = true := by
  obtain ⟨c1, c2, c3, c4⟩ := okCanon_cons (hr ▸ I.okc)
  have hne : ∀ d' ∈ pre, d'.i ≠ d.i := fun d' hd' e => by
    have := (I.dn d.i).2 ⟨d', hd', e⟩
    rw [c2] at this; cases this
  refine ⟨c1, hne, ?_, c3, c4⟩
  cases hl : listed.getD d.i false with
  | false => rfl
  | true =>
    obtain ⟨d', e1, e2⟩ := I.sub _ hl
    exact absurd e2 (hne d' e1)
end
end
end Go.Sh
end
section
namespace Go.Sh
open Go
section
variable {P : Program} {cx : Cx} {G : Nat → Bool} {nt : Nat} {ρ ρ' ρ0 : Rho} {env env' : Env} {a a2 : Act} {w0 : World} {K : Nat → Option Obj} {h h' : AH} {w w' : World} {v : AV} {x : Value}
  {ops : Array Oper} {listed : Array Bool} {pre rest rest' : List DOp} {done n0 : Nat} {log log' : List Lg} {tg tg' : Nat → Option Nat} {d : DOp}

theorem lor_done {b : Nat} (I : ∀ b, done.testBit b = true ↔ ∃ d ∈ pre, d.i = b) : (Nat.lor done (Nat.pow 2 d.i)).testBit b = true ↔ ∃ d' ∈ pre ++ [d], d'.i = b := by
  rw [bit_lor, bit_pow, Bool.or_eq_true, I b, decide_eq_true_eq]
  constructor
  · rintro (⟨d', h1, h2⟩ | h)
    · exact ⟨d', List.mem_append_left _ h1, h2⟩
    · exact ⟨d, by simp, h⟩
  · rintro ⟨d', h1, h2⟩
    rcases List.mem_append.1 h1 with h1 | h1
    · exact .inl ⟨d', h1, h2⟩
    · simp at h1; subst h1; exact .inr h2

/-- the frame behind an operation of the chosen order: what was recorded stays -/
theorem Inv.pre_env (I : Inv cx G nt w0 K ops n0 ρ0 listed pre (d :: rest') done log env h tg ρ a w) (R : RegR ops) {d' : DOp} (hd' : d' ∈ pre) (hx : d.e = true ∨ d.m.testBit d'.i = false) (v : AV) :
    (∀ x ∈ d'.o.op.operands, opnd (put env d.o.dst v) x = opnd env x) ∧ wantedA ops (put env d.o.dst v) d'.o.guard = wantedA ops env d'.o.guard ∧ (∀ t, d'.o.dst = some t → oTmp t (put env d.o.dst v) = oTmp t env) := by
  obtain ⟨_, hne, _, _, _⟩ := I.fresh R rfl
  have c1 : d ∈ canon ops := by rw [I.split]; simp
  have c2 : d' ∈ canon ops := by rw [I.split]; simp [hd']
  have hu : ∀ t, d.o.dst = some t → usesT ops d' t = false := fun t ht => by
    cases hu : usesT ops d' t with
    | false => rfl
    | true =>
      rcases okPair_use (R.pair d' c2 d c1) ht hu with k | ⟨k1, k2⟩
      · obtain ⟨d2, e1, e2⟩ := I.rdy d' hd' _ k
        exact absurd e2 (hne d2 e1)
      · rcases hx with hx | hx
        · rw [hx] at k1; cases k1
        · rcases k2 with k2 | k2
          · exact absurd k2 (hne d' hd')
          · rw [hx] at k2; cases k2
  refine ⟨fun x hx => opnd_put fun t ht e => ?_, wanted_env fun u hu' => get_put fun e => ?_, fun t ht => oTmp_put fun e => ?_⟩
  · exact (uses_opnd (hu t e)).1 x hx ht
  · exact (uses_opnd (hu u e)).2 hu'
  · exact hne d' hd' (okPair_dst (R.pair d' c2 d c1) e ht)

/-- the chosen order goes on with what may come early -/
theorem Inv.early (I : Inv cx G nt w0 K ops n0 ρ0 listed pre (d :: rest') done log env h tg ρ a w) (R : RegR ops) (hde : d.e = true) {n : Nat}
    (hg : ¬ (ev cx (n + 1) (.dops ops (d :: rest') log) env h).bad) :
    ∃ log' env' h' tg', Inv cx G nt w0 K ops n0 ρ0 listed (pre ++ [d]) rest' (Nat.lor done (Nat.pow 2 d.i)) log' env' h' tg' ρ a w ∧
      ev cx (n + 1) (.dops ops (d :: rest') log) env h = ev cx n (.dops ops rest' log') env' h' := by
  obtain ⟨rd, hne, hun, _, hokc⟩ := I.fresh R rfl
  have hsplit : canon ops = (pre ++ [d]) ++ rest' := by rw [I.split]; simp
  have he : isEarly d.o.op = true := allD_early (I.all (show d ∈ pre ++ d :: rest' by simp)).1 hde
  -- whatever comes of it
  have mk : ∀ (v : AV) (log' : List Lg) (h' : AH) (tg' : Nat → Option Nat), (∀ y ∈ log, y ∈ log') → (∀ j, j ≠ d.i → tg' j = tg j) → h.next ≤ h'.next → (∀ o, o < h.next → h'.get o = h.get o) →
      PendR cx ops log' (put env d.o.dst v) h' ρ tg' n0 d → (∀ o, tg' d.i = some o → o = h.next) → (∀ o, h.next ≤ o → tg' d.i ≠ some o → h'.get o = h.get o) → (tg' d.i = none ∧ h'.next = h.next ∨ tg' d.i = some h.next ∧ h'.next = h.next + 1) →
      Inv cx G nt w0 K ops n0 ρ0 listed (pre ++ [d]) rest' (Nat.lor done (Nat.pow 2 d.i)) log' (put env d.o.dst v) h' tg' ρ a w := by
    intro v log' h' tg' hlog htg hnx hget hp hnew hfar hnext
    obtain ⟨hs, s1, s2, s3, s4⟩ := I.heap
    have hHd : ∀ o, Hd (pre ++ [d]) listed tg' o ↔ (Hd pre listed tg o ∨ tg' d.i = some o) := fun o => by
      constructor
      · rintro ⟨d', e1, e2, e3⟩
        rcases List.mem_append.1 e1 with e1 | e1
        · exact .inl ⟨d', e1, e2, by rw [← htg _ (hne d' e1)]; exact e3⟩
        · simp at e1; subst e1; exact .inr e3
      · rintro (⟨d', e1, e2, e3⟩ | e)
        · exact ⟨d', List.mem_append_left _ e1, e2, by rw [htg _ (hne d' e1)]; exact e3⟩
        · exact ⟨d, by simp, hun, e⟩
    have hlt : ∀ d' ∈ pre, listed.getD d'.i false = false → ∀ o, tg d'.i = some o → o < h.next := fun d' e1 e2 o e3 => by
      cases I.pend d' e1 e2 with
      | skip hw hv ht => rw [ht] at e3; cases e3
      | read v hw hr he hv ht hl => rw [ht] at e3; cases e3
      | birth x mk o' hw hb he hv ht ho hρ hlt hn hl => rw [ht] at e3; cases e3; exact hlt
    refine ⟨I.size, hsplit, fun b => lor_done I.dn, hokc, fun i hi => ?_, fun d' hd' hl => ?_, fun d' hd' b hb => ?_, fun d' hd' hn => ?_, I.ext, by have := I.nxt; omega, ?_, I.glob, I.defs, fun d' hd' hl => ?_, fun d1 hd1 d2 hd2 l1 l2 o o1 o2 => ?_, ?_⟩
    · obtain ⟨d', e1, e2⟩ := I.sub i hi; exact ⟨d', List.mem_append_left _ e1, e2⟩
    · rcases List.mem_append.1 hd' with e | e
      · exact I.closed d' e hl
      · simp at e; subst e; rw [hun] at hl; cases hl
    · rcases List.mem_append.1 hd' with e | e
      · obtain ⟨d2, e1, e2⟩ := I.rdy d' e b hb; exact ⟨d2, List.mem_append_left _ e1, e2⟩
      · simp at e; subst e
        obtain ⟨d2, e1, e2⟩ := (I.dn b).1 (ready_iff.1 rd b hb)
        exact ⟨d2, List.mem_append_left _ e1, e2⟩
    · rcases List.mem_append.1 hd' with e | e
      · exact I.eff d' e hn
      · simp at e; subst e; rw [hde] at hn; cases hn
    · refine ⟨I.fr.size, fun t ht hS => ?_⟩
      have hdt : d.o.dst ≠ some t := fun e => hS ⟨d, by simp, hun, e⟩
      rw [oTmp_put hdt]
      exact I.fr.slot t ht fun ⟨d', e1, e2, e3⟩ => hS ⟨d', List.mem_append_left _ e1, e2, e3⟩
    · rcases List.mem_append.1 hd' with e | e
      · obtain ⟨p1, p2, p3⟩ := I.pre_env R e (.inl hde) v
        refine (I.pend d' e hl).step p1 p2 p3 hlog (htg _ (hne d' e)) (fun _ _ ob _ hob => ?_) (fun o ho _ _ => ⟨hget o (hlt d' e hl o ho), rfl⟩) hnx
        by_cases hob' : ob < h.next
        · exact hget ob hob'
        · exfalso
          -- beyond the last name nothing is
          by_cases hh : Hd pre listed tg ob
          · obtain ⟨d2, e1, e2, e3⟩ := hh
            exact hob' (hlt d2 e1 e2 ob e3)
          · have := (s4.fresh ob (by omega)).2
            rw [s3 ob hh] at this
            exact hob this
      · simp at e; subst e; exact hp
    · have key : ∀ d' ∈ pre ++ [d], listed.getD d'.i false = false → ∀ o, tg' d'.i = some o → (d' ∈ pre ∧ tg d'.i = some o ∧ o < h.next) ∨ (d' = d ∧ o = h.next) := fun d' hd' hl o ho => by
        rcases List.mem_append.1 hd' with e | e
        · rw [htg _ (hne d' e)] at ho; exact .inl ⟨e, ho, hlt d' e hl o ho⟩
        · simp at e; subst e; exact .inr ⟨rfl, hnew o ho⟩
      rcases key d1 hd1 l1 o o1 with ⟨k1, k2, k3⟩ | ⟨k1, k2⟩ <;> rcases key d2 hd2 l2 o o2 with ⟨k4, k5, k6⟩ | ⟨k4, k5⟩
      · exact I.apart d1 k1 d2 k4 l1 l2 o k2 k5
      · omega
      · omega
      · rw [k1, k4]
    · rcases hnext with ⟨t1, t2⟩ | ⟨t1, t2⟩
      · refine ⟨hs, by rw [s1, t2], fun o ho => ?_, fun o ho => ?_, s4⟩
        · rcases (hHd o).1 ho with k | k
          · exact s2 o k
          · rw [t1] at k; cases k
        · have hn : ¬ Hd pre listed tg o := fun k => ho ((hHd o).2 (.inl k))
          rw [s3 o hn]
          by_cases hob' : o < h.next
          · exact (hget o hob').symm
          · exact (hfar o (by omega) (by rw [t1]; intro e; cases e)).symm
      · -- a name more
        have hfr := s4.fresh h.next (by omega)
        refine ⟨⟨hs.next + 1, hs.objs⟩, by show hs.next + 1 = _; omega, fun o ho => ?_, fun o ho => ?_, ?_⟩
        · show hs.get o = _
          rcases (hHd o).1 ho with k | k
          · exact s2 o k
          · rw [t1] at k; cases k; exact hfr.2
        · show hs.get o = _
          have hn : ¬ Hd pre listed tg o := fun k => ho ((hHd o).2 (.inl k))
          have hn2 : o ≠ h.next := fun e => ho ((hHd o).2 (.inr (by rw [t1, e])))
          rw [s3 o hn]
          by_cases hob' : o < h.next
          · exact (hget o hob').symm
          · exact (hfar o (by omega) (by rw [t1]; intro e; cases e; exact hn2 rfl)).symm
        · exact ⟨s4.os, s4.tape, s4.output, s4.size, s4.frame, fun o ho => s4.fresh o (by have : hs.next + 1 ≤ o := ho; omega), s4.objs, s4.excl⟩
  have ev1 : ev cx (n + 1) (.dops ops (d :: rest') log) env h = stepDO cx (ev cx n) ops rest' log d env h := rfl
  rw [ev1] at hg ⊢
  unfold stepDO at hg ⊢
  cases hw : wantedA ops env d.o.guard with
  | false =>
    rw [hw] at hg
    refine ⟨log, put env d.o.dst (.tup []), h, fun j => if j = d.i then none else tg j, ?_, rfl⟩
    refine mk _ _ _ _ (fun _ h => h) (fun j hj => by simp [hj]) (Nat.le_refl _) (fun _ _ => rfl) ?_ (fun o ho => by simp at ho) (fun _ _ _ => rfl) (.inl ⟨by simp, rfl⟩)
    refine .skip ?_ (fun t ht => by rw [ht]; exact oTmp_put_same) (by simp)
    rw [← hw]
    refine wanted_env fun u hu => get_put fun e => ?_
    rcases okPair_use (R.pair d (by rw [I.split]; simp) d (by rw [I.split]; simp)) e (by unfold usesT; rw [hu]; simp) with this | ⟨k, _⟩
    · obtain ⟨d2, e1, e2⟩ := (I.dn d.i).1 (ready_iff.1 rd _ this)
      exact hne d2 e1 e2
    · rw [hde] at k; cases k
  | true =>
    rw [hw, hde] at hg
    have hg : ¬ (outD cx (ev cx n) ops rest' (logD env h d.i d.o.op log) d.o.dst [] d.o.pos env (execO d.o.op cx env h) h).bad := hg
    obtain ⟨v, h1, c1, c2⟩ := outD_inv hg
    have self : ∀ t, d.o.dst = some t → usesT ops d t = false := fun t ht => by
      cases hu : usesT ops d t with
      | false => rfl
      | true =>
        rcases okPair_use (R.pair d (by rw [I.split]; simp) d (by rw [I.split]; simp)) ht hu with this | ⟨k, _⟩
        · obtain ⟨d2, e1, e2⟩ := (I.dn d.i).1 (ready_iff.1 rd _ this)
          exact absurd e2 (hne d2 e1)
        · rw [hde] at k; cases k
    have own : (∀ x ∈ d.o.op.operands, opnd (put env d.o.dst v) x = opnd env x) ∧ wantedA ops (put env d.o.dst v) d.o.guard = true :=
      ⟨fun x hx => opnd_put fun t ht e => (uses_opnd (self t e)).1 x hx ht, by rw [← hw]; exact wanted_env fun u hu => get_put fun e => (uses_opnd (self u e)).2 hu⟩
    have has : Has (put env d.o.dst v) d.o.dst v := fun t ht => by rw [ht]; exact oTmp_put_same
    rw [hde]
    show ∃ log' env' h' tg', _ ∧ outD cx (ev cx n) ops rest' (logD env h d.i d.o.op log) d.o.dst [] d.o.pos env (execO d.o.op cx env h) h = _
    rw [c2]
    have hex : execO d.o.op cx env h = .val v h1 := by
      generalize hx : execO d.o.op cx env h = out at c1
      cases c1 with
      | val => rfl
      | call hf he' hr' =>
        cases hr : isRead d.o.op with
        | true => exact absurd hx (read_nocall hr)
        | false =>
          have hb : isBirth d.o.op = true := by unfold isEarly at he; rw [hr] at he; exact he
          rw [born_exec hb] at hx
          exact absurd hx (NC.outB _ _)
      | ext hf hx' hv' =>
        cases hr : isRead d.o.op with
        | true => exact absurd hx (read_nocall hr)
        | false =>
          have hb : isBirth d.o.op = true := by unfold isEarly at he; rw [hr] at he; exact he
          rw [born_exec hb] at hx
          exact absurd hx (NC.outB _ _)
    cases hr : isRead d.o.op with
    | true =>
      have e1 := read_same hr hex
      rw [e1] at hex ⊢
      refine ⟨logD env h d.i d.o.op log, put env d.o.dst v, h, fun j => if j = d.i then none else tg j, ?_, rfl⟩
      have hlog : ∀ y ∈ log, y ∈ logD env h d.i d.o.op log := fun y hy => by
        rw [logD_read hr]
        split
        · exact List.mem_cons_of_mem _ hy
        · exact hy
      refine mk _ _ _ _ hlog (fun j hj => by simp [hj]) (Nat.le_refl _) (fun _ _ => rfl) ?_ (fun o ho => by simp at ho) (fun _ _ _ => rfl) (.inl ⟨by simp, rfl⟩)
      refine .read v own.2 hr (by rw [execO_env own.1]; exact hex) has (by simp) fun ob hob => ?_
      rw [logOf_env own.1] at hob
      rw [logD_read hr, hob]
      exact List.mem_cons_self ..
    | false =>
      have hb : isBirth d.o.op = true := by unfold isEarly at he; rw [hr] at he; exact he
      rw [born_exec hb] at hex
      cases hp : bornA cx env d.o.op with
      | none => rw [hp] at hex; cases hex
      | some p =>
        obtain ⟨y, mkv⟩ := p
        rw [hp] at hex
        cases hex
        refine ⟨logD env h d.i d.o.op log, put env d.o.dst (mkv h.next), h.new y, fun j => if j = d.i then some h.next else tg j, ?_, rfl⟩
        have hlog : ∀ y ∈ log, y ∈ logD env h d.i d.o.op log := fun y hy => by
          rw [logD_birth hb]; exact List.mem_cons_of_mem _ hy
        have hfr : ρ h.next = none := by
          obtain ⟨hs, s1, s2, s3, s4⟩ := I.heap
          exact (s4.fresh h.next (by omega)).1
        refine mk _ _ _ _ hlog (fun j hj => by simp [hj]) (Nat.le_succ _) (fun o ho => by rw [AH.get_new, if_neg (by omega)]) ?_ (fun o ho => by simpa using ho.symm) (fun o ho1 ho2 => by rw [AH.get_new, if_neg (fun e => ho2 (by simp [e]))]) (.inr ⟨by simp, rfl⟩)
        refine .birth y mkv h.next own.2 hb (by rw [bornA_env hb own.1]; exact hp) has (by simp) (by rw [AH.get_new, if_pos rfl]) hfr (Nat.lt_succ_self _) I.nxt ?_
        rw [logD_birth hb]
        exact List.mem_cons_self ..
end
end Go.Sh
end
section
namespace Go.Sh
open Go
section
variable {P : Program} {cx : Cx} {G : Nat → Bool} {nt : Nat} {ρ ρ' ρ0 : Rho} {env env' : Env} {a a2 : Act} {w0 : World} {K : Nat → Option Obj} {h h' : AH} {w w' : World} {v : AV} {x : Value}
  {ops : Array Oper} {listed : Array Bool} {pre rest rest' : List DOp} {done n0 : Nat} {log log' : List Lg} {tg tg' : Nat → Option Nat} {d : DOp}

theorem read_nosel {o : Op} (h : isRead o = true ∨ isBirth o = true) (cs : Array SelectCase) (b : Bool) : o ≠ .select cs b := by
  intro e; subst e
  rcases h with h | h <;> cases h

/-- what is heard of a slot behind an operation -/
theorem EnvS.put' {S S' : Nat → Prop} (H : EnvS nt ρ S env a) (he : Ext' ρ ρ') (ht : a2.tmps = a.tmps) {dst : Option Nat} {env' : Env} (h1 : ∀ t, dst = some t → conc ρ' (oTmp t env') = some x)
    (h2 : ∀ t, dst ≠ some t → ¬ S' t → ¬ S t) (h3 : ∀ t, dst ≠ some t → oTmp t env' = oTmp t env) : EnvS nt ρ' S' env' (a2.put dst x) := by
  have hsz : (a2.put dst x).tmps.size = a.tmps.size := by
    cases dst with
    | none => show a2.tmps.size = _; rw [ht]
    | some t => show (a2.tmps.setIfInBounds t x).size = _; rw [ht]; simp
  refine ⟨by rw [hsz]; exact H.size, fun t htn hS => ?_⟩
  by_cases hd : dst = some t
  · subst hd
    rw [getD_put_same (by rw [ht]; have := H.size; omega)]
    exact h1 t rfl
  · rw [getD_put hd, ht, h3 t hd]
    exact conc_mono he _ _ (H.slot t htn (h2 t hd hS))

/-- an operation that was recorded is carried out -/
theorem Inv.fire (I : Inv cx G nt w0 K ops n0 ρ0 listed pre rest done log env h tg ρ a w) (R : RegR ops) (F : TabR P cx G w0) (hnt : ∀ o ∈ ops, okD G nt o = true) (hd : d ∈ pre) (hl : listed.getD d.i false = false) (hlt : d.i < listed.size)
    (hp : ∀ e ∈ d.o.after, bindsE e = true → listed.getD e.on false = true) {K' : Act → World → Prop} {Q : Exit → Act → World → Prop}
    (hK : ∀ tg' ρ' a' w', Inv cx G nt w0 K ops n0 ρ0 (listed.setIfInBounds d.i true) pre rest done log env h tg' ρ' a' w' → K' a' w') : wpOp P ops Q d.i K' a w := by
  have hmem : d ∈ pre ++ rest := List.mem_append_left _ hd
  obtain ⟨l, m1, m2, m3, m4⟩ := I.mask R hmem hp hnt
  have hop := (I.all hmem).2
  have hokd : okO G nt d.o.op = true := by
    have := hnt d.o (Array.mem_of_getElem? hop)
    unfold okD at this
    simp only [Bool.and_eq_true] at this
    exact this.1
  obtain ⟨hs, s1, s2, s3, s4⟩ := I.heap
  have hset := fun j => getD_set (listed := listed) (j := j) hlt
  -- whatever comes of it
  have mk : ∀ (tg' : Nat → Option Nat) (ρ' : Rho) (a2 : Act) (x : Value) (w' : World) (v : AV), a2.tmps = a.tmps → DefsOk cx a2 → Ext' ρ ρ' → (∀ o, o < n0 → ρ' o = ρ o) → Has env d.o.dst v → conc ρ' v = some x →
      (∀ o, (∃ d' ∈ pre, d' ≠ d ∧ listed.getD d'.i false = false ∧ tg d'.i = some o) → ρ' o = ρ o) →
      (∃ hs' : AH, hs'.next = h.next ∧ (∀ o, (∃ d' ∈ pre, d' ≠ d ∧ listed.getD d'.i false = false ∧ tg d'.i = some o) → hs'.get o = .dead) ∧ (∀ o, ¬ (∃ d' ∈ pre, d' ≠ d ∧ listed.getD d'.i false = false ∧ tg d'.i = some o) → hs'.get o = h.get o) ∧ HR w0 K ρ' hs' w') →
      Inv cx G nt w0 K ops n0 ρ0 (listed.setIfInBounds d.i true) pre rest done log env h tg ρ' (a2.put d.o.dst x) w' := by
    intro tg' ρ' a2 x w' v ht hD hE hEo hv hc hρ' hh
    have un : ∀ d' ∈ pre, (listed.setIfInBounds d.i true).getD d'.i false = false → d' ≠ d ∧ listed.getD d'.i false = false := fun d' e1 e2 => by
      rw [hset] at e2
      split at e2
      · cases e2
      · rename_i hne; exact ⟨fun e => hne (by rw [e]), e2⟩
    have nu : ∀ d' ∈ pre, d' ≠ d → listed.getD d'.i false = false → (listed.setIfInBounds d.i true).getD d'.i false = false := fun d' e1 e2 e3 => by
      rw [hset, if_neg fun e => e2 (I.same (List.mem_append_left _ e1) hmem e)]; exact e3
    have up : ∀ j, listed.getD j false = true → (listed.setIfInBounds d.i true).getD j false = true := fun j hj => by
      rw [hset]; split
      · rfl
      · exact hj
    refine ⟨by simpa using I.size, I.split, I.dn, I.okc, fun j hj => ?_, fun d' hd' hl' e he hb => ?_, I.rdy, fun d' hd' hn => up _ (I.eff d' hd' hn), ⟨I.ext.ext.trans hE, fun o ho => by rw [hEo o ho, I.ext.old o ho]⟩, I.nxt, ?_, I.glob.mono hE, ?_, fun d' hd' hl' => ?_, fun d1 e1 d2 e2 l1 l2 o o1 o2 => ?_, ?_⟩
    · rw [hset] at hj
      split at hj
      · rename_i e; exact ⟨d, hd, e.symm⟩
      · exact I.sub j hj
    · rw [hset] at hl'
      split at hl'
      · rename_i e2
        have := I.same (List.mem_append_left _ hd') hmem e2
        subst this
        exact up _ (hp e he hb)
      · exact up _ (I.closed d' hd' hl' e he hb)
    · refine I.fr.put' hE ht (fun t htd => by rw [hv t htd]; exact hc) (fun t htd hS hS0 => ?_) (fun t _ => rfl)
      obtain ⟨d', e1, e2, e3⟩ := hS0
      exact hS ⟨d', e1, nu d' e1 (fun e => htd (by rw [← e]; exact e3)) e2, e3⟩
    · intro df hdf
      have : (a2.put d.o.dst x).defers = a2.defers := by cases d.o.dst <;> rfl
      rw [this] at hdf
      exact hD df hdf
    · obtain ⟨u1, u2⟩ := un d' hd' hl'
      exact (I.pend d' hd' u2).step (fun _ _ => rfl) rfl (fun _ _ => rfl) (fun _ h => h) rfl (fun _ _ _ _ _ => rfl) (fun o ho _ _ => ⟨rfl, hρ' o ⟨d', hd', u1, u2, ho⟩⟩) (Nat.le_refl _)
    · exact I.apart d1 e1 d2 e2 (un d1 e1 l1).2 (un d2 e2 l2).2 o o1 o2
    · obtain ⟨hs', k1, k2, k3, k4⟩ := hh
      refine ⟨hs', k1, fun o ⟨d', e1, e2, e3⟩ => k2 o ⟨d', e1, (un d' e1 e2).1, (un d' e1 e2).2, e3⟩, fun o hn => k3 o fun ⟨d', e1, e2, e3, e4⟩ => hn ⟨d', e1, nu d' e1 e2 e3, e4⟩, k4⟩
  -- nothing was hidden for it
  have hid0 : tg d.i = none → ∀ o, Hd pre listed tg o ↔ ∃ d' ∈ pre, d' ≠ d ∧ listed.getD d'.i false = false ∧ tg d'.i = some o := fun ht o =>
    ⟨fun ⟨d', e1, e2, e3⟩ => ⟨d', e1, fun e => (by rw [e, ht] at e3; cases e3), e2, e3⟩, fun ⟨d', e1, _, e2, e3⟩ => ⟨d', e1, e2, e3⟩⟩
  have hlt' : ∀ d' ∈ pre, listed.getD d'.i false = false → ∀ o, tg d'.i = some o → o < h.next := fun d' e1 e2 o e3 => by
    cases I.pend d' e1 e2 with
    | skip hw hv ht => rw [ht] at e3; cases e3
    | read v hw hr he hv ht hl => rw [ht] at e3; cases e3
    | birth x mk o' hw hb he hv ht ho hρ hlt hn hl => rw [ht] at e3; cases e3; exact hlt
  unfold wpOp
  rw [hop]
  simp only
  rw [← m4]
  cases I.pend d hd hl with
  | skip hw hv ht =>
    rw [hw]
    simp only [Bool.false_eq_true, if_false]
    refine hK tg ρ _ w (mk tg ρ a undef w (.tup []) rfl I.defs (Ext'.refl _) (fun _ _ => rfl) hv (conc_undef _) (fun _ _ => rfl) ⟨hs, s1, fun o ho => s2 o ((hid0 ht o).2 ho), fun o ho => s3 o fun k => ho ((hid0 ht o).1 k), s4⟩)
  | read v hw hr he hv ht hlog =>
    rw [hw]
    simp only [if_true]
    refine .inl ?_
    -- the machine's memory shows the same
    have hagr : Agr h hs (logOf (maskE l env) d.o.op) := fun ob hob hne => by
      refine s3 ob fun ⟨d', e1, e2, e3⟩ => ?_
      -- a name without a place is in no value
      have : ρ ob = none := by
        cases I.pend d' e1 e2 with
        | skip hw hv ht => rw [ht] at e3; cases e3
        | read v hw hr he hv ht hl => rw [ht] at e3; cases e3
        | birth x mk o' hw hb he hv ht ho hρ hlt hn hl => rw [ht] at e3; cases e3; exact hρ
      have hconc : ∀ y ∈ d.o.op.operands, objOf (opnd (maskE l env) y) = some ob → False := fun y hy ho => by
        have c := opnd_conc m1 I.glob (okO_x hokd y hy)
        generalize opnd (maskE l env) y = z at ho c
        unfold objOf at ho
        split at ho
        · cases ho; simp [conc, this] at c
        · rename_i o i n cp; cases ho; cases cp <;> simp [conc, this] at c
        · cases ho; simp [conc, this] at c
        · cases ho
      cases hop' : d.o.op <;> rw [hop'] at hob hconc hr <;> first | (cases hob; done) | skip
      · exact hconc _ (by simp [Op.operands]) hob
      · exact hconc _ (by simp [Op.operands]) hob
      · exact hconc _ (by simp [Op.operands]) hob
      · rename_i c
        have hob : (match c.args.toList with | y :: _ => objOf (opnd (maskE l env) y) | [] => none) = some ob := hob
        cases hc : c.args.toList with
        | nil => rw [hc] at hob; cases hob
        | cons y ys =>
          rw [hc] at hob
          exact hconc y (by simp only [Op.operands, Call.operands, Array.mem_append]; exact .inr (by rw [← Array.mem_toList_iff, hc]; exact List.mem_cons_self ..)) hob
    have he1 : execO d.o.op cx (maskE l env) h = .val v h := by rw [execO_env m2]; exact he
    have he2 := read_agr hr he1 hagr
    have hopr := exec_ok (P := P) F.ty F.eqt m1 I.glob s4 hokd
    rw [he2, m3 (read_nosel (.inl hr))] at hopr
    refine op_wp F (n := 0) (fun _ _ _ _ _ _ _ _ he => by rcases he with he | he <;> cases he) I.glob s4 hopr (Comes.val v hs hs) fun ρ' x w' a2 t1 t2 t3 t4 t5 => ?_
    refine hK tg ρ' _ w' (mk tg ρ' a2 x w' v t1 (t2 I.defs) t3.ext (fun o ho => t3.old o (by have := I.nxt; omega)) hv t4 (fun o ⟨d', e1, _, e2, e3⟩ => t3.old o (by have := hlt' d' e1 e2 o e3; omega)) ⟨hs, s1, fun o ho => s2 o ((hid0 ht o).2 ho), fun o ho => s3 o fun k => ho ((hid0 ht o).1 k), t5⟩)
  | birth y mkv o hw hb he hv ht ho hρ hlt2 hn hlog =>
    rw [hw]
    simp only [if_true]
    refine .inl ?_
    obtain ⟨s, e1, e2⟩ := born_ok (P := P) F.ty m1 I.glob w hb hokd (p := (y, mkv)) (by rw [bornA_env hb m2]; exact he)
    rw [m3 (read_nosel (.inr hb))] at e1
    obtain ⟨obj, E, z, z1, z2, z3⟩ := e2
    have hrun : (execOp a.eval d.o).run P w = .ok (.value z) (w.alloc obj) := by rw [e1, Sem.run_bind, z1]; rfl
    have hother : ∀ o', (∃ d' ∈ pre, d' ≠ d ∧ listed.getD d'.i false = false ∧ tg d'.i = some o') → o' ≠ o := fun o' ⟨d', q1, q2, q3, q4⟩ e => by
      subst e
      exact q2 (I.same (List.mem_append_left _ q1) hmem (I.apart d' q1 d hd q3 hl _ q4 ht))
    have hdead : hs.get o = .dead := s2 o ⟨d, hd, hl, ht⟩
    show Oper.wp P d.o a w K' Q
    unfold Oper.wp
    rw [hrun]
    show K' (a.put d.o.dst z) (w.alloc obj)
    refine hK tg (upd ρ o ⟨w.heap.size, 0, E⟩) _ _ (mk tg _ a z (w.alloc obj) (mkv o) rfl I.defs (upd_ext hρ) (fun o' ho' => upd_ne _ _ _ (by omega)) hv (z2 _ _ (upd_same _ _ _)) (fun o' ho' => upd_ne _ _ _ (hother o' ho')) ?_)
    refine ⟨hs.put o y, s1, fun o' ho' => ?_, fun o' ho' => ?_, ?_⟩
    · rw [AH.get_put, if_neg (hother o' ho')]
      obtain ⟨d', q1, q2, q3, q4⟩ := ho'
      exact s2 o' ⟨d', q1, q3, q4⟩
    · rw [AH.get_put]
      split
      · rename_i e; rw [e]; exact ho.symm
      · rename_i e
        refine s3 o' fun ⟨d', q1, q2, q3⟩ => ?_
        by_cases hdd : d' = d
        · subst hdd; rw [ht] at q3; cases q3; exact e rfl
        · exact ho' ⟨d', q1, hdd, q2, q3⟩
    · exact s4.born y o obj ⟨w.heap.size, 0, E⟩ rfl (by omega) hρ (z3 _ _ (upd_ext hρ) (s4.K_none (Nat.le_refl _)))
end
end Go.Sh
end
section
namespace Go.Sh
open Go
section
variable {P : Program} {cx : Cx} {G : Nat → Bool} {nt : Nat} {ρ ρ' ρ0 : Rho} {env env' : Env} {a a2 : Act} {w0 : World} {K : Nat → Option Obj} {h h' : AH} {w w' : World} {v : AV} {x : Value}
  {ops : Array Oper} {listed : Array Bool} {pre rest rest' : List DOp} {done n0 : Nat} {log log' : List Lg} {tg tg' : Nat → Option Nat} {d : DOp}

theorem Inv.low (I : Inv cx G nt w0 K ops n0 ρ0 listed pre rest done log env h tg ρ a w) {d' : DOp} (e1 : d' ∈ pre) (e2 : listed.getD d'.i false = false) {o : Nat} (e3 : tg d'.i = some o) :
    o < h.next ∧ ρ o = none ∧ (⟨d'.i, o, true⟩ : Lg) ∈ log := by
  cases I.pend d' e1 e2 with
  | skip hw hv ht => rw [ht] at e3; cases e3
  | read v hw hr he hv ht hl => rw [ht] at e3; cases e3
  | birth x mk o' hw hb he hv ht ho hρ hlt hn hl => rw [ht] at e3; cases e3; exact ⟨hlt, hρ, hl⟩

/-- an operation that acts: in the chosen order and on the machine at once -/
theorem Inv.after (I : Inv cx G nt w0 K ops n0 ρ0 listed pre (d :: rest') done log env h tg ρ a w) (R : RegR ops) (hlt : d.i < listed.size)
    (hp : ∀ e ∈ d.o.after, bindsE e = true → listed.getD e.on false = true) (ht : a2.tmps = a.tmps) (hD : DefsOk cx a2) (hE : ExtN h.next ρ ρ') (hv : conc ρ' v = some x) (hn : h.next ≤ h'.next)
    (hread : ∀ d' ∈ pre, listed.getD d'.i false = false → ∀ ob, (⟨d'.i, ob, false⟩ : Lg) ∈ log → h.get ob ≠ .dead → h'.get ob = h.get ob)
    (hbirth : ∀ o, Hd pre listed tg o → h'.get o = h.get o)
    (hheap : ∃ hs' : AH, hs'.next = h'.next ∧ (∀ o, Hd pre listed tg o → hs'.get o = .dead) ∧ (∀ o, ¬ Hd pre listed tg o → hs'.get o = h'.get o) ∧ HR w0 K ρ' hs' w') :
    Inv cx G nt w0 K ops n0 ρ0 (listed.setIfInBounds d.i true) (pre ++ [d]) rest' (Nat.lor done (Nat.pow 2 d.i)) log (put env d.o.dst v) h' tg ρ' (a2.put d.o.dst x) w' := by
  obtain ⟨rd, hne, hun, _, hokc⟩ := I.fresh R rfl
  have hset := fun j => getD_set (listed := listed) (j := j) hlt
  have un : ∀ d' ∈ pre ++ [d], (listed.setIfInBounds d.i true).getD d'.i false = false → d' ∈ pre ∧ listed.getD d'.i false = false := fun d' e1 e2 => by
    rw [hset] at e2
    split at e2
    · cases e2
    · rename_i hne'
      rcases List.mem_append.1 e1 with e1 | e1
      · exact ⟨e1, e2⟩
      · simp at e1; subst e1; exact absurd rfl hne'
  have nu : ∀ d' ∈ pre, listed.getD d'.i false = false → (listed.setIfInBounds d.i true).getD d'.i false = false := fun d' e1 e2 => by
    rw [hset, if_neg (hne d' e1)]; exact e2
  have up : ∀ j, listed.getD j false = true → (listed.setIfInBounds d.i true).getD j false = true := fun j hj => by
    rw [hset]; split
    · rfl
    · exact hj
  refine ⟨by simpa using I.size, by rw [I.split]; simp, fun b => lor_done I.dn, hokc, fun j hj => ?_, fun d' hd' hl' e he hb => ?_, fun d' hd' b hb => ?_, fun d' hd' hn' => ?_,
    I.ext.trans hE I.nxt, by have := I.nxt; omega, ?_, I.glob.mono hE.ext, ?_, fun d' hd' hl' => ?_, fun d1 e1 d2 e2 l1 l2 o o1 o2 => ?_, ?_⟩
  · rw [hset] at hj
    split at hj
    · rename_i e; exact ⟨d, by simp, e.symm⟩
    · obtain ⟨d', e1, e2⟩ := I.sub j hj; exact ⟨d', List.mem_append_left _ e1, e2⟩
  · rcases List.mem_append.1 hd' with k | k
    · rw [hset, if_neg (hne d' k)] at hl'
      exact up _ (I.closed d' k hl' e he hb)
    · simp at k; subst k; exact up _ (hp e he hb)
  · rcases List.mem_append.1 hd' with k | k
    · obtain ⟨d2, e1, e2⟩ := I.rdy d' k b hb; exact ⟨d2, List.mem_append_left _ e1, e2⟩
    · simp at k; subst k
      obtain ⟨d2, e1, e2⟩ := (I.dn b).1 (ready_iff.1 rd b hb)
      exact ⟨d2, List.mem_append_left _ e1, e2⟩
  · rcases List.mem_append.1 hd' with k | k
    · exact up _ (I.eff d' k hn')
    · simp at k; subst k; rw [hset, if_pos rfl]
  · refine I.fr.put' hE.ext ht (fun t htd => by rw [htd, oTmp_put_same]; exact hv) (fun t htd hS hS0 => ?_) (fun t htd => oTmp_put htd)
    obtain ⟨d', e1, e2, e3⟩ := hS0
    exact hS ⟨d', List.mem_append_left _ e1, nu d' e1 e2, e3⟩
  · intro df hdf
    have : (a2.put d.o.dst x).defers = a2.defers := by cases d.o.dst <;> rfl
    rw [this] at hdf
    exact hD df hdf
  · obtain ⟨u1, u2⟩ := un d' hd' hl'
    obtain ⟨p1, p2, p3⟩ := I.pre_env R u1 (.inr (by
      cases hb : d.m.testBit d'.i with
      | false => rfl
      | true => have := I.bits (show d ∈ pre ++ d :: rest' by simp) hp _ hb; rw [u2] at this; cases this)) v
    exact (I.pend d' u1 u2).step p1 p2 p3 (fun _ h => h) rfl (fun _ hlog ob hob hne' => hread d' u1 u2 ob (hlog ob hob) hne') (fun o ho _ hlt' => ⟨hbirth o ⟨d', u1, u2, ho⟩, hE.old o hlt'⟩) hn
  · obtain ⟨u1, u2⟩ := un d1 e1 l1
    obtain ⟨u3, u4⟩ := un d2 e2 l2
    exact I.apart d1 u1 d2 u3 u2 u4 o o1 o2
  · obtain ⟨hs', k1, k2, k3, k4⟩ := hheap
    refine ⟨hs', k1, fun o ⟨d', e1, e2, e3⟩ => ?_, fun o hn' => k3 o fun ⟨d', e1, e2, e3⟩ => hn' ⟨d', List.mem_append_left _ e1, nu d' e1 e2, e3⟩, k4⟩
    obtain ⟨u1, u2⟩ := un d' e1 e2
    exact k2 o ⟨d', u1, u2, e3⟩

theorem hide_all (h : AH) : ∀ l : List Nat, ∃ h' : AH, h'.next = h.next ∧ ∀ o, (o ∈ l → h'.get o = .dead) ∧ (o ∉ l → h'.get o = h.get o)
  | [] => ⟨h, rfl, fun o => ⟨fun e => (by cases e), fun _ => rfl⟩⟩
  | u :: l => by
    obtain ⟨h', h1, h2⟩ := hide_all h l
    refine ⟨h'.put u .dead, h1, fun o => ⟨fun hm => ?_, fun hn => ?_⟩⟩
    · rw [AH.get_put]
      split
      · rfl
      · rename_i e; exact (h2 o).1 ((List.mem_cons.1 hm).resolve_left e)
    · rw [AH.get_put, if_neg fun e => hn (by rw [e]; exact List.mem_cons_self ..)]
      exact (h2 o).2 fun hm => hn (List.mem_cons_of_mem _ hm)
theorem hide_Hd (h : AH) (pre : List DOp) (listed : Array Bool) (tg : Nat → Option Nat) : ∃ h' : AH, h'.next = h.next ∧ (∀ o, Hd pre listed tg o → h'.get o = .dead) ∧ (∀ o, ¬ Hd pre listed tg o → h'.get o = h.get o) := by
  obtain ⟨h', h1, h2⟩ := hide_all h (pre.filterMap fun d => if listed.getD d.i false then none else tg d.i)
  have hm : ∀ o, o ∈ (pre.filterMap fun d => if listed.getD d.i false then none else tg d.i) ↔ Hd pre listed tg o := fun o => by
    simp only [List.mem_filterMap]
    constructor
    · rintro ⟨d', k1, k2⟩
      split at k2
      · cases k2
      · rename_i k3; exact ⟨d', k1, by simpa using k3, k2⟩
    · rintro ⟨d', k1, k2, k3⟩
      exact ⟨d', k1, by rw [k2]; simpa using k3⟩
  exact ⟨h', h1, fun o ho => (h2 o).1 ((hm o).2 ho), fun o ho => (h2 o).2 fun k => ho ((hm o).1 k)⟩

theorem Inv.effect (I : Inv cx G nt w0 K ops n0 ρ0 listed pre (d :: rest') done log env h tg ρ a w) (R : RegR ops) (F : TabR P cx G w0) (hnt : ∀ o ∈ ops, okD G nt o = true) {n : Nat} (SC : SoundCall P cx G w0 n)
    (he : d.e = false) (hg : ¬ (ev cx (n + 1) (.dops ops (d :: rest') log) env h).bad) (hlt : d.i < listed.size)
    (hp : ∀ e ∈ d.o.after, bindsE e = true → listed.getD e.on false = true) {K' : Act → World → Prop} {Q : Exit → Act → World → Prop}
    (hK : ∀ env' h' ρ' a' w', Inv cx G nt w0 K ops n0 ρ0 (listed.setIfInBounds d.i true) (pre ++ [d]) rest' (Nat.lor done (Nat.pow 2 d.i)) log env' h' tg ρ' a' w' →
      ev cx (n + 1) (.dops ops (d :: rest') log) env h = ev cx n (.dops ops rest' log) env' h' → K' a' w') : wpOp P ops Q d.i K' a w := by
  have hmem : d ∈ pre ++ d :: rest' := by simp
  obtain ⟨l, m1, m2, m3, m4⟩ := I.mask R hmem hp hnt
  have hop := (I.all hmem).2
  have hokd : okO G nt d.o.op = true := by
    have := hnt d.o (Array.mem_of_getElem? hop)
    unfold okD at this
    simp only [Bool.and_eq_true] at this
    exact this.1
  have hbits := I.bits hmem hp
  obtain ⟨hs, s1, s2, s3, s4⟩ := I.heap
  have ev1 : ev cx (n + 1) (.dops ops (d :: rest') log) env h = stepDO cx (ev cx n) ops rest' log d env h := rfl
  unfold wpOp
  rw [hop]
  simp only
  rw [← m4]
  rw [ev1] at hg hK
  unfold stepDO at hg hK
  cases hw : wantedA ops env d.o.guard with
  | false =>
    rw [hw] at hK
    simp only [Bool.false_eq_true, if_false]
    exact hK (put env d.o.dst (.tup [])) h ρ _ w (I.after R hlt hp rfl I.defs (ExtN.refl _ _) (conc_undef _) (Nat.le_refl _) (fun _ _ _ _ _ _ => rfl) (fun _ _ => rfl) ⟨hs, s1, s2, s3, s4⟩) rfl
  | true =>
    rw [hw, he] at hg hK
    simp only [if_true]
    refine .inl ?_
    cases hlk : lockL d.m log h [] with
    | mk hl sv =>
      have hg : ¬ (outD cx (ev cx n) ops rest' log d.o.dst (lockL d.m log h []).2 d.o.pos env (execO d.o.op cx env (lockL d.m log h []).1) (lockL d.m log h []).1).bad := hg
      have hK : ∀ env' h' ρ' a' w', Inv cx G nt w0 K ops n0 ρ0 (listed.setIfInBounds d.i true) (pre ++ [d]) rest' (Nat.lor done (Nat.pow 2 d.i)) log env' h' tg ρ' a' w' →
        outD cx (ev cx n) ops rest' log d.o.dst (lockL d.m log h []).2 d.o.pos env (execO d.o.op cx env (lockL d.m log h []).1) (lockL d.m log h []).1 = ev cx n (.dops ops rest' log) env' h' → K' a' w' := hK
      rw [hlk] at hg hK
      obtain ⟨v, h1, c1, c2⟩ := outD_inv hg
      rw [c2] at hK
      obtain ⟨D, L1, _, L3⟩ := lockL_ok d.m h log h [] _ (LockR.nil h)
      rw [hlk] at L1 L3
      have L1 : LockR h hl sv D := L1
      have L3 : ∀ e ∈ log, Nat.testBit d.m e.i = false → ¬ Owns (hl.get e.o) ∧ (e.hide = true → D e.o ∧ hl.get e.o = .dead) := L3
      -- what is not surely ahead is locked
      have notahead : ∀ d' ∈ pre, listed.getD d'.i false = false → Nat.testBit d.m d'.i = false := fun d' e1 e2 => by
        cases hb : Nat.testBit d.m d'.i with
        | false => rfl
        | true => have := hbits _ hb; rw [e2] at this; cases this
      have hidD : ∀ o, Hd pre listed tg o → D o ∧ hl.get o = .dead := fun o ⟨d', e1, e2, e3⟩ =>
        (L3 _ (I.low e1 e2 e3).2.2 (notahead d' e1 e2)).2 rfl
      have off : ∀ o, ¬ D o → hl.get o = hs.get o := fun o hd => by
        rw [L1.off o hd, s3 o fun k => hd (hidD o k).1]
      have dim : ∀ o, D o → ¬ Owns (hl.get o) ∧ Dim (hs.get o) (hl.get o) := fun o hd => by
        obtain ⟨d1, d2⟩ := L1.dim o hd
        refine ⟨d1, ?_⟩
        by_cases hh : Hd pre listed tg o
        · exact .inl (hidD o hh).2
        · rw [s3 o hh]; exact d2
      have hnx : hl.next = hs.next := by rw [L1.next, s1]
      have HL := s4.lock hnx off dim
      have hopr := exec_ok (P := P) F.ty F.eqt m1 I.glob HL hokd
      rw [execO_env m2] at hopr
      have hsel : ∀ cs b, d.o.op ≠ .select cs b := fun cs b e => by
        rw [e] at c1
        cases c1
      rw [m3 hsel] at hopr
      have Pr : Pres hl h1 := c1.pres (ev_pres cx n) fun v' h' e => exec_pres e
      refine op_wp F SC I.glob HL hopr c1 fun ρ' x w' a2 t1 t2 t3 t4 t5 => ?_
      obtain ⟨b1, b2, b3⟩ := L1.back h1
      obtain ⟨hs2, g1, g2, g3⟩ := hide_Hd (unlockL sv h1) pre listed tg
      have hhl : hl.next = h.next := L1.next
      have lowalive : ∀ ob, h.get ob ≠ .dead → ob < h.next := fun ob hne => by
        rcases Nat.lt_or_ge ob h.next with k | k
        · exact k
        · exfalso
          by_cases hh : Hd pre listed tg ob
          · obtain ⟨d', e1, e2, e3⟩ := hh
            have := (I.low e1 e2 e3).1
            omega
          · have := (s4.fresh ob (by omega)).2
            rw [s3 ob hh] at this
            exact hne this
      refine hK (put env d.o.dst v) (unlockL sv h1) ρ' _ w' (I.after R hlt hp t1 (t2 I.defs) (by rw [← hhl]; exact t3) t4 (by rw [b1, ← hhl]; exact Pr.next) (fun d' e1 e2 ob hlog hne => ?_) (fun o ho => b2 o (hidD o ho).1) ⟨hs2, g1, g2, g3, ?_⟩) rfl
      · by_cases hd : D ob
        · exact b2 ob hd
        · have no := (L3 _ hlog (notahead d' e1 e2)).1
          have no : ¬ Owns (hl.get ob) := no
          rw [b3 ob hd, Pr.keep ob (by rw [hhl]; exact lowalive ob hne) no, L1.off ob hd]
      · refine s4.unlock hnx off t5 t3.ext Pr (by rw [g1, b1]) (fun o hd => ?_) (fun o hd => ?_)
        · by_cases hh : Hd pre listed tg o
          · rw [g2 o hh, s2 o hh]
          · rw [g3 o hh, b2 o hd, s3 o hh]
        · have hh : ¬ Hd pre listed tg o := fun k => hd (hidD o k).1
          rw [g3 o hh, b3 o hd]

/-! ### the whole region -/
def unl (ops : Array Oper) (listed : Array Bool) : Nat := ((List.range ops.size).filter fun i => !listed.getD i true).length
theorem filter_one {p q : Nat → Bool} {i : Nat} : ∀ {l : List Nat}, l.Nodup → i ∈ l → p i = true → q i = false → (∀ j, j ≠ i → q j = p j) → (l.filter q).length + 1 = (l.filter p).length
  | [], _, h, _, _, _ => by cases h
  | j :: l, hn, hm, hp, hq, he => by
    rw [List.nodup_cons] at hn
    by_cases hj : j = i
    · subst hj
      rw [List.filter_cons_of_pos hp, List.filter_cons_of_neg (by rw [hq]; simp)]
      have : l.filter q = l.filter p := List.filter_congr fun k hk => he k fun e => hn.1 (e ▸ hk)
      rw [this]; rfl
    · have hm' : i ∈ l := (List.mem_cons.1 hm).resolve_left fun e => hj e.symm
      have ih := filter_one hn.2 hm' hp hq he
      cases hpj : p j with
      | true => rw [List.filter_cons_of_pos hpj, List.filter_cons_of_pos (by rw [he j hj]; exact hpj)]; simp; omega
      | false => rw [List.filter_cons_of_neg (p := p) (by simp [hpj]), List.filter_cons_of_neg (p := q) (by rw [he j hj]; simp [hpj])]; exact ih
theorem unl_set {i : Nat} (hi : i < ops.size) (hl : listed.getD i true = false) : unl ops (listed.setIfInBounds i true) + 1 = unl ops listed := by
  unfold unl
  refine filter_one List.nodup_range (List.mem_range.2 hi) (by rw [hl]; rfl) ?_ fun j hj => ?_
  · have := (getD_false hl).2
    simp [this]
  · rw [getD_set_ne true (Ne.symm hj)]

/-- where the chosen order has come to an end, or the machine may do what it has not done yet -/
theorem Inv.stuck (I : Inv cx G nt w0 K ops n0 ρ0 listed pre rest done log env h tg ρ a w) (R : RegR ops) (hr : Region.ready .any ops listed = []) : ∀ d ∈ canon ops, listed.getD d.i false = true := by
  -- the first one of the order that is not done could be done
  have key : ∀ (l2 l1 : List DOp) (dn : Nat), canon ops = l1 ++ l2 → (∀ b, dn.testBit b = true ↔ ∃ d ∈ l1, d.i = b) → okCanon dn l2 = true → (∀ d ∈ l1, listed.getD d.i false = true) → ∀ d ∈ l1 ++ l2, listed.getD d.i false = true := by
    intro l2
    induction l2 with
    | nil => intro l1 dn _ _ _ h d hd; exact h d (by simpa using hd)
    | cons e l2 ih =>
      intro l1 dn hc hdn hok hall d hd
      obtain ⟨c1, c2, c3, c4⟩ := okCanon_cons hok
      have hmem : e ∈ allD ops := canon_mem (by rw [hc]; simp)
      have hop := (allD_ok hmem).1
      have hsz : e.i < ops.size := (Array.getElem?_eq_some_iff.1 hop).1
      have he : listed.getD e.i false = true := by
        cases hl : listed.getD e.i false with
        | true => rfl
        | false =>
          exfalso
          have hlt : e.i < listed.size := by rw [I.size]; exact hsz
          have : e.i ∈ Region.ready .any ops listed := by
            rw [mem_ready]
            refine ⟨by simp [hlt] at hl ⊢; exact hl, e.o, hop, fun ed hed hb => ?_⟩
            rw [binds_eq] at hb
            have := (allD_ok hmem).2.one ed hed hb
            obtain ⟨d', k1, k2⟩ := (hdn _).1 (ready_iff.1 c1 _ this)
            rw [← k2]; exact hall d' k1
          rw [hr] at this
          cases this
      have := ih (l1 ++ [e]) _ (by rw [hc]; simp) (fun b => lor_done hdn) c4 (fun d' hd' => by
        rcases List.mem_append.1 hd' with k | k
        · exact hall d' k
        · simp at k; subst k; exact he) d (by simpa using hd)
      exact this
  intro d hd
  exact key (canon ops) [] 0 rfl (fun b => by simp) R.chain (fun d hd => by cases hd) d (by simpa using hd)

theorem region_ok (Rg : RegR ops) (F : TabR P cx G w0) (hnt : ∀ o ∈ ops, okD G nt o = true) {N : Nat} (SC : ∀ m, m < N → SoundCall P cx G w0 m) {Q : Exit → Act → World → Prop} {r : R}
    (hQ : ∀ env' h' ρ' a' w', r = .norm env' h' → ExtN n0 ρ0 ρ' → n0 ≤ h'.next → EnvR nt ρ' env' a' → DefsOk cx a' → HR w0 K ρ' h' w' → Q .normal a' w') :
    ∀ (fuel : Nat) (listed : Array Bool) (a : Act) (w : World) (n : Nat) (pre rest : List DOp) (done : Nat) (log : List Lg) (env : Env) (h : AH) (tg : Nat → Option Nat) (ρ : Rho),
      n ≤ N → unl ops listed = fuel → Inv cx G nt w0 K ops n0 ρ0 listed pre rest done log env h tg ρ a w → ev cx n (.dops ops rest log) env h = r → ¬ r.bad → wpAny P .any ops Q fuel listed a w := by
  -- the end
  have fin : ∀ (rest : List DOp) (listed : Array Bool) (a : Act) (w : World) (n : Nat) (pre : List DOp) (done : Nat) (log : List Lg) (env : Env) (h : AH) (tg : Nat → Option Nat) (ρ : Rho),
      Inv cx G nt w0 K ops n0 ρ0 listed pre rest done log env h tg ρ a w → ev cx n (.dops ops rest log) env h = r → ¬ r.bad → (∀ d ∈ canon ops, listed.getD d.i false = true) → Q .normal a w := by
    intro rest listed a w n pre done log env h tg ρ I hev hb hall
    cases rest with
    | cons d rest' =>
      obtain ⟨_, hne, hun, _, _⟩ := I.fresh Rg rfl
      rw [hall d (by rw [I.split]; simp)] at hun
      cases hun
    | nil =>
      cases n with
      | zero => exact absurd ⟨_, hev.symm⟩ hb
      | succ n =>
        have hev : R.norm env h = r := hev
        have hno : ∀ d ∈ pre, listed.getD d.i false = true := fun d hd => hall d (by rw [I.split]; exact List.mem_append_left _ hd)
        obtain ⟨hs, s1, s2, s3, s4⟩ := I.heap
        refine hQ env h ρ a w hev.symm I.ext I.nxt ⟨I.fr.size, fun t ht => I.fr.slot t ht fun ⟨d', e1, e2, _⟩ => ?_⟩ I.defs (s4.congr s1.symm fun o => (s3 o fun ⟨d', e1, e2, _⟩ => ?_).symm)
        · rw [hno d' e1] at e2; cases e2
        · rw [hno d' e1] at e2; cases e2
  -- the chosen order goes on till the machine's operation has come
  have adv : ∀ (rest pre : List DOp) (listed : Array Bool) (a : Act) (w : World) (n done : Nat) (log : List Lg) (env : Env) (h : AH) (tg : Nat → Option Nat) (ρ : Rho) (j : Nat),
      Inv cx G nt w0 K ops n0 ρ0 listed pre rest done log env h tg ρ a w → ev cx n (.dops ops rest log) env h = r → ¬ r.bad → j ∈ Region.ready .any ops listed →
      ∃ n' pre' rest' done' log' env' h' tg', n' ≤ n ∧ Inv cx G nt w0 K ops n0 ρ0 listed pre' rest' done' log' env' h' tg' ρ a w ∧ ev cx n' (.dops ops rest' log') env' h' = r ∧
        ((∃ d ∈ pre', d.i = j) ∨ ∃ d rest'', rest' = d :: rest'' ∧ d.i = j ∧ d.e = false) := by
    intro rest
    induction rest with
    | nil =>
      intro pre listed a w n done log env h tg ρ j I hev hb hj
      refine ⟨n, pre, [], done, log, env, h, tg, Nat.le_refl _, I, hev, .inl ?_⟩
      obtain ⟨_, o, ho, _⟩ := mem_ready.1 hj
      obtain ⟨d, d1, d2⟩ := Rg.cover j (Array.getElem?_eq_some_iff.1 ho).1
      rw [I.split, List.append_nil] at d1
      exact ⟨d, d1, d2⟩
    | cons d rest' ih =>
      intro pre listed a w n done log env h tg ρ j I hev hb hj
      by_cases hpre : ∃ d ∈ pre, d.i = j
      · exact ⟨n, pre, d :: rest', done, log, env, h, tg, Nat.le_refl _, I, hev, .inl hpre⟩
      · cases n with
        | zero => exact absurd ⟨_, hev.symm⟩ hb
        | succ n =>
          cases he : d.e with
          | true =>
            obtain ⟨log', env', h', tg', I', e'⟩ := I.early Rg he (n := n) (by rw [hev]; exact hb)
            obtain ⟨n', pre', rest2, done', log2, env2, h2, tg2, k1, k2, k3, k4⟩ := ih (pre ++ [d]) listed a w n _ log' env' h' tg' ρ j I' (by rw [← e', hev]) hb hj
            exact ⟨n', pre', rest2, done', log2, env2, h2, tg2, by omega, k2, k3, k4⟩
          | false =>
            refine ⟨n + 1, pre, d :: rest', done, log, env, h, tg, Nat.le_refl _, I, hev, .inr ⟨d, rest', rfl, ?_, he⟩⟩
            obtain ⟨_, _, _, hall, _⟩ := I.fresh Rg rfl
            have hall := hall.resolve_left (by rw [he]; simp)
            obtain ⟨_, o, ho, hpr⟩ := mem_ready.1 hj
            obtain ⟨dj, d1, d2⟩ := Rg.cover j (Array.getElem?_eq_some_iff.1 ho).1
            rw [I.split] at d1
            have hdo : ops[dj.i]? = some dj.o := (I.all d1).2
            rw [d2, ho] at hdo
            cases hdo
            rcases List.mem_append.1 d1 with k | k
            · exact absurd ⟨dj, k, d2⟩ hpre
            · rcases List.mem_cons.1 k with k | k
              · rw [← k]; exact d2
              · have := hall dj k
                have hrd : ready dj done = true := ready_iff.2 fun b hb' => by
                  have := I.bits d1 (fun e he hb => hpr e he (by rw [binds_eq]; exact hb)) b hb'
                  obtain ⟨d3, q1, q2⟩ := I.sub b this
                  exact (I.dn b).2 ⟨d3, q1, q2⟩
                rw [hrd] at this; cases this
  intro fuel
  induction fuel with
  | zero =>
    intro listed a w n pre rest done log env h tg ρ hn hu I hev hb
    have hr : Region.ready .any ops listed = [] := by
      unfold unl at hu
      have h0 : (List.range ops.size).filter (fun i => !listed.getD i true) = [] := List.length_eq_zero_iff.1 hu
      rw [List.eq_nil_iff_forall_not_mem]
      intro j hj
      obtain ⟨h1, o, ho, _⟩ := mem_ready.1 hj
      have : j ∈ (List.range ops.size).filter (fun i => !listed.getD i true) := List.mem_filter.2 ⟨List.mem_range.2 (Array.getElem?_eq_some_iff.1 ho).1, by rw [h1]; rfl⟩
      rw [h0] at this
      cases this
    exact ⟨hr, fin rest listed a w n pre done log env h tg ρ I hev hb (I.stuck Rg hr)⟩
  | succ fuel ih =>
    intro listed a w n pre rest done log env h tg ρ hn hu I hev hb
    refine ⟨fun hr => fin rest listed a w n pre done log env h tg ρ I hev hb (I.stuck Rg hr), fun j hj => ?_⟩
    obtain ⟨hl, o, ho, hpr⟩ := mem_ready.1 hj
    obtain ⟨hl0, hlt⟩ := getD_false hl
    have hsz : j < ops.size := (Array.getElem?_eq_some_iff.1 ho).1
    have hu' := unl_set hsz hl
    obtain ⟨n', pre', rest', done', log', env', h', tg', k1, I', hev', k4⟩ := adv rest pre listed a w n done log env h tg ρ j I hev hb hj
    rcases k4 with ⟨d, d1, d2⟩ | ⟨d, rest2, d0, d2, d3⟩
    · subst d2
      have hdo := (I'.all (List.mem_append_left _ d1)).2
      rw [ho] at hdo; cases hdo
      refine I'.fire Rg F hnt d1 hl0 hlt (fun e he hb' => hpr e he (by rw [binds_eq]; exact hb')) fun tg2 ρ' a' w' I2 => ?_
      exact ih _ a' w' n' pre' rest' done' log' env' h' tg2 ρ' (by omega) (by omega) I2 hev' hb
    · subst d0; subst d2
      have hdo := (I'.all (show d ∈ pre' ++ d :: rest2 by simp)).2
      rw [ho] at hdo; cases hdo
      cases n' with
      | zero => exact absurd ⟨_, hev'.symm⟩ hb
      | succ n' =>
        refine I'.effect Rg F hnt (SC n' (by omega)) d3 (by rw [hev']; exact hb) hlt (fun e he hb' => hpr e he (by rw [binds_eq]; exact hb')) fun env2 h2 ρ' a' w' I2 e2 => ?_
        exact ih _ a' w' n' (pre' ++ [d]) rest2 _ log' env2 h2 tg' ρ' (by omega) (by omega) I2 (by rw [← e2]; exact hev') hb
end
end Go.Sh
end
section
namespace Go.Sh
open Go
section
variable {P : Program} {cx : Cx} {G : Nat → Bool} {nt : Nat} {ρ ρ' ρ0 : Rho} {env env' : Env} {a a2 : Act} {w0 : World} {K : Nat → Option Obj} {h h' : AH} {w w' : World} {v : AV} {x : Value}

structure St (cx : Cx) (nt : Nat) (w0 : World) (K : Nat → Option Obj) (ρ : Rho) (h : AH) (env' : Env) (h' : AH) (ρ' : Rho) (a' : Act) (w' : World) : Prop where
  ext : ExtN h.next ρ ρ'
  env : EnvR nt ρ' env' a'
  defs : DefsOk cx a'
  heap : HR w0 K ρ' h' w'
theorem St.trans {h1 : AH} {ρ1 : Rho} {env2 : Env} {h2 : AH} {ρ2 : Rho} {a2 : Act} {w2 : World} (s : ExtN h.next ρ ρ1) (hn : h.next ≤ h1.next) (t : St cx nt w0 K ρ1 h1 env2 h2 ρ2 a2 w2) : St cx nt w0 K ρ h env2 h2 ρ2 a2 w2 :=
  ⟨s.trans t.ext hn, t.env, t.defs, t.heap⟩

theorem gTmp_lt {all : Array Oper} (hall : ∀ o ∈ all, okD G nt o = true) {g : Option (Nat × Bool)} {u : Nat} (hu : gTmp all g = some u) : u < nt := by
  unfold gTmp at hu
  split at hu
  · rename_i j b
    cases ho : all[j]? with
    | none => rw [ho] at hu; cases hu
    | some o =>
      rw [ho] at hu
      have hu : o.dst = some u := hu
      have := hall o (Array.mem_of_getElem? ho)
      unfold okD at this
      rw [hu] at this
      simp only [Bool.and_eq_true, Nat.blt_eq] at this
      exact this.2
  · cases hu
theorem okD_op {o : Oper} (h : okD G nt o = true) : okO G nt o.op = true := by
  unfold okD at h
  simp only [Bool.and_eq_true] at h
  exact h.1

theorem ops_ok (F : TabR P cx G w0) : ∀ (n : Nat), (∀ m, m < n → SoundCall P cx G w0 m) → ∀ (nt : Nat) (all : Array Oper) (l : List Oper) (env : Env) (h : AH) (K : Nat → Option Obj) (ρ : Rho) (a : Act) (w : World) (Q : Exit → Act → World → Prop),
    (∀ o ∈ all, okD G nt o = true) → (∀ o ∈ l, okD G nt o = true) → EnvR nt ρ env a → GlobR G ρ → DefsOk cx a → HR w0 K ρ h w → ¬ (ev cx n (.ops all l) env h).bad →
    (∀ env' h' ρ' a' w', ev cx n (.ops all l) env h = .norm env' h' → St cx nt w0 K ρ h env' h' ρ' a' w' → Q .normal a' w') → wpList P all Q l a w
  := by
  intro n
  induction n with
  | zero => intro SC nt all l env h K ρ a w Q _ _ _ _ _ _ hb _; exact absurd ⟨_, rfl⟩ hb
  | succ n ih =>
    intro SC nt all l env h K ρ a w Q hall hl hE hG hD H hb hQ
    cases l with
    | nil => exact hQ env h ρ a w rfl ⟨ExtN.refl _ _, hE, hD, H⟩
    | cons o rest =>
      have e0 : ev cx (n + 1) (.ops all (o :: rest)) env h = ifB (wantedA all env o.guard) (stepOut cx (ev cx n) all rest o.dst o.pos env h (execO o.op cx env h)) (ev cx n (.ops all rest) (put env o.dst (.tup [])) h) := rfl
      rw [e0] at hb hQ
      have hw := wanted_ok (ops := all) (o := o) (env := env) (a := a) (ρ := ρ) fun u hu => hE.slot u (gTmp_lt hall hu)
      have hrest : ∀ o' ∈ rest, okD G nt o' = true := fun o' ho' => hl o' (List.mem_cons_of_mem _ ho')
      unfold wpList
      rw [← hw]
      cases hwv : wantedA all env o.guard with
      | false =>
        rw [hwv] at hb hQ
        simp only [Bool.false_eq_true, if_false]
        refine ih (fun m hm => SC m (by omega)) nt all rest _ h K ρ _ w Q hall hrest (hE.put (conc_undef _)) hG ?_ H hb hQ
        intro d hd
        have : (a.put o.dst undef).defers = a.defers := by cases o.dst <;> rfl
        rw [this] at hd; exact hD d hd
      | true =>
        rw [hwv] at hb hQ
        simp only [if_true]
        refine .inl ?_
        have hb : ¬ (stepOut cx (ev cx n) all rest o.dst o.pos env h (execO o.op cx env h)).bad := hb
        have hQ : ∀ env' h' ρ' a' w', stepOut cx (ev cx n) all rest o.dst o.pos env h (execO o.op cx env h) = .norm env' h' → St cx nt w0 K ρ h env' h' ρ' a' w' → Q .normal a' w' := hQ
        obtain ⟨v, h1, c1, c2⟩ := stepOut_inv hb
        rw [c2] at hb hQ
        have Pr : Pres h h1 := c1.pres (ev_pres cx n) fun v' h' e => exec_pres e
        refine op_wp F (SC n (by omega)) hG H (exec_ok (P := P) F.ty F.eqt hE hG H (okD_op (hl o (List.mem_cons_self ..)))) c1 fun ρ' x w' a2 t1 t2 t3 t4 t5 => ?_
        refine ih (fun m hm => SC m (by omega)) nt all rest _ h1 K ρ' _ w' Q hall hrest ?_ (hG.mono t3.ext) ?_ t5 hb fun env' h' ρ2 a' w2 e s => hQ env' h' ρ2 a' w2 e (s.trans t3 Pr.next)
        · have h2 : EnvR nt ρ' env a2 := ⟨by rw [t1]; exact hE.size, fun t ht => by rw [t1]; exact conc_mono t3.ext _ _ (hE.slot t ht)⟩
          exact h2.put t4
        · intro d hd
          have : (a2.put o.dst x).defers = a2.defers := by cases o.dst <;> rfl
          rw [this] at hd; exact t2 hD d hd

structure Post (cx : Cx) (nt : Nat) (w0 : World) (K : Nat → Option Obj) (ρ : Rho) (h : AH) (r : R) (Q : Exit → Act → World → Prop) : Prop where
  norm : ∀ env' h' ρ' a' w', r = .norm env' h' → St cx nt w0 K ρ h env' h' ρ' a' w' → Q .normal a' w'
  ret : ∀ env' h' ρ' a' w', r = .ret env' h' → St cx nt w0 K ρ h env' h' ρ' a' w' → Q .ret a' w'
  exit : ∀ id env' h' ρ' a' w', r = .exit id env' h' → St cx nt w0 K ρ h env' h' ρ' a' w' → Q (.exit id) a' w'

theorem unl_all (ops : Array Oper) : unl ops (Array.replicate ops.size false) = ops.size := by
  unfold unl
  rw [List.filter_eq_self.2]
  · simp
  · intro i hi
    have := List.mem_range.1 hi
    simp [this]

end
end Go.Sh
end
section
namespace Go.Sh
open Go
section
variable {P : Program} {cx : Cx} {G : Nat → Bool} {nt : Nat} {ρ ρ' ρ0 : Rho} {env env' : Env} {a a2 : Act} {w0 : World} {K : Nat → Option Obj} {h h' : AH} {w w' : World} {v : AV} {x : Value}

theorem code_ok (F : TabR P cx G w0) : ∀ (n : Nat), (∀ m, m < n → SoundCall P cx G w0 m) → ∀ (nt : Nat) (c : Code) (env : Env) (h : AH) (K : Nat → Option Obj) (ρ : Rho) (a : Act) (w : World) (Q : Exit → Act → World → Prop),
    okC G nt c = true → EnvR nt ρ env a → GlobR G ρ → DefsOk cx a → HR w0 K ρ h w → ¬ (ev cx n (.code c) env h).bad → Post cx nt w0 K ρ h (ev cx n (.code c) env h) Q →
    c.wp P Q a w ∧ ∀ b, c = .loop b → Code.rounds P b Q n a w
  := by
  intro n
  induction n with
  | zero => intro SC nt c env h K ρ a w Q _ _ _ _ _ hb _; exact absurd ⟨_, rfl⟩ hb
  | succ n ih =>
    intro SC nt c env h K ρ a w Q hc hE hG hD H hb hQ
    have IH := ih (fun m hm => SC m (by omega)) nt
    have PR := ev_pres cx n
    cases c with
    | skip => exact ⟨wp_skip (hQ.norm env h ρ a w rfl ⟨ExtN.refl _ _, hE, hD, H⟩), fun b e => by cases e⟩
    | label l => exact ⟨wp_label (hQ.norm env h ρ a w rfl ⟨ExtN.refl _ _, hE, hD, H⟩), fun b e => by cases e⟩
    | exit id => exact ⟨wp_exit (hQ.exit id env h ρ a w rfl ⟨ExtN.refl _ _, hE, hD, H⟩), fun b e => by cases e⟩
    | ret => exact ⟨wp_ret (hQ.ret env h ρ a w rfl ⟨ExtN.refl _ _, hE, hD, H⟩), fun b e => by cases e⟩
    | rangeFunc f ps x y => exact absurd ⟨_, rfl⟩ hb
    | goto l => exact absurd ⟨_, rfl⟩ hb
    | refuse s => exact absurd ⟨_, rfl⟩ hb
    | region id ops draw =>
      refine ⟨?_, fun b e => by cases e⟩
      have hc : (ops.toList.all (okD G nt) && (!draw || okReg ops)) = true := hc
      simp only [Bool.and_eq_true, List.all_eq_true, Bool.or_eq_true, Bool.not_eq_true'] at hc
      obtain ⟨c1, c2⟩ := hc
      have hall : ∀ o ∈ ops, okD G nt o = true := fun o ho => c1 o (by simpa using ho)
      cases draw with
      | false =>
        have e0 : ev cx (n + 1) (.code (.region id ops false)) env h = ev cx n (.ops ops ops.toList) env h := rfl
        rw [e0] at hb hQ
        exact wp_region_list (ops_ok F n (fun m hm => SC m (by omega)) nt ops ops.toList env h K ρ a w Q hall c1 hE hG hD H hb fun env' h' ρ' a' w' e s => hQ.norm env' h' ρ' a' w' e s)
      | true =>
        have e0 : ev cx (n + 1) (.code (.region id ops true)) env h = ev cx n (.dops ops (canon ops) []) env h := rfl
        rw [e0] at hb hQ
        have R := okReg_ok (c2.resolve_left (by simp))
        refine wp_region_any F.mixed ?_
        refine region_ok (n0 := h.next) (ρ0 := ρ) (K := K) (nt := nt) R F hall (N := n) (fun m hm => SC m (by omega)) (r := ev cx n (.dops ops (canon ops) []) env h) (fun env' h' ρ' a' w' e h1 h2 h3 h4 h5 => hQ.norm env' h' ρ' a' w' e ⟨h1, h3, h4, h5⟩)
          ops.size (Array.replicate ops.size false) a _ n [] (canon ops) 0 [] env h (fun _ => none) ρ (Nat.le_refl _) (unl_all ops) ?_ rfl hb
        refine ⟨by simp, rfl, fun b => by simp, R.chain, fun i hi => ?_, fun d hd => (by cases hd), fun d hd => (by cases hd), fun d hd => (by cases hd), ExtN.refl _ _, Nat.le_refl _, ⟨hE.size, fun t ht _ => hE.slot t ht⟩, hG, hD, fun d hd => (by cases hd), fun d hd => (by cases hd),
          ⟨h, rfl, fun o ⟨d, hd, _⟩ => (by cases hd), fun _ _ => rfl, H.drew⟩⟩
        exfalso
        by_cases hlt : i < ops.size <;> simp [hlt] at hi
    | seq x y =>
      refine ⟨?_, fun b e => by cases e⟩
      have hc : (okC G nt x && okC G nt y) = true := hc
      simp only [Bool.and_eq_true] at hc
      have e0 : ev cx (n + 1) (.code (.seq x y)) env h = thenC (ev cx n) (.code y) (ev cx n (.code x) env h) := rfl
      rw [e0] at hb hQ
      cases hr : ev cx n (.code x) env h with
      | fail s => rw [hr] at hb; exact absurd ⟨_, rfl⟩ hb
      | norm env1 h1 =>
        rw [hr] at hb hQ
        have p1 := PR (.code x) env h env1 h1 0 (.inl hr)
        refine wp_seq (IH x env h K ρ a w _ hc.1 hE hG hD H (by rw [hr]; rintro ⟨s, e⟩; cases e) ?_).1
        rw [hr]
        refine ⟨fun env' h' ρ' a' w' e s => ?_, fun _ _ _ _ _ e => (by cases e), fun _ _ _ _ _ _ e => (by cases e)⟩
        cases e
        exact (IH y env1 h1 K ρ' a' w' Q hc.2 s.env (hG.mono s.ext.ext) s.defs s.heap hb ⟨fun env2 h2 ρ2 a2 w2 e2 s2 => hQ.norm env2 h2 ρ2 a2 w2 e2 (s2.trans s.ext p1.next), fun env2 h2 ρ2 a2 w2 e2 s2 => hQ.ret env2 h2 ρ2 a2 w2 e2 (s2.trans s.ext p1.next),
          fun id env2 h2 ρ2 a2 w2 e2 s2 => hQ.exit id env2 h2 ρ2 a2 w2 e2 (s2.trans s.ext p1.next)⟩).1
      | ret env1 h1 =>
        rw [hr] at hb hQ
        refine wp_seq (IH x env h K ρ a w _ hc.1 hE hG hD H (by rw [hr]; rintro ⟨s, e⟩; cases e) ?_).1
        rw [hr]
        exact ⟨fun _ _ _ _ _ e => (by cases e), fun env' h' ρ' a' w' e s => by cases e; exact hQ.ret _ _ ρ' a' w' rfl s, fun _ _ _ _ _ _ e => (by cases e)⟩
      | exit id env1 h1 =>
        rw [hr] at hb hQ
        refine wp_seq (IH x env h K ρ a w _ hc.1 hE hG hD H (by rw [hr]; rintro ⟨s, e⟩; cases e) ?_).1
        rw [hr]
        exact ⟨fun _ _ _ _ _ e => (by cases e), fun _ _ _ _ _ e => (by cases e), fun id' env' h' ρ' a' w' e s => by cases e; exact hQ.exit _ _ _ ρ' a' w' rfl s⟩
    | cond c t e =>
      refine ⟨?_, fun b e => by cases e⟩
      have hc : (okX G nt c && (okC G nt t && okC G nt e)) = true := hc
      simp only [Bool.and_eq_true] at hc
      have e0 : ev cx (n + 1) (.code (.cond c t e)) env h = stepCond (ev cx n) (opnd env c) t e env h := rfl
      rw [e0] at hb hQ
      have hcv := opnd_conc hE hG hc.1
      cases hov : opnd env c with
      | bool b =>
        rw [hov] at hb hQ hcv
        have hcv : a.eval c = .bool b := by simpa [conc] using hcv.symm
        cases b with
        | true => exact wp_cond_true hcv (IH t env h K ρ a w Q hc.2.1 hE hG hD H hb hQ).1
        | false => exact wp_cond_false hcv (IH e env h K ρ a w Q hc.2.2 hE hG hD H hb hQ).1
      | _ => rw [hov] at hb; exact absurd ⟨_, rfl⟩ hb
    | block id b =>
      refine ⟨?_, fun b e => by cases e⟩
      have hc : okC G nt b = true := hc
      have e0 : ev cx (n + 1) (.code (.block id b)) env h = unBlock id (ev cx n (.code b) env h) := rfl
      rw [e0] at hb hQ
      refine wp_block (IH b env h K ρ a w _ hc hE hG hD H ?_ ?_).1
      · rintro ⟨s, e⟩; rw [e] at hb; exact hb ⟨_, rfl⟩
      · refine ⟨fun env' h' ρ' a' w' e s => ?_, fun env' h' ρ' a' w' e s => ?_, fun id' env' h' ρ' a' w' e s => ?_⟩
        · rw [e] at hQ; exact hQ.norm env' h' ρ' a' w' rfl s
        · rw [e] at hQ; exact hQ.ret env' h' ρ' a' w' rfl s
        · rw [e] at hQ
          have hQ : Post cx nt w0 K ρ h (ifB (Nat.beq id id') (.norm env' h') (.exit id' env' h')) Q := hQ
          show (if id' = id then Q .normal a' w' else Q (.exit id') a' w')
          cases hbe : Nat.beq id id' with
          | true =>
            rw [hbe] at hQ
            rw [if_pos (Nat.eq_of_beq_eq_true hbe).symm]
            exact hQ.norm env' h' ρ' a' w' rfl s
          | false =>
            rw [hbe] at hQ
            rw [if_neg (fun e => by rw [e] at hbe; simp at hbe)]
            exact hQ.exit id' env' h' ρ' a' w' rfl s
    | scope b =>
      refine ⟨?_, fun b e => by cases e⟩
      have hc : okC G nt b = true := hc
      have e0 : ev cx (n + 1) (.code (.scope b)) env h = ev cx n (.code b) env h := rfl
      rw [e0] at hb hQ
      exact wp_scope_straight (IH b env h K ρ a w (Exit.noGoto Q) hc hE hG hD H hb ⟨fun env' h' ρ' a' w' e s => hQ.norm env' h' ρ' a' w' e s, fun env' h' ρ' a' w' e s => hQ.ret env' h' ρ' a' w' e s, fun id env' h' ρ' a' w' e s => hQ.exit id env' h' ρ' a' w' e s⟩).1
    | loop b =>
      have hc' : okC G nt b = true := hc
      have e0 : ev cx (n + 1) (.code (.loop b)) env h = thenC (ev cx n) (.code (.loop b)) (ev cx n (.code b) env h) := rfl
      rw [e0] at hb hQ
      have key : Code.rounds P b Q (n + 1) a w := by
        rw [rounds_succ]
        cases hr : ev cx n (.code b) env h with
        | fail s => rw [hr] at hb; exact absurd ⟨_, rfl⟩ hb
        | norm env1 h1 =>
          rw [hr] at hb hQ
          have p1 := PR (.code b) env h env1 h1 0 (.inl hr)
          refine (IH b env h K ρ a w _ hc' hE hG hD H (by rw [hr]; rintro ⟨s, e⟩; cases e) ?_).1
          rw [hr]
          refine ⟨fun env' h' ρ' a' w' e s => ?_, fun _ _ _ _ _ e => (by cases e), fun _ _ _ _ _ _ e => (by cases e)⟩
          cases e
          exact (IH (.loop b) env1 h1 K ρ' a' w' Q hc s.env (hG.mono s.ext.ext) s.defs s.heap hb ⟨fun env2 h2 ρ2 a2 w2 e2 s2 => hQ.norm env2 h2 ρ2 a2 w2 e2 (s2.trans s.ext p1.next), fun env2 h2 ρ2 a2 w2 e2 s2 => hQ.ret env2 h2 ρ2 a2 w2 e2 (s2.trans s.ext p1.next),
            fun id env2 h2 ρ2 a2 w2 e2 s2 => hQ.exit id env2 h2 ρ2 a2 w2 e2 (s2.trans s.ext p1.next)⟩).2 b rfl
        | ret env1 h1 =>
          rw [hr] at hb hQ
          refine (IH b env h K ρ a w _ hc' hE hG hD H (by rw [hr]; rintro ⟨s, e⟩; cases e) ?_).1
          rw [hr]
          exact ⟨fun _ _ _ _ _ e => (by cases e), fun env' h' ρ' a' w' e s => by cases e; exact hQ.ret _ _ ρ' a' w' rfl s, fun _ _ _ _ _ _ e => (by cases e)⟩
        | exit id env1 h1 =>
          rw [hr] at hb hQ
          refine (IH b env h K ρ a w _ hc' hE hG hD H (by rw [hr]; rintro ⟨s, e⟩; cases e) ?_).1
          rw [hr]
          exact ⟨fun _ _ _ _ _ e => (by cases e), fun _ _ _ _ _ e => (by cases e), fun id' env' h' ρ' a' w' e s => by cases e; exact hQ.exit _ _ _ ρ' a' w' rfl s⟩
      exact ⟨wp_loop_rounds _ key, fun b' e => by cases e; exact key⟩

end
end Go.Sh
end
section
namespace Go.Sh
open Go
section
variable {P : Program} {cx : Cx} {G : Nat → Bool} {nt : Nat} {ρ ρ' ρ0 : Rho} {env env' : Env} {a a2 : Act} {w0 : World} {K : Nat → Option Obj} {h h' : AH} {w w' : World} {v : AV} {x : Value}

/-! ### a call -/
theorem results_run : ∀ (rs : List ResultVar) (l : List AV), EnvR nt ρ env a → HR w0 K ρ h w → TysR P cx.ty → rs.all (okRes nt) = true → resL cx env h rs = some l →
    ∃ vs : List Value, concL ρ l = some vs ∧ ∀ f : ResultVar → Sem Value, (∀ t, f (.tmp t) = pure (a.tmps.getD t undef)) → (∀ p t, f (.cell p t) = do loadVar t (← asAddr (a.tmps.getD p undef))) → (rs.mapM f).run P w = .ok vs w
  | [], l, hE, H, T, hr, e => by
    cases e
    exact ⟨[], rfl, fun f _ _ => by simp⟩
  | r :: rs, l, hE, H, T, hr, e => by
    simp only [List.all_cons, Bool.and_eq_true] at hr
    have e : (match resV cx env h r with | none => none | some a => (match resL cx env h rs with | none => none | some l => some (a :: l))) = some l := e
    cases h1 : resV cx env h r with
    | none => rw [h1] at e; cases e
    | some x =>
      rw [h1] at e
      cases h2 : resL cx env h rs with
      | none => rw [h2] at e; cases e
      | some l2 =>
        rw [h2] at e
        cases e
        obtain ⟨vs, v1, v2⟩ := results_run rs l2 hE H T hr.2 h2
        have one : ∃ y, conc ρ x = some y ∧ ∀ f : ResultVar → Sem Value, (∀ t, f (.tmp t) = pure (a.tmps.getD t undef)) → (∀ p t, f (.cell p t) = do loadVar t (← asAddr (a.tmps.getD p undef))) → (f r).run P w = .ok y w := by
          cases r with
          | tmp t =>
            have ht : t < nt := by simpa [okRes, Nat.blt_eq] using hr.1
            cases h1
            exact ⟨_, hE.slot t ht, fun f f1 f2 => by rw [f1]; simp⟩
          | cell p t =>
            have ht : p < nt := by simpa [okRes, Nat.blt_eq] using hr.1
            have h1 : (match cx.ty.get t with | some d => loadA d h (oTmp p env) | none => none) = some x := h1
            cases hd : cx.ty.get t with
            | none => rw [hd] at h1; cases h1
            | some d =>
              rw [hd] at h1
              obtain ⟨y, y1, y2⟩ := loadA_ok (P := P) T H hd (hE.slot p ht) h1
              refine ⟨y, y1, fun f f1 f2 => ?_⟩
              -- the same load
              obtain ⟨o, i, ho, _⟩ := onPtr_some (show (oTmp p env).onPtr none _ = some x from h1)
              have hs := hE.slot p ht
              rw [ho] at hs
              cases hp : ρ o with
              | none => simp [conc, hp] at hs
              | some pl =>
                simp only [conc, hp, Option.some.injEq] at hs
                rw [f2, ← hs]
                rw [← hs] at y2
                simpa [Instr.loadAt, Instr.sureAddr, asAddr] using y2
        obtain ⟨y, y1, y2⟩ := one
        refine ⟨y :: vs, by simp [concL, y1, v1], fun f f1 f2 => ?_⟩
        rw [List.mapM_cons, Sem.run_bind, y2 f f1 f2]
        simp only [Result.andThen, Sem.run_bind]
        rw [v2 f f1 f2]
        rfl
theorem results_ok (T : TysR P cx.ty) (hE : EnvR nt ρ env a) (H : HR w0 K ρ h w) {fn : Func} {rs : List ResultVar} (hrs : fn.results.toList = rs) (hr : rs.all (okRes nt) = true) (e : resA cx env h rs = some v) :
    ∃ x, (results fn a.tmps).run P w = .ok x w ∧ conc ρ v = some x := by
  unfold resA at e
  split at e
  · cases e
  · rename_i l hl
    obtain ⟨vs, v1, v2⟩ := results_run (P := P) rs l hE H T hr hl
    have hres : fn.results = rs.toArray := by rw [← hrs]
    have hlen := concL_length v1
    unfold results
    rw [hres, List.mapM_toArray, Sem.run_bind, Sem.run_map, v2 _ (by intro t; rfl) (by intro p t; rfl)]
    split at e
    · rename_i y
      cases e
      obtain ⟨z, rfl, hz⟩ := concL_one v1
      exact ⟨z, by simp [Result.andThen], hz⟩
    · rename_i l' hne
      cases e
      have h1 : vs.toArray.size ≠ 1 := by
        intro e1
        have : l.length = 1 := by simp at e1; omega
        match l, this with
        | [y], _ => exact hne y rfl
      refine ⟨.tuple vs.toArray, ?_, by simp [conc, v1]⟩
      simp [Result.andThen] at h1 ⊢
      simp [h1]
end
end Go.Sh
end
section
namespace Go.Sh
open Go
section
variable {P : Program} {cx : Cx} {G : Nat → Bool} {nt : Nat} {ρ ρ' ρ0 : Rho} {env env' : Env} {a a2 : Act} {w0 : World} {K : Nat → Option Obj} {h h' : AH} {w w' : World} {v : AV} {x : Value}

theorem mkEnv_get : ∀ (l : List AV) (i : Nat) (env : Env) (t : Nat), oTmp t (mkEnv l i env) = if i ≤ t ∧ t < i + l.length then (l[t - i]?).getD (.tup []) else oTmp t env
  | [], i, env, t => by
    show oTmp t env = _
    rw [if_neg (fun e => by simp at e; omega)]
  | y :: l, i, env, t => by
    show oTmp t (mkEnv l (i + 1) (env.set i y)) = _
    rw [mkEnv_get l (i + 1) _ t, oTmp_set]
    simp only [List.length_cons]
    by_cases h1 : i + 1 ≤ t ∧ t < i + 1 + l.length
    · rw [if_pos h1, if_pos (by omega), show t - i = (t - (i + 1)) + 1 by omega, List.getElem?_cons_succ]
    · rw [if_neg h1]
      by_cases h2 : t = i
      · subst h2
        rw [if_pos rfl, if_pos (by omega)]
        simp
      · rw [if_neg h2, if_neg (by omega)]

theorem leaves_all (F : TabR P cx G w0) {fn : Func} {tmps : Array Value} {Rr : Ending → World → Prop} : ∀ (ds : List Deferred) (w : World), (∀ d ∈ ds, DefOk cx d) → HR w0 K ρ h w →
    (∀ w', HR w0 K ρ h w' → ∃ v, (results fn tmps).run P w' = .ok v w' ∧ Rr (.returned v) w') → Leaves P fn tmps Rr ds .returning w
  | [], w, _, H, hR => hR w H
  | d :: ds, w, hd, H, hR => by
    obtain ⟨g, cap, d1, d2⟩ := hd d (List.mem_cons_self ..)
    obtain ⟨tg, da⟩ := d
    have d1 : tg = .fn (.func g) cap := d1
    subst d1
    obtain ⟨e1, e2⟩ := F.dfr g d2 (da ++ cap) w
    refine leaves_cons (by intro e; cases e) (f := g) (args := da ++ cap) (by simpa [invoke] using e1) (e2.mono fun e u' w' hh => ?_)
    obtain ⟨⟨v, rfl⟩, rfl, h3⟩ := hh
    show Leaves P fn tmps Rr ds (settle .returning) w'
    exact leaves_all F ds w' (fun d' hd' => hd d' (List.mem_cons_of_mem _ hd')) (h3 K ρ h H) hR

theorem sound_call (F : TabR P cx G w0) : ∀ n, SoundCall P cx G w0 n := by
  intro n
  induction n using Nat.strongRecOn with
  | ind n IH =>
    intro f fn args h env' h' v hf he hr K ρ w vs H hG hargs
    obtain ⟨Fn, f1, f2, f3, f4, f5, f6, f7⟩ := F.fn f fn hf
    have hlen := concL_length hargs
    have hE : EnvR fn.nt ρ (mkEnv args 0 .leaf) { tmps := vs.toArray ++ Array.replicate (Fn.ntmps - vs.toArray.size) undef, defers := [] } := by
      refine ⟨by simp [f2]; omega, fun t ht => ?_⟩
      rw [mkEnv_get]
      by_cases hlt : t < args.length
      · rw [if_pos (by omega), Nat.sub_zero, List.getElem?_eq_getElem hlt]
        obtain ⟨x, x1, x2⟩ := concL_get hargs t _ (List.getElem?_eq_getElem hlt)
        rw [Option.getD_some, x2]
        have hv : t < vs.length := by omega
        rw [List.getElem?_eq_getElem hv] at x1
        cases x1
        simp [Array.getElem?_append, hv]
      · rw [if_neg (by omega)]
        have : oTmp t (.leaf : Env) = .tup [] := rfl
        rw [this, conc_undef]
        have hv : ¬ t < vs.length := by omega
        simp [Array.getElem?_append, hv, Array.getElem?_replicate]
        split <;> rfl
    have hb : ¬ (ev cx n (.code fn.body) (mkEnv args 0 .leaf) h).bad := by
      rintro ⟨s, e⟩
      rcases he with he | he <;> rw [he] at e <;> cases e
    refine calls_of_wp_defers f1 f4 (code_ok F n IH fn.nt fn.body _ h K ρ _ w _ f6 hE hG (fun d hd => by cases hd) H hb ?_).1
    have fin : ∀ ρ' a' w', St cx fn.nt w0 K ρ h env' h' ρ' a' w' → Leaves P Fn a'.tmps (fun e w' => ∃ x ρ', e = .returned x ∧ ExtN h.next ρ ρ' ∧ conc ρ' v = some x ∧ HR w0 K ρ' h' w') a'.defers .returning w' := by
      intro ρ' a' w' s
      refine leaves_all F a'.defers w' s.defs s.heap fun w2 H2 => ?_
      obtain ⟨x, x1, x2⟩ := results_ok (P := P) F.ty s.env H2 f3 f7 hr
      exact ⟨x, x1, x, ρ', rfl, s.ext, x2, H2⟩
    refine ⟨fun env2 h2 ρ' a' w' e s => ?_, fun env2 h2 ρ' a' w' e s => ?_, fun id env2 h2 ρ' a' w' e s => ?_⟩
    · rcases he with he | he <;> rw [he] at e <;> cases e
      exact fin ρ' a' w' s
    · rcases he with he | he <;> rw [he] at e <;> cases e
      exact fin ρ' a' w' s
    · rcases he with he | he <;> rw [he] at e <;> cases e

/-- WHAT THE READING ANSWERS, THE MACHINE ANSWERS, on every tape -/
theorem callA_ok (F : TabR P cx G w0) {n : Nat} {f : FuncId} {args : List AV} (e : callA cx n f args h = some (v, h')) {vs : List Value} (H : HR w0 K ρ h w) (hG : GlobR G ρ) (hargs : concL ρ args = some vs) :
    Calls P f vs.toArray w fun e w' => ∃ x ρ', e = .returned x ∧ ExtN h.next ρ ρ' ∧ conc ρ' v = some x ∧ HR w0 K ρ' h' w' := by
  unfold callA at e
  cases hf : cx.fn.get f with
  | none => rw [hf] at e; cases e
  | some fn =>
    rw [hf] at e
    have e : finA cx fn.res (ev cx n (.code fn.body) (mkEnv args 0 .leaf) h) = some (v, h') := e
    unfold finA at e
    split at e
    · rename_i env' h2 hb
      split at e
      · rename_i v2 hr
        cases e
        exact sound_call F n f fn args h env' h' v hf (.inl hb) hr K ρ w vs H hG hargs
      · cases e
    · rename_i env' h2 hb
      split at e
      · rename_i v2 hr
        cases e
        exact sound_call F n f fn args h env' h' v hf (.inr hb) hr K ρ w vs H hG hargs
      · cases e
    · cases e
end
end Go.Sh
end
section
namespace Go.Sh
open Go
section
variable {P : Program} {w : World} {ρ : Rho}

theorem eqvI_ok {a b : AV} {r : Bool} {v u : Value} (e : eqvI a b = some r) (hv : conc ρ a = some v) (hu : conc ρ b = some u) : ∃ k m n, v = .int k m ∧ u = .int k n ∧ r = (m == n) := by
  unfold eqvI at e
  obtain ⟨k, m, rfl, e'⟩ := onInt_some e
  obtain ⟨k', n, rfl, e''⟩ := onInt_some e'
  obtain ⟨e1, e2⟩ := ifB_some e''
  cases e2
  simp only [conc, Option.some.injEq] at hv hu
  have hk : k = k' := by
    have := Nat.eq_of_beq_eq_true e1
    revert this
    cases k <;> cases k' <;> intro h <;> first | rfl | (exfalso; revert h; decide)
  subst hk
  exact ⟨k, m, n, hv.symm, hu.symm, iEq_eq _ _⟩
theorem eqIn_int (d : Nat) {t : TypeId} {j k : IntKind} (K : P.underlying t = some (.int j)) (m n : Int) : (Op.equalIn (d + 1) t (.int k m) (.int k n)).run P w = .ok (m == n) w := by
  rw [Op.equalIn]
  simp [run_underlying K]
theorem part_int {t : TypeId} {j : IntKind} (K : P.underlying t = some (.int j)) {cs : Array Value} {i : Nat} {v : Value} (hv : cs[i]? = some v) : (part t cs i).run P w = .ok v w := by
  simp [part, isAgg, run_underlying K, hv]
theorem concL_cons {a : AV} {l : List AV} {vs : List Value} (h : concL ρ (a :: l) = some vs) : ∃ v ws, vs = v :: ws ∧ conc ρ a = some v ∧ concL ρ l = some ws := by
  simp only [concL] at h
  cases h1 : conc ρ a with
  | none => simp [h1] at h
  | some v =>
    cases h2 : concL ρ l with
    | none => simp [h1, h2] at h
    | some ws => simp [h1, h2] at h; exact ⟨v, ws, h.symm, rfl, rfl⟩
theorem eqvL_cons {a b : AV} {l m : List AV} {r : Bool} (e : eqvL (a :: l) (b :: m) = some r) : (eqvI a b = some false ∧ r = false) ∨ (eqvI a b = some true ∧ eqvL l m = some r) := by
  rw [eqvL] at e
  split at e
  · exact .inr ⟨by assumption, e⟩
  · cases e; exact .inl ⟨by assumption, rfl⟩
  · cases e

/-- the parts of a row, one behind the other -/
def eqRow (P : Program) (e : TypeId) (xs ys : Array Value) (d : Nat) : Nat → Nat → Sem Bool
  | 0, _ => pure true
  | n + 1, i => do
    if !(← Op.equalIn d e (← part e xs i) (← part e ys i)) then return false
    eqRow P e xs ys d n (i + 1)
theorem eqRow_ok {e : TypeId} {j : IntKind} (K : P.underlying e = some (.int j)) {xs ys : Array Value} (d : Nat) : ∀ (l m : List AV) (r : Bool) (vs us : List Value) (i : Nat), eqvL l m = some r → concL ρ l = some vs → concL ρ m = some us →
    (∀ k, k < l.length → xs[i + k]? = vs[k]?) → (∀ k, k < m.length → ys[i + k]? = us[k]?) → (eqRow P e xs ys (d + 1) l.length i).run P w = .ok r w
  | [], [], r, vs, us, i, e1, _, _, _, _ => by cases e1; simp [eqRow]
  | [], b :: m, r, vs, us, i, e1, _, _, _, _ => by cases e1
  | a :: l, [], r, vs, us, i, e1, _, _, _, _ => by cases e1
  | a :: l, b :: m, r, vs, us, i, e1, hv, hu, hx, hy => by
    obtain ⟨v, vs, rfl, v1, v2⟩ := concL_cons hv
    obtain ⟨u, us, rfl, u1, u2⟩ := concL_cons hu
    have px : (part e xs i).run P w = .ok v w := part_int K (by have := hx 0 (by simp); simpa using this)
    have py : (part e ys i).run P w = .ok u w := part_int K (by have := hy 0 (by simp); simpa using this)
    rcases eqvL_cons e1 with ⟨h1, rfl⟩ | ⟨h1, h2⟩
    · obtain ⟨k, p, q, rfl, rfl, hr⟩ := eqvI_ok h1 v1 u1
      simp [eqRow, px, py, eqIn_int d K, ← hr]
    · obtain ⟨k, p, q, rfl, rfl, hr⟩ := eqvI_ok h1 v1 u1
      have ih := eqRow_ok K d l m r vs us (i + 1) h2 v2 u2 (fun k hk => by have := hx (k + 1) (by simp; omega); simpa [Nat.add_assoc, Nat.add_comm 1 k] using this) (fun k hk => by have := hy (k + 1) (by simp; omega); simpa [Nat.add_assoc, Nat.add_comm 1 k] using this)
      simp [eqRow, px, py, eqIn_int d K, ← hr, ih]

theorem eq_arr {t e : TypeId} {n d : Nat} {j : IntKind} (U : P.underlying t = some (.array n e)) (K : P.underlying e = some (.int j)) (hz : ∀ w, (sizeOf e).run P w = .ok 1 w) {l m : List AV} {r : Bool} {vs us : List Value}
    (hl : l.length = n) (e1 : eqvL l m = some r) (hv : concL ρ l = some vs) (hu : concL ρ m = some us) (w : World) : (Op.equalIn (d + 2) t (.agg vs.toArray) (.agg us.toArray)).run P w = .ok r w := by
  have key := eqRow_ok (P := P) (w := w) K (xs := vs.toArray) (ys := us.toArray) d l m r vs us 0 e1 hv hu (fun k _ => by simp) (fun k _ => by simp)
  rw [hl] at key
  rw [← key, Op.equalIn]
  simp only [Sem.run_bind, run_underlying U, Result.andThen_ok, hz]
  simp
  clear key e1 hv hu U hl hz K
  generalize vs.toArray = xs
  generalize us.toArray = ys
  generalize 0 = i
  induction n generalizing i w with
  | zero => simp [eqRow]
  | succ n ih =>
    rw [List.range'_succ]
    simp only [List.forIn_cons, eqRow, Sem.run_bind]
    generalize (part e xs i).run P w = r1
    cases r1 with
    | halt x w1 => rfl
    | ok a w1 =>
      simp only [Result.andThen_ok]
      generalize (part e ys i).run P w1 = r2
      cases r2 with
      | halt x w2 => rfl
      | ok b w2 =>
        simp only [Result.andThen_ok]
        generalize (Op.equalIn (d + 1) e a b).run P w2 = r3
        cases r3 with
        | halt x w3 => rfl
        | ok c w3 =>
          cases c
          · simp
          · simpa using ih w3 (i + 1)

theorem eqFields_ok {d : Nat} {xs ys : Array Value} : ∀ (fs : List Field) (l m : List AV) (r : Bool) (vs us : List Value) (i : Nat), (∀ (k : Nat) (f : Field), fs[k]? = some f → f.name ≠ "_" ∧ f.offset = i + k ∧ ∃ j, P.underlying f.type = some (.int j)) → fs.length = l.length → eqvL l m = some r → concL ρ l = some vs → concL ρ m = some us →
    (∀ k, k < l.length → xs[i + k]? = vs[k]?) → (∀ k, k < m.length → ys[i + k]? = us[k]?) → (Op.eqFields (d + 1) xs ys fs).run P w = .ok r w
  | [], [], [], r, vs, us, i, _, _, e1, _, _, _, _ => by cases e1; simp [Op.eqFields]
  | [], [], b :: m, r, vs, us, i, _, _, e1, _, _, _, _ => by cases e1
  | [], a :: l, m, r, vs, us, i, _, hl, e1, _, _, _, _ => by cases hl
  | f :: fs, [], m, r, vs, us, i, _, hl, e1, _, _, _, _ => by cases hl
  | f :: fs, a :: l, [], r, vs, us, i, _, _, e1, _, _, _, _ => by cases e1
  | f :: fs, a :: l, b :: m, r, vs, us, i, hf, hl, e1, hv, hu, hx, hy => by
    obtain ⟨v, vs, rfl, v1, v2⟩ := concL_cons hv
    obtain ⟨u, us, rfl, u1, u2⟩ := concL_cons hu
    obtain ⟨f1, f2, j, K⟩ := hf 0 f (by simp)
    rw [Nat.add_zero] at f2
    have px : (part f.type xs f.offset).run P w = .ok v w := part_int K (by have := hx 0 (by simp); rw [f2]; simpa using this)
    have py : (part f.type ys f.offset).run P w = .ok u w := part_int K (by have := hy 0 (by simp); rw [f2]; simpa using this)
    rw [Op.eqFields, if_pos f1]
    rcases eqvL_cons e1 with ⟨h1, rfl⟩ | ⟨h1, h2⟩
    · obtain ⟨k, p, q, rfl, rfl, hr⟩ := eqvI_ok h1 v1 u1
      simp [px, py, eqIn_int d K, ← hr]
    · obtain ⟨k, p, q, rfl, rfl, hr⟩ := eqvI_ok h1 v1 u1
      have ih := eqFields_ok (d := d) fs l m r vs us (i + 1) (fun k g hg => by
          obtain ⟨g1, g2, g3⟩ := hf (k + 1) g (by simpa using hg)
          exact ⟨g1, by omega, g3⟩) (by simpa using hl) h2 v2 u2 (fun k hk => by have := hx (k + 1) (by simp; omega); simpa [Nat.add_assoc, Nat.add_comm 1 k] using this) (fun k hk => by have := hy (k + 1) (by simp; omega); simpa [Nat.add_assoc, Nat.add_comm 1 k] using this)
      simp [px, py, eqIn_int d K, ← hr, ih]
theorem eq_struct {t : TypeId} {d : Nat} {fs : Array Field} (U : P.underlying t = some (.struct fs)) (hp : P.stoodInHeld t = false) (hf : ∀ (k : Nat) (f : Field), fs.toList[k]? = some f → f.name ≠ "_" ∧ f.offset = k ∧ ∃ j, P.underlying f.type = some (.int j)) {l m : List AV} {r : Bool} {vs us : List Value}
    (hl : l.length = fs.size) (e1 : eqvL l m = some r) (hv : concL ρ l = some vs) (hu : concL ρ m = some us) (w : World) : (Op.equalIn (d + 2) t (.agg vs.toArray) (.agg us.toArray)).run P w = .ok r w := by
  have hfo : P.fieldsOf t = fs := by simp [Program.fieldsOf, U]
  rw [run_equalIn_struct (P := P) w (d + 1) t _ _ (by rw [hfo]; exact U) hp, hfo]
  exact eqFields_ok fs.toList l m r vs us 0 (fun k f h => by simpa using hf k f h) (by simpa using hl.symm) e1 hv hu (fun k _ => by simp) (fun k _ => by simp)
end
end Go.Sh
end
section
namespace Go.Sh
open Go

/-! ### tables, asked by the kernel -/
noncomputable def sameV (a : AV) (x : Value) : Bool :=
  match a with
  | .int k n => (match x with | .int k' m => Nat.beq (kNum k) (kNum k') && iEq n m | _ => false)
  | .bool b => (match x with | .bool c => (match b, c with | true, true => true | false, false => true | _, _ => false) | _ => false)
  | .oth (.str []) => (match x with | .string s => Nat.beq s.size 0 | _ => false)
  | .oth .nilPtr => (match x with | .pointer none => true | _ => false)
  | .oth .nilSlice => (match x with | .slice none 0 0 => true | _ => false)
  | .oth .nilMap => (match x with | .map none => true | _ => false)
  | .oth .nilFunc => (match x with | .nilFunc => true | _ => false)
  | .oth .nilIface => (match x with | .nilIface => true | _ => false)
  | _ => false
theorem kNum_inj {k k' : IntKind} (h : Nat.beq (kNum k) (kNum k') = true) : k = k' := by
  have := Nat.eq_of_beq_eq_true h
  revert this
  cases k <;> cases k' <;> intro h <;> first | rfl | (exfalso; revert h; decide)
theorem sameV_ok {a : AV} {x : Value} (h : sameV a x = true) : conc ρ0 a = some x := by
  unfold sameV at h
  split at h
  · split at h
    · simp only [Bool.and_eq_true] at h
      rw [iEq_eq] at h
      have := kNum_inj h.1
      subst this
      have h2 := eq_of_beq h.2
      subst h2
      rfl
    · cases h
  · split at h
    · split at h <;> first | rfl | cases h
    · cases h
  · split at h
    · rename_i s
      have : s.size = 0 := Nat.eq_of_beq_eq_true h
      simp only [conc]
      congr 2
      obtain ⟨⟨l⟩⟩ := s
      cases l with
      | nil => rfl
      | cons b l => simp [ByteArray.size] at this
    · cases h
  all_goals first | (split at h <;> first | rfl | cases h) | cases h

noncomputable def zeroAt (z : List AV) (i : Nat) (v : Value) : Bool := match nthZ z i, v.cells[i]? with | some a, some x => sameV a x | _, _ => false
noncomputable def chkZero (d : TD) (v : Value) : Bool :=
  Nat.beq v.cells.size d.size && (Nat.beq (d.size % d.zero.length) 0 && ((List.range d.size).all (fun i => zeroAt d.zero i v) && (d.agg || (match d.zero with | a :: _ => sameV a v | [] => false))))
noncomputable def chkFields (P : Program) : List Field → List (Nat × TypeId) → Bool
  | [], [] => true
  | g :: F, f :: fs => (Nat.beq g.offset f.1 && Nat.beq g.type f.2) && ((match P.info? g.type with | some i => !Nat.beq i.size 0 | none => false) && chkFields P F fs)
  | _, _ => false
noncomputable def chkKind (P : Program) (u : Option TypeDesc) (k : TK) : Bool :=
  match k with
  | .int j => (match u with | some (.int j') => Nat.beq (kNum j) (kNum j') | _ => false)
  | .string => (match u with | some .string => true | _ => false)
  | .bool => (match u with | some .bool => true | _ => false)
  | .ptr e => (match u with | some (.pointer e') => Nat.beq e e' | _ => false)
  | .slice e => (match u with | some (.slice e') => Nat.beq e e' | _ => false)
  | .array n e => (match u with | some (.array n' e') => Nat.beq n n' && Nat.beq e e' | _ => false)
  | .struct fs => (match u with | some (.struct F) => chkFields P F.toList fs | _ => false)
  | .map k e => (match u with | some (.map k' e') => Nat.beq k k' && Nat.beq e e' | _ => false)
  | .uptr => (match u with | some .unsafePointer => true | _ => false)
  | _ => (match u with | some _ => true | none => false)
noncomputable def chkAgg (u : Option TypeDesc) (b : Bool) : Bool := match u with | some (.struct _) => b | some (.array _ _) => b | some _ => !b | none => false
noncomputable def chkTy (P : Program) (t : TypeId) (d : TD) : Bool :=
  (match P.info? t with
  | some i => Nat.beq i.size d.size && (Nat.beq i.bytes d.bytes && (match i.zero with | some v => chkZero d v | none => false))
  | none => false) && (chkKind P (P.underlying t) d.k && chkAgg (P.underlying t) d.agg)

theorem chkFields_ok {P : Program} : ∀ {F : List Field} {fs : List (Nat × TypeId)}, chkFields P F fs = true → F.length = fs.length ∧ ∀ (i : Nat) (f : Nat × TypeId), fs[i]? = some f → ∃ g : Field, F[i]? = some g ∧ g.offset = f.1 ∧ g.type = f.2 ∧ ∃ inf, P.info? g.type = some inf ∧ inf.size ≠ 0
  | [], [], _ => ⟨rfl, fun i f h => by simp at h⟩
  | [], f :: fs, h => by cases h
  | g :: F, [], h => by cases h
  | g :: F, f :: fs, h => by
    simp only [chkFields, Bool.and_eq_true] at h
    obtain ⟨⟨h1, h2⟩, h3, h4⟩ := h
    obtain ⟨l1, l2⟩ := chkFields_ok h4
    refine ⟨by simp [l1], fun i f' hi => ?_⟩
    cases i with
    | zero =>
      simp only [List.getElem?_cons_zero, Option.some.injEq] at hi
      subst hi
      refine ⟨g, by simp, Nat.eq_of_beq_eq_true h1, Nat.eq_of_beq_eq_true h2, ?_⟩
      cases hi : P.info? g.type with
      | none => rw [hi] at h3; cases h3
      | some inf =>
        rw [hi] at h3
        have h3 : (!Nat.beq inf.size 0) = true := h3
        exact ⟨inf, rfl, fun e => by rw [e] at h3; cases h3⟩
    | succ i => simpa using l2 i f' (by simpa using hi)

theorem chkKind_ok {P : Program} {t : TypeId} {u : TypeDesc} {k : TK} (h : chkKind P (some u) k = true) (hu : P.underlying t = some u) : KindR P t k := by
  cases k with
  | int j => cases u <;> first | (cases h; done) | (rename_i j'; have := kNum_inj (show Nat.beq (kNum j) (kNum j') = true from h); subst this; exact hu)
  | bool => cases u <;> first | (cases h; done) | exact hu
  | string => cases u <;> first | (cases h; done) | exact hu
  | uptr => cases u <;> first | (cases h; done) | exact hu
  | ptr e => cases u <;> first | (cases h; done) | (rename_i e'; have : e = e' := Nat.eq_of_beq_eq_true h; subst this; exact hu)
  | slice e => cases u <;> first | (cases h; done) | (rename_i e'; have : e = e' := Nat.eq_of_beq_eq_true h; subst this; exact hu)
  | array n e =>
    cases u <;> first | (cases h; done) | skip
    rename_i n' e'
    have h : (Nat.beq n n' && Nat.beq e e') = true := h
    simp only [Bool.and_eq_true] at h
    have h1 : n = n' := Nat.eq_of_beq_eq_true h.1
    have h2 : e = e' := Nat.eq_of_beq_eq_true h.2
    subst h1; subst h2
    exact hu
  | map n e =>
    cases u <;> first | (cases h; done) | skip
    rename_i n' e'
    have h : (Nat.beq n n' && Nat.beq e e') = true := h
    simp only [Bool.and_eq_true] at h
    have h1 : n = n' := Nat.eq_of_beq_eq_true h.1
    have h2 : e = e' := Nat.eq_of_beq_eq_true h.2
    subst h1; subst h2
    exact hu
  | struct fs =>
    cases u <;> first | (cases h; done) | skip
    rename_i F
    obtain ⟨l1, l2⟩ := chkFields_ok (show chkFields P F.toList fs = true from h)
    exact ⟨F, hu, by simpa using l1, fun i f hi => by
      obtain ⟨g, g1, g2⟩ := l2 i f hi
      exact ⟨g, by simpa using g1, g2⟩⟩
  | func => trivial
  | iface b => trivial
  | other => trivial
theorem chkTy_ok {P : Program} {t : TypeId} {d : TD} (h : chkTy P t d = true) : TyR P t d := by
  unfold chkTy at h
  simp only [Bool.and_eq_true] at h
  obtain ⟨h1, h2, h3⟩ := h
  cases hi : P.info? t with
  | none => rw [hi] at h1; cases h1
  | some i =>
    rw [hi] at h1
    simp only [Bool.and_eq_true] at h1
    obtain ⟨a1, a2, a3⟩ := h1
    cases hz : i.zero with
    | none => rw [hz] at a3; cases a3
    | some v =>
      rw [hz] at a3
      have a3 : chkZero d v = true := a3
      unfold chkZero at a3
      simp only [Bool.and_eq_true, Bool.or_eq_true, List.all_eq_true, List.mem_range] at a3
      obtain ⟨z1, z2, z3, z4⟩ := a3
      have Z : ZeroR d v := by
        refine ⟨Nat.eq_of_beq_eq_true z1, Nat.eq_of_beq_eq_true z2, fun j hj => ?_, fun hagg => ?_⟩
        · have := z3 j hj
          unfold zeroAt at this
          split at this
          · rename_i a x e1 e2
            refine ⟨a, x, ?_, sameV_ok this, e2⟩
            rw [cellZ_eq, if_pos hj]
            exact e1
          · cases this
        · rw [hagg] at z4
          have z4 := z4.resolve_left (by simp)
          split at z4
          · rename_i a l e
            exact ⟨a, by rw [e]; rfl, sameV_ok z4⟩
          · cases z4
      have hu : ∃ u, P.underlying t = some u := by
        cases hu : P.underlying t with
        | none => rw [hu] at h3; cases h3
        | some u => exact ⟨u, rfl⟩
      obtain ⟨u, hu⟩ := hu
      rw [hu] at h2 h3
      refine ⟨⟨i, hi, Nat.eq_of_beq_eq_true a1, Nat.eq_of_beq_eq_true a2, v, hz, Z⟩, by rw [hu]; rfl, ?_, fun w => ?_⟩
      · exact chkKind_ok h2 hu
      · unfold chkAgg at h3
        unfold isAgg
        rw [Sem.run_bind, run_underlying hu]
        simp only [Result.andThen]
        cases u <;> cases hb : d.agg <;> rw [hb] at h3 <;> first | (cases h3; done) | rfl

noncomputable def trChk {α : Type} (p : Nat → α → Bool) : Tr α → (Nat → Nat) → Bool
  | .leaf, _ => true
  | .node v l r, k => (match v with | some a => p (k 0) a | none => true) && (trChk p l (fun m => k (2 * m + 1)) && trChk p r (fun m => k (2 * m + 2)))
theorem trChk_ok {α : Type} {p : Nat → α → Bool} : ∀ {t : Tr α} {k : Nat → Nat}, trChk p t k = true → ∀ n a, t.get n = some a → p (k n) a = true
  | .leaf, k, _, n, a, h => by rw [Tr.get_leaf] at h; cases h
  | .node v l r, k, hc, n, a, h => by
    simp only [trChk, Bool.and_eq_true] at hc
    cases n with
    | zero => rw [Tr.get_node_zero] at h; subst h; exact hc.1
    | succ n =>
      rw [Tr.get_node_succ] at h
      split at h
      · have := trChk_ok hc.2.1 (n / 2) a h
        rwa [show 2 * (n / 2) + 1 = n + 1 by omega] at this
      · have := trChk_ok hc.2.2 (n / 2) a h
        rwa [show 2 * (n / 2) + 2 = n + 1 by omega] at this
def trAll {α : Type} (p : Nat → α → Prop) : Tr α → (Nat → Nat) → Prop
  | .leaf, _ => True
  | .node v l r, k => (∀ a, v = some a → p (k 0) a) ∧ trAll p l (fun m => k (2 * m + 1)) ∧ trAll p r (fun m => k (2 * m + 2))
theorem trAll_ok {α : Type} {p : Nat → α → Prop} : ∀ {t : Tr α} {k : Nat → Nat}, trAll p t k → ∀ n a, t.get n = some a → p (k n) a
  | .leaf, k, _, n, a, h => by rw [Tr.get_leaf] at h; cases h
  | .node v l r, k, hc, n, a, h => by
    obtain ⟨c1, c2, c3⟩ := hc
    cases n with
    | zero => rw [Tr.get_node_zero] at h; exact c1 a h
    | succ n =>
      rw [Tr.get_node_succ] at h
      split at h
      · have := trAll_ok c2 (n / 2) a h
        rwa [show 2 * (n / 2) + 1 = n + 1 by omega] at this
      · have := trAll_ok c3 (n / 2) a h
        rwa [show 2 * (n / 2) + 2 = n + 1 by omega] at this
theorem trOne {α : Type} {p : Nat → α → Prop} {n : Nat} {a : α} (h : p n a) : ∀ b, some a = some b → p n b := fun b e => by cases e; exact h
theorem trNone {α : Type} {p : Nat → α → Prop} {n : Nat} : ∀ b, (none : Option α) = some b → p n b := fun b e => by cases e

def bodyO (f : Func) : Code := match f.body with | some b => b | none => .skip
def afO (f : Func) : AF := ⟨f.ntmps, f.results.toList, bodyO f⟩
def FnP (P : Program) (G : Nat → Bool) (f : Nat) (fn : AF) : Prop := ∃ F, P.funcs[f]? = some F ∧ F.ntmps = fn.nt ∧ F.results.toList = fn.res ∧ F.body = some fn.body ∧ (F.name == "runtime.NumGoroutine") = false ∧ okC G fn.nt fn.body = true ∧ fn.res.all (okRes fn.nt) = true
theorem mkFn {P : Program} {G : Nat → Bool} {f : Nat} {F : Func} (hf : P.funcs[f]? = some F) (hn : (F.name == "runtime.NumGoroutine") = false) (hb : F.body.isSome = true) (hc : okC G F.ntmps (bodyO F) = true) (hr : F.results.toList.all (okRes F.ntmps) = true) : FnP P G f (afO F) := by
  refine ⟨F, hf, rfl, rfl, ?_, hn, hc, hr⟩
  cases hF : F.body with
  | none => rw [hF] at hb; cases hb
  | some b => simp [afO, bodyO, hF]
end Go.Sh
end
