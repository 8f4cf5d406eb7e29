/-
  The tied card of the law LexCovers: for every input that the card speaks of, the call answers true and the arguments read as before. Conditions: the three listed tables start as the program's text lays them.
-/
import Derived.Test.YtjdafbgpckmieaaGreatDoorQLexC
import Derived.Test.YtjdafbgpckmieaaGreatDoorShR
import Derived.Test.YtjdafbgpckmieaaGreatDoorShF
import Derived.Test.YtjdafbgpckmieaaGreatDoorTie
import Derived.Test.YtjdafbgpckmieaaGreatDoorCards
import Derived.SevenTiedAt
import Derived.ChangeVars
import Derived.JoinedOf
set_option maxRecDepth 100000
set_option linter.unusedVariables false
namespace Go.Proofs.YtjdafbgpckmieaaGreatDoor.lexCovers
open Go Go.ChangeShapes Go.WideShapes Go.ChangeAt Go.RowKit Go.Proofs.YtjdafbgpckmieaaGreatDoor.ShR
open Go.ChangeMaps (open_string shut_string)
theorem lifted (os : Os) (started : os.Started) (H : Type) (enc : TypeId × Value → H) :
    ReturnsInHanded {} Tryz.checked os 7 .any (fun w args => (Rows.lexCoversSpec.pre enc Tryz.prog Tryz.f7 [] false w args ∧ laidMetH Tryz.prog lay w) ∧ sizedMet enc Tryz.prog Tryz.f7 (OpenSpec.ofChange Rows.lexCoversSpec) false w args)
      (Rows.lexCoversSpec.post enc Tryz.prog Tryz.f7 false true false false) := by
  refine returnsInHanded_of_change_and (C := Tryz.checked) (X := fun w _ => laidMetH Tryz.prog lay w) (fun _ _ _ hh h => h.of_heap hh) own started (by kernel_rfl) Tryz.func7
    (ChangeSpec.witness_at (enc := enc) (C := Tryz.checked) (os := os) (X := fun w _ => laidMetH Tryz.prog lay w) false (laidWorld os) #[.agg #[.slice none 0 0, .slice none 0 0], .string ByteArray.empty, .int .u8 0] 8 rfl (by kernel_rfl) (by kernel_rfl) (by kernel_rfl) (by kernel_rfl) (by kernel_rfl) (laidWorld_met os _)) ?_
  intro W base args ds gs before hval0 hW hcnd hsz0 hL _
  have hsz : (DataW.weightsEach Tryz.prog (Tryz.f7.params.toList ++ Rows.lexCoversSpec.plain.varTypes Tryz.prog) (ds ++ gs)).all (· ≤ reachBytes) = true := hsz0
  have hval : ∀ (j : Nat) t v, Tryz.f7.params[j]? = some t → args[j]? = some v → Value.okWide Tryz.prog W .any base t v := hval0
  have hW' := hW
  obtain ⟨p, q, hA0, hV, rfl, hfz, hnd⟩ := hW
  have hA : DataW.TrodAll enc Tryz.prog W 0 (fun _ => true) true Tryz.f7.params.toList args.toList ds p := hA0
  rw [Tryz.params7] at hA hval hsz
  obtain ⟨v0, vs0, d0, ds0, p0, q0, hargs, rfl, rfl, h0, r0⟩ := trodAll_cons hA
  obtain ⟨v1, vs1, d1, ds1, p1, q1, rfl, rfl, rfl, h1, r1⟩ := trodAll_cons r0
  obtain ⟨v2, vs2, d2, ds2, p2, q2, rfl, rfl, rfl, h2, r2⟩ := trodAll_cons r1
  obtain ⟨rfl, rfl, rfl⟩ := trodAll_nil r2
  obtain rfl : args = #[v0, v1, v2] := by cases args; simp_all
  obtain ⟨rfl, rfl⟩ := trodVars_none hV
  have k0 := h0
  have lt0 : ∀ x ∈ p0, x.block < W.heap.size := by obtain ⟨m, hm⟩ := k0; exact DataW.trod_lt m _ _ _ hm
  obtain ⟨b0, c0, ⟨Aa0, ca0, Ab0, cb0, rfl, ra0, ga0, rb0, gb0⟩, wf0⟩ := dfa_in (hval 0 25 v0 rfl rfl) h0
  obtain ⟨a1, rfl, rfl, rfl, y1⟩ := open_string Tryz.underlying9 (hval 1 9 v1 rfl rfl) h1
  have w1 : a1.size ≤ 140737488351232 := by
    have z := sized_string hsz (j := 1) (t := 9) rfl rfl
    rw [Array.length_toList] at z
    exact z
  obtain ⟨a2, rfl, rfl, rfl, w2⟩ := open_int Tryz.underlying5 (hval 2 5 v2 rfl rfl) h2
  clear hA0 hval0 hsz0 hsz
  obtain ⟨k, hk⟩ := QLex.lawCov b0 c0 a1 a2 w1 w2
  refine (QLex.topiarylaw10_LexCovers.calls k Aa0 ca0 b0 Ab0 cb0 c0 a1 a2 true W ra0 ga0 rb0 gb0 (laidR_of hL) hk).mono fun e W' ⟨he, bel⟩ => ?_
  subst he
  exact ⟨_, rfl, _, _, _, [], _, [], hW', trodAll_mk1 (shut_bool Tryz.underlying4 _), (trodAll_cons_mk (Below.trod laidOut (by kernel_rfl) (of_decide_eq_true (by kernel_rfl)) k0 bel lt0) (trodAll_cons_mk (shut_string Tryz.underlying9 y1) (trodAll_cons_mk (shut_int Tryz.underlying5 w2) trodAll_mk0))), rfl, bel.frame _, fun h => by cases h⟩
theorem fact0 : (Rows.lexCoversRow.wf (OpenSpec.ofChange Rows.lexCoversSpec)) = true := by kernel_rfl
theorem fact3 : (Tryz.f7.params.all (Tryz.pinned.checked.prog.readableRec ·)) = true := by kernel_rfl
theorem fact4 : (namedTie Tryz.pinned.checked.prog Rows.lexCoversRow.named Rows.lexCoversSpec.vars) = true := by kernel_rfl
theorem fact5 : ((Rows.lexCoversRow.stops == [])) = true := by kernel_rfl
theorem fact7 : ((Rows.lexCoversRow.knobs == [])) = true := by kernel_rfl
theorem fact9 : ((Rows.lexCoversRow.inPlace == Tryz.pinned.checked.prog.inPlace 7)) = true := by kernel_rfl
theorem fact10 : ((Rows.lexCoversRow.unfollowed == Tryz.pinned.checked.prog.unfollowed 7)) = true := by kernel_rfl
theorem fact11 : ((Rows.lexCoversRow.recurses == Tryz.pinned.checked.prog.recurses 7)) = true := by kernel_rfl
theorem fact12 : ((Rows.lexCoversRow.named == Tryz.pinned.checked.prog.varsNamed 7)) = true := by kernel_rfl
theorem fact13 : ((Rows.lexCoversRow.maps == (Tryz.f7.params.toList ++ Rows.lexCoversSpec.plain.varTypes Tryz.pinned.checked.prog).any (Tryz.pinned.checked.prog.mapsRec ·))) = true := by kernel_rfl
theorem fact14 : ((Rows.lexCoversRow.ifaces == (Tryz.f7.params.toList ++ Rows.lexCoversSpec.plain.varTypes Tryz.pinned.checked.prog).any (Tryz.pinned.checked.prog.ifacesRec ·))) = true := by kernel_rfl
theorem fact15 : ((Rows.lexCoversRow.mapsOut == Tryz.pinned.checked.prog.mapsAmong Tryz.f7.resultTypes.toList)) = true := by kernel_rfl
theorem fact16 : ((Rows.lexCoversRow.loops == (Tryz.f7.params.toList ++ Rows.lexCoversSpec.plain.varTypes Tryz.pinned.checked.prog).any (Tryz.pinned.checked.prog.loopsFrom ·))) = true := by kernel_rfl
theorem fact17 : ((Rows.lexCoversRow.wideKeys == (Tryz.f7.params.toList ++ Rows.lexCoversSpec.plain.varTypes Tryz.pinned.checked.prog ++ Tryz.f7.resultTypes.toList).any (Tryz.pinned.checked.prog.wideKeysFrom ·))) = true := by kernel_rfl
theorem fact18 : (Rows.lexCoversSpec.vars.all (Tryz.pinned.checked.prog.varReadable ·)) = true := by kernel_rfl
theorem fact19 : (Tryz.f7.resultTypes.all (fun t => Tryz.pinned.checked.prog.readableRec t && decide (t < Tryz.pinned.checked.prog.types.size))) = true := by kernel_rfl
theorem fact20 : ((Rows.lexCoversRow.ifacesOut == Tryz.f7.resultTypes.toList.any (Tryz.pinned.checked.prog.ifacesRec ·))) = true := by kernel_rfl
theorem fact21 : ((Rows.lexCoversRow.loopsOut == Tryz.f7.resultTypes.toList.any (Tryz.pinned.checked.prog.loopsFrom ·))) = true := by kernel_rfl
theorem fact23 : (Rows.lexCoversRow.shortTexts.isNone) = true := by kernel_rfl
theorem fact28 : ((Rows.lexCoversRow.kinds == (if Rows.lexCoversRow.domain.isEmpty then [] else Tryz.f7.params.toList.map fun t => match Tryz.pinned.checked.prog.underlying t with | some (.int k) => some k | _ => none))) = true := by kernel_rfl
theorem fact29 : ((Rows.lexCoversRow.pinned == Rows.lexCoversRow.pinnedBy)) = true := by kernel_rfl
theorem fact30 : ((Rows.lexCoversRow.veiled == (Tryz.f7.params.toList ++ Rows.lexCoversSpec.plain.varTypes Tryz.pinned.checked.prog ++ Tryz.f7.resultTypes.toList).any (Tryz.pinned.checked.prog.veiledRec ·))) = true := by kernel_rfl
theorem fact31 : (Rows.lexCoversRow.veiledFits Tryz.pinned.checked.prog Tryz.f7.params.toList (Tryz.f7.params.toList ++ Rows.lexCoversSpec.plain.varTypes Tryz.pinned.checked.prog ++ Tryz.f7.resultTypes.toList)) = true := by kernel_rfl
theorem closed : joinedFacts Tryz.pinned.checked.prog 7 Tryz.f7 Rows.lexCoversSpec Rows.lexCoversRow = true := by
  unfold joinedFacts
  repeat' with_reducible refine ShF.and_t ?_ ?_
  · exact fact0
  · exact ShF.fact1
  · exact ShF.fact2
  · exact fact3
  · exact fact4
  · exact fact5
  · exact ShF.fact6
  · exact fact7
  · exact ShF.fact8
  · exact fact9
  · exact fact10
  · exact fact11
  · exact fact12
  · exact fact13
  · exact fact14
  · exact fact15
  · exact fact16
  · exact fact17
  · exact fact18
  · exact fact19
  · exact fact20
  · exact fact21
  · exact ShF.fact22
  · exact fact23
  · exact ShF.fact24
  · exact ShF.fact25
  · exact ShF.fact26
  · exact ShF.fact27
  · exact fact28
  · exact fact29
  · exact fact30
  · exact fact31
theorem nam : Tryz.pinned.checked.prog.funcNamed Rows.lexCoversRow.func = some 7 := by kernel_rfl
theorem inst : Tryz.f7.isInstance Tryz.pinned.checked.prog Rows.lexCoversRow.origin Rows.lexCoversRow.targs := of_decide_eq_true (by kernel_rfl)
theorem wrap : Tryz.f7.isWrapper Tryz.pinned.checked.prog Rows.lexCoversRow.wrapper Rows.lexCoversRow.mainSum := by unfold Func.isWrapper; first | (rw [if_pos (by decide +kernel)]; kernel_rfl) | (rw [if_neg (by decide +kernel)]; exact ⟨rfl, rfl⟩)
theorem wfb : Rows.lexCoversRow.wfByText (OpenSpec.ofChange Rows.lexCoversSpec) = true := by kernel_rfl
theorem goes : false = Rows.lexCoversRow.goesBy Tryz.pinned.checked.prog := by kernel_rfl
theorem over : Rows.lexCoversRow.holds Tryz.pinned (OpenSpec.ofChange Rows.lexCoversSpec) :=
  OpenClaim.holds_of_wide 7 Tryz.f7 rfl rfl rfl rfl rfl rfl rfl ⟨rfl, rfl, rfl, rfl, rfl⟩ rfl rfl rfl rfl rfl nam Tryz.func7 closed inst wrap
    (fun os started H enc _ => lifted os started H enc)
end Go.Proofs.YtjdafbgpckmieaaGreatDoor.lexCovers
namespace Go.Proofs.YtjdafbgpckmieaaGreatDoor
open Go
theorem lexCovers_card : Rows.LexCoversCardSaid :=
  Claim7.holds_tied_plain_at .later [] [.data, .data, .data] true (true, "1e274e947be24d93a102a3d756ce7aa7f8cd1fa72b8696f1788caa67f071bd9f") true
    lexCovers.over (fun _ h => by cases h) lexCovers.wfb (fun _ h => by cases h) lexCovers_row_tie rfl ⟨rfl, rfl⟩ ShF.mainis rfl
    (fun f fn hf hfn => by
      obtain rfl : f = 7 := Option.some.inj ((show Tryz.prog.funcNamed "topiary/topiarylaw10.LexCovers" = some 7 by kernel_rfl).symm.trans hf) |>.symm
      obtain rfl : fn = Tryz.f7 := (Option.some.inj (Tryz.func7.symm.trans hfn)).symm
      refine ⟨ShF.looks, fun j t ht => ?_⟩
      rw [Tryz.params7] at ht
      rcases j with _ | j
      · obtain rfl : t = 25 := by simpa using ht.symm
        exact (show Tryz.prog.wantsStandIn 25 = false by kernel_rfl)
      rcases j with _ | j
      · obtain rfl : t = 9 := by simpa using ht.symm
        exact (show Tryz.prog.wantsStandIn 9 = false by kernel_rfl)
      rcases j with _ | j
      · obtain rfl : t = 5 := by simpa using ht.symm
        exact (show Tryz.prog.wantsStandIn 5 = false by kernel_rfl)
      simp at ht)
    lexCovers.goes
#print axioms lexCovers_card
end Go.Proofs.YtjdafbgpckmieaaGreatDoor
