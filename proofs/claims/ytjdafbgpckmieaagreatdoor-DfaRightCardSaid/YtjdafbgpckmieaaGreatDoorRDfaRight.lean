/-
  The tied card of the law DfaRight: for every input that the card speaks of, the call answers true and the arguments read as before. Conditions: the three listed tables start as the program's text lays them.
-/
import Derived.Test.YtjdafbgpckmieaaGreatDoorQDfaRightL
import Derived.Test.YtjdafbgpckmieaaGreatDoorShR
import Derived.Test.YtjdafbgpckmieaaGreatDoorShF
import Derived.Test.YtjdafbgpckmieaaGreatDoorTie
import Derived.Test.YtjdafbgpckmieaaGreatDoorCards
import Derived.SevenTiedAt
import Derived.ChangeVars
import Derived.JoinedOf
set_option maxRecDepth 100000
set_option linter.unusedVariables false
namespace Go.Proofs.YtjdafbgpckmieaaGreatDoor.dfaRight
open Go Go.ChangeShapes Go.WideShapes Go.ChangeAt Go.RowKit Go.Proofs.YtjdafbgpckmieaaGreatDoor.ShR
open Go.ChangeMaps (open_string shut_string)
theorem lifted (os : Os) (started : os.Started) (H : Type) (enc : TypeId × Value → H) :
    ReturnsInHanded {} Tryz.checked os 3 .any (fun w args => (Rows.dfaRightSpec.pre enc Tryz.prog Tryz.f3 [] false w args ∧ laidMetH Tryz.prog lay w) ∧ sizedMet enc Tryz.prog Tryz.f3 (OpenSpec.ofChange Rows.dfaRightSpec) false w args)
      (Rows.dfaRightSpec.post enc Tryz.prog Tryz.f3 false true false false) := by
  refine returnsInHanded_of_change_and (C := Tryz.checked) (X := fun w _ => laidMetH Tryz.prog lay w) (fun _ _ _ hh h => h.of_heap hh) own started (by kernel_rfl) Tryz.func3
    (ChangeSpec.witness_at (enc := enc) (C := Tryz.checked) (os := os) (X := fun w _ => laidMetH Tryz.prog lay w) false (laidWorld os) #[.agg #[.slice none 0 0, .slice none 0 0], .string ByteArray.empty] 8 rfl (by kernel_rfl) (by kernel_rfl) (by kernel_rfl) (by kernel_rfl) (by kernel_rfl) (laidWorld_met os _)) ?_
  intro W base args ds gs before hval0 hW hcnd hsz0 hL _
  have hsz : (DataW.weightsEach Tryz.prog (Tryz.f3.params.toList ++ Rows.dfaRightSpec.plain.varTypes Tryz.prog) (ds ++ gs)).all (· ≤ reachBytes) = true := hsz0
  have hval : ∀ (j : Nat) t v, Tryz.f3.params[j]? = some t → args[j]? = some v → Value.okWide Tryz.prog W .any base t v := hval0
  have hW' := hW
  obtain ⟨p, q, hA0, hV, rfl, hfz, hnd⟩ := hW
  have hA : DataW.TrodAll enc Tryz.prog W 0 (fun _ => true) true Tryz.f3.params.toList args.toList ds p := hA0
  rw [Tryz.params3] at hA hval hsz
  obtain ⟨v0, vs0, d0, ds0, p0, q0, hargs, rfl, rfl, h0, r0⟩ := trodAll_cons hA
  obtain ⟨v1, vs1, d1, ds1, p1, q1, rfl, rfl, rfl, h1, r1⟩ := trodAll_cons r0
  obtain ⟨rfl, rfl, rfl⟩ := trodAll_nil r1
  obtain rfl : args = #[v0, v1] := by cases args; simp_all
  obtain ⟨rfl, rfl⟩ := trodVars_none hV
  have k0 := h0
  have lt0 : ∀ x ∈ p0, x.block < W.heap.size := by obtain ⟨m, hm⟩ := k0; exact DataW.trod_lt m _ _ _ hm
  obtain ⟨b0, c0, ⟨Aa0, ca0, Ab0, cb0, rfl, ra0, ga0, rb0, gb0⟩, wf0⟩ := dfa_in (hval 0 25 v0 rfl rfl) h0
  obtain ⟨a1, rfl, rfl, rfl, y1⟩ := open_string Tryz.underlying9 (hval 1 9 v1 rfl rfl) h1
  have w1 : a1.size ≤ 140737488351232 := by
    have z := sized_string hsz (j := 1) (t := 9) rfl rfl
    rw [Array.length_toList] at z
    exact z
  clear hA0 hval0 hsz0 hsz
  obtain ⟨k, hk⟩ := QDfaRight.law b0 c0 a1 w1
  refine (QDfaRight.topiarylaw08_DfaRight.calls k Aa0 ca0 b0 Ab0 cb0 c0 a1 true W ra0 ga0 rb0 gb0 (laidR_of hL) hk).mono fun e W' ⟨he, bel⟩ => ?_
  subst he
  exact ⟨_, rfl, _, _, _, [], _, [], hW', trodAll_mk1 (shut_bool Tryz.underlying4 _), (trodAll_cons_mk (Below.trod laidOut (by kernel_rfl) (of_decide_eq_true (by kernel_rfl)) k0 bel lt0) (trodAll_cons_mk (shut_string Tryz.underlying9 y1) trodAll_mk0)), rfl, bel.frame _, fun h => by cases h⟩
theorem fact0 : (Rows.dfaRightRow.wf (OpenSpec.ofChange Rows.dfaRightSpec)) = true := by kernel_rfl
theorem fact3 : (Tryz.f3.params.all (Tryz.pinned.checked.prog.readableRec ·)) = true := by kernel_rfl
theorem fact4 : (namedTie Tryz.pinned.checked.prog Rows.dfaRightRow.named Rows.dfaRightSpec.vars) = true := by kernel_rfl
theorem fact5 : ((Rows.dfaRightRow.stops == [])) = true := by kernel_rfl
theorem fact7 : ((Rows.dfaRightRow.knobs == [])) = true := by kernel_rfl
theorem fact9 : ((Rows.dfaRightRow.inPlace == Tryz.pinned.checked.prog.inPlace 3)) = true := by kernel_rfl
theorem fact10 : ((Rows.dfaRightRow.unfollowed == Tryz.pinned.checked.prog.unfollowed 3)) = true := by kernel_rfl
theorem fact11 : ((Rows.dfaRightRow.recurses == Tryz.pinned.checked.prog.recurses 3)) = true := by kernel_rfl
theorem fact12 : ((Rows.dfaRightRow.named == Tryz.pinned.checked.prog.varsNamed 3)) = true := by kernel_rfl
theorem fact13 : ((Rows.dfaRightRow.maps == (Tryz.f3.params.toList ++ Rows.dfaRightSpec.plain.varTypes Tryz.pinned.checked.prog).any (Tryz.pinned.checked.prog.mapsRec ·))) = true := by kernel_rfl
theorem fact14 : ((Rows.dfaRightRow.ifaces == (Tryz.f3.params.toList ++ Rows.dfaRightSpec.plain.varTypes Tryz.pinned.checked.prog).any (Tryz.pinned.checked.prog.ifacesRec ·))) = true := by kernel_rfl
theorem fact15 : ((Rows.dfaRightRow.mapsOut == Tryz.pinned.checked.prog.mapsAmong Tryz.f3.resultTypes.toList)) = true := by kernel_rfl
theorem fact16 : ((Rows.dfaRightRow.loops == (Tryz.f3.params.toList ++ Rows.dfaRightSpec.plain.varTypes Tryz.pinned.checked.prog).any (Tryz.pinned.checked.prog.loopsFrom ·))) = true := by kernel_rfl
theorem fact17 : ((Rows.dfaRightRow.wideKeys == (Tryz.f3.params.toList ++ Rows.dfaRightSpec.plain.varTypes Tryz.pinned.checked.prog ++ Tryz.f3.resultTypes.toList).any (Tryz.pinned.checked.prog.wideKeysFrom ·))) = true := by kernel_rfl
theorem fact18 : (Rows.dfaRightSpec.vars.all (Tryz.pinned.checked.prog.varReadable ·)) = true := by kernel_rfl
theorem fact19 : (Tryz.f3.resultTypes.all (fun t => Tryz.pinned.checked.prog.readableRec t && decide (t < Tryz.pinned.checked.prog.types.size))) = true := by kernel_rfl
theorem fact20 : ((Rows.dfaRightRow.ifacesOut == Tryz.f3.resultTypes.toList.any (Tryz.pinned.checked.prog.ifacesRec ·))) = true := by kernel_rfl
theorem fact21 : ((Rows.dfaRightRow.loopsOut == Tryz.f3.resultTypes.toList.any (Tryz.pinned.checked.prog.loopsFrom ·))) = true := by kernel_rfl
theorem fact23 : (Rows.dfaRightRow.shortTexts.isNone) = true := by kernel_rfl
theorem fact28 : ((Rows.dfaRightRow.kinds == (if Rows.dfaRightRow.domain.isEmpty then [] else Tryz.f3.params.toList.map fun t => match Tryz.pinned.checked.prog.underlying t with | some (.int k) => some k | _ => none))) = true := by kernel_rfl
theorem fact29 : ((Rows.dfaRightRow.pinned == Rows.dfaRightRow.pinnedBy)) = true := by kernel_rfl
theorem fact30 : ((Rows.dfaRightRow.veiled == (Tryz.f3.params.toList ++ Rows.dfaRightSpec.plain.varTypes Tryz.pinned.checked.prog ++ Tryz.f3.resultTypes.toList).any (Tryz.pinned.checked.prog.veiledRec ·))) = true := by kernel_rfl
theorem fact31 : (Rows.dfaRightRow.veiledFits Tryz.pinned.checked.prog Tryz.f3.params.toList (Tryz.f3.params.toList ++ Rows.dfaRightSpec.plain.varTypes Tryz.pinned.checked.prog ++ Tryz.f3.resultTypes.toList)) = true := by kernel_rfl
theorem closed : joinedFacts Tryz.pinned.checked.prog 3 Tryz.f3 Rows.dfaRightSpec Rows.dfaRightRow = true := by
  unfold joinedFacts
  repeat' with_reducible refine ShF.and_t ?_ ?_
  · exact fact0
  · exact ShF.fact1
  · exact ShF.fact2
  · exact fact3
  · exact fact4
  · exact fact5
  · exact ShF.fact6
  · exact fact7
  · exact ShF.fact8
  · exact fact9
  · exact fact10
  · exact fact11
  · exact fact12
  · exact fact13
  · exact fact14
  · exact fact15
  · exact fact16
  · exact fact17
  · exact fact18
  · exact fact19
  · exact fact20
  · exact fact21
  · exact ShF.fact22
  · exact fact23
  · exact ShF.fact24
  · exact ShF.fact25
  · exact ShF.fact26
  · exact ShF.fact27
  · exact fact28
  · exact fact29
  · exact fact30
  · exact fact31
theorem nam : Tryz.pinned.checked.prog.funcNamed Rows.dfaRightRow.func = some 3 := by kernel_rfl
theorem inst : Tryz.f3.isInstance Tryz.pinned.checked.prog Rows.dfaRightRow.origin Rows.dfaRightRow.targs := of_decide_eq_true (by kernel_rfl)
theorem wrap : Tryz.f3.isWrapper Tryz.pinned.checked.prog Rows.dfaRightRow.wrapper Rows.dfaRightRow.mainSum := by unfold Func.isWrapper; first | (rw [if_pos (by decide +kernel)]; kernel_rfl) | (rw [if_neg (by decide +kernel)]; exact ⟨rfl, rfl⟩)
theorem wfb : Rows.dfaRightRow.wfByText (OpenSpec.ofChange Rows.dfaRightSpec) = true := by kernel_rfl
theorem goes : false = Rows.dfaRightRow.goesBy Tryz.pinned.checked.prog := by kernel_rfl
theorem over : Rows.dfaRightRow.holds Tryz.pinned (OpenSpec.ofChange Rows.dfaRightSpec) :=
  OpenClaim.holds_of_wide 3 Tryz.f3 rfl rfl rfl rfl rfl rfl rfl ⟨rfl, rfl, rfl, rfl, rfl⟩ rfl rfl rfl rfl rfl nam Tryz.func3 closed inst wrap
    (fun os started H enc _ => lifted os started H enc)
end Go.Proofs.YtjdafbgpckmieaaGreatDoor.dfaRight
namespace Go.Proofs.YtjdafbgpckmieaaGreatDoor
open Go
theorem dfaRight_card : Rows.DfaRightCardSaid :=
  Claim7.holds_tied_plain_at .later [] [.data, .data, .data] true (true, "1e274e947be24d93a102a3d756ce7aa7f8cd1fa72b8696f1788caa67f071bd9f") true
    dfaRight.over (fun _ h => by cases h) dfaRight.wfb (fun _ h => by cases h) dfaRight_row_tie rfl ⟨rfl, rfl⟩ ShF.mainis rfl
    (fun f fn hf hfn => by
      obtain rfl : f = 3 := Option.some.inj ((show Tryz.prog.funcNamed "topiary/topiarylaw08.DfaRight" = some 3 by kernel_rfl).symm.trans hf) |>.symm
      obtain rfl : fn = Tryz.f3 := (Option.some.inj (Tryz.func3.symm.trans hfn)).symm
      refine ⟨ShF.looks, fun j t ht => ?_⟩
      rw [Tryz.params3] at ht
      rcases j with _ | j
      · obtain rfl : t = 25 := by simpa using ht.symm
        exact (show Tryz.prog.wantsStandIn 25 = false by kernel_rfl)
      rcases j with _ | j
      · obtain rfl : t = 9 := by simpa using ht.symm
        exact (show Tryz.prog.wantsStandIn 9 = false by kernel_rfl)
      simp at ht)
    dfaRight.goes
#print axioms dfaRight_card
end Go.Proofs.YtjdafbgpckmieaaGreatDoor
