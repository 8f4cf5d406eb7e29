/-
  The tied card of the law LexAll: for every input that the card speaks of, the call answers true and the arguments read as before. Conditions: the three listed tables start as the program's text lays them.
-/
import Derived.Test.YtjdafbgpckmieaaGreatDoorQLexD
import Derived.Test.YtjdafbgpckmieaaGreatDoorShR
import Derived.Test.YtjdafbgpckmieaaGreatDoorShF
import Derived.Test.YtjdafbgpckmieaaGreatDoorTie
import Derived.Test.YtjdafbgpckmieaaGreatDoorCards
import Derived.SevenTiedAt
import Derived.ChangeVars
import Derived.JoinedOf
set_option maxRecDepth 100000
set_option linter.unusedVariables false
namespace Go.Proofs.YtjdafbgpckmieaaGreatDoor.lexAll
open Go Go.ChangeShapes Go.WideShapes Go.ChangeAt Go.RowKit Go.Proofs.YtjdafbgpckmieaaGreatDoor.ShR
open Go.ChangeMaps (open_string shut_string)
theorem lifted (os : Os) (started : os.Started) (H : Type) (enc : TypeId × Value → H) :
    ReturnsInHanded {} Tryz.checked os 8 .any (fun w args => (Rows.lexAllSpec.pre enc Tryz.prog Tryz.f8 [] false w args ∧ laidMetH Tryz.prog lay w) ∧ sizedMet enc Tryz.prog Tryz.f8 (OpenSpec.ofChange Rows.lexAllSpec) false w args)
      (Rows.lexAllSpec.post enc Tryz.prog Tryz.f8 false true false false) := by
  refine returnsInHanded_of_change_and (C := Tryz.checked) (X := fun w _ => laidMetH Tryz.prog lay w) (fun _ _ _ hh h => h.of_heap hh) own started (by kernel_rfl) Tryz.func8
    (ChangeSpec.witness_at (enc := enc) (C := Tryz.checked) (os := os) (X := fun w _ => laidMetH Tryz.prog lay w) false (laidWorld os) #[.agg #[.slice none 0 0, .slice none 0 0], .string ByteArray.empty] 8 rfl (by kernel_rfl) (by kernel_rfl) (by kernel_rfl) (by kernel_rfl) (by kernel_rfl) (laidWorld_met os _)) ?_
  intro W base args ds gs before hval0 hW hcnd hsz0 hL _
  have hsz : (DataW.weightsEach Tryz.prog (Tryz.f8.params.toList ++ Rows.lexAllSpec.plain.varTypes Tryz.prog) (ds ++ gs)).all (· ≤ reachBytes) = true := hsz0
  have hval : ∀ (j : Nat) t v, Tryz.f8.params[j]? = some t → args[j]? = some v → Value.okWide Tryz.prog W .any base t v := hval0
  have hW' := hW
  obtain ⟨p, q, hA0, hV, rfl, hfz, hnd⟩ := hW
  have hA : DataW.TrodAll enc Tryz.prog W 0 (fun _ => true) true Tryz.f8.params.toList args.toList ds p := hA0
  rw [Tryz.params8] at hA hval hsz
  obtain ⟨v0, vs0, d0, ds0, p0, q0, hargs, rfl, rfl, h0, r0⟩ := trodAll_cons hA
  obtain ⟨v1, vs1, d1, ds1, p1, q1, rfl, rfl, rfl, h1, r1⟩ := trodAll_cons r0
  obtain ⟨rfl, rfl, rfl⟩ := trodAll_nil r1
  obtain rfl : args = #[v0, v1] := by cases args; simp_all
  obtain ⟨rfl, rfl⟩ := trodVars_none hV
  have k0 := h0
  have lt0 : ∀ x ∈ p0, x.block < W.heap.size := by obtain ⟨m, hm⟩ := k0; exact DataW.trod_lt m _ _ _ hm
  obtain ⟨b0, c0, ⟨Aa0, ca0, Ab0, cb0, rfl, ra0, ga0, rb0, gb0⟩, wf0⟩ := dfa_in (hval 0 25 v0 rfl rfl) h0
  obtain ⟨a1, rfl, rfl, rfl, y1⟩ := open_string Tryz.underlying9 (hval 1 9 v1 rfl rfl) h1
  have w1 : a1.size ≤ 140737488351232 := by
    have z := sized_string hsz (j := 1) (t := 9) rfl rfl
    rw [Array.length_toList] at z
    exact z
  clear hA0 hval0 hsz0 hsz
  obtain ⟨k, hk⟩ := QLex.lawAll b0 c0 a1 w1
  refine (QLex.topiarylaw10_LexAll.calls k Aa0 ca0 b0 Ab0 cb0 c0 a1 true W ra0 ga0 rb0 gb0 (laidR_of hL) hk).mono fun e W' ⟨he, bel⟩ => ?_
  subst he
  exact ⟨_, rfl, _, _, _, [], _, [], hW', trodAll_mk1 (shut_bool Tryz.underlying4 _), (trodAll_cons_mk (Below.trod laidOut (by kernel_rfl) (of_decide_eq_true (by kernel_rfl)) k0 bel lt0) (trodAll_cons_mk (shut_string Tryz.underlying9 y1) trodAll_mk0)), rfl, bel.frame _, fun h => by cases h⟩
theorem fact0 : (Rows.lexAllRow.wf (OpenSpec.ofChange Rows.lexAllSpec)) = true := by kernel_rfl
theorem fact3 : (Tryz.f8.params.all (Tryz.pinned.checked.prog.readableRec ·)) = true := by kernel_rfl
theorem fact4 : (namedTie Tryz.pinned.checked.prog Rows.lexAllRow.named Rows.lexAllSpec.vars) = true := by kernel_rfl
theorem fact5 : ((Rows.lexAllRow.stops == [])) = true := by kernel_rfl
theorem fact7 : ((Rows.lexAllRow.knobs == [])) = true := by kernel_rfl
theorem fact9 : ((Rows.lexAllRow.inPlace == Tryz.pinned.checked.prog.inPlace 8)) = true := by kernel_rfl
theorem fact10 : ((Rows.lexAllRow.unfollowed == Tryz.pinned.checked.prog.unfollowed 8)) = true := by kernel_rfl
theorem fact11 : ((Rows.lexAllRow.recurses == Tryz.pinned.checked.prog.recurses 8)) = true := by kernel_rfl
theorem fact12 : ((Rows.lexAllRow.named == Tryz.pinned.checked.prog.varsNamed 8)) = true := by kernel_rfl
theorem fact13 : ((Rows.lexAllRow.maps == (Tryz.f8.params.toList ++ Rows.lexAllSpec.plain.varTypes Tryz.pinned.checked.prog).any (Tryz.pinned.checked.prog.mapsRec ·))) = true := by kernel_rfl
theorem fact14 : ((Rows.lexAllRow.ifaces == (Tryz.f8.params.toList ++ Rows.lexAllSpec.plain.varTypes Tryz.pinned.checked.prog).any (Tryz.pinned.checked.prog.ifacesRec ·))) = true := by kernel_rfl
theorem fact15 : ((Rows.lexAllRow.mapsOut == Tryz.pinned.checked.prog.mapsAmong Tryz.f8.resultTypes.toList)) = true := by kernel_rfl
theorem fact16 : ((Rows.lexAllRow.loops == (Tryz.f8.params.toList ++ Rows.lexAllSpec.plain.varTypes Tryz.pinned.checked.prog).any (Tryz.pinned.checked.prog.loopsFrom ·))) = true := by kernel_rfl
theorem fact17 : ((Rows.lexAllRow.wideKeys == (Tryz.f8.params.toList ++ Rows.lexAllSpec.plain.varTypes Tryz.pinned.checked.prog ++ Tryz.f8.resultTypes.toList).any (Tryz.pinned.checked.prog.wideKeysFrom ·))) = true := by kernel_rfl
theorem fact18 : (Rows.lexAllSpec.vars.all (Tryz.pinned.checked.prog.varReadable ·)) = true := by kernel_rfl
theorem fact19 : (Tryz.f8.resultTypes.all (fun t => Tryz.pinned.checked.prog.readableRec t && decide (t < Tryz.pinned.checked.prog.types.size))) = true := by kernel_rfl
theorem fact20 : ((Rows.lexAllRow.ifacesOut == Tryz.f8.resultTypes.toList.any (Tryz.pinned.checked.prog.ifacesRec ·))) = true := by kernel_rfl
theorem fact21 : ((Rows.lexAllRow.loopsOut == Tryz.f8.resultTypes.toList.any (Tryz.pinned.checked.prog.loopsFrom ·))) = true := by kernel_rfl
theorem fact23 : (Rows.lexAllRow.shortTexts.isNone) = true := by kernel_rfl
theorem fact28 : ((Rows.lexAllRow.kinds == (if Rows.lexAllRow.domain.isEmpty then [] else Tryz.f8.params.toList.map fun t => match Tryz.pinned.checked.prog.underlying t with | some (.int k) => some k | _ => none))) = true := by kernel_rfl
theorem fact29 : ((Rows.lexAllRow.pinned == Rows.lexAllRow.pinnedBy)) = true := by kernel_rfl
theorem fact30 : ((Rows.lexAllRow.veiled == (Tryz.f8.params.toList ++ Rows.lexAllSpec.plain.varTypes Tryz.pinned.checked.prog ++ Tryz.f8.resultTypes.toList).any (Tryz.pinned.checked.prog.veiledRec ·))) = true := by kernel_rfl
theorem fact31 : (Rows.lexAllRow.veiledFits Tryz.pinned.checked.prog Tryz.f8.params.toList (Tryz.f8.params.toList ++ Rows.lexAllSpec.plain.varTypes Tryz.pinned.checked.prog ++ Tryz.f8.resultTypes.toList)) = true := by kernel_rfl
theorem closed : joinedFacts Tryz.pinned.checked.prog 8 Tryz.f8 Rows.lexAllSpec Rows.lexAllRow = true := by
  unfold joinedFacts
  repeat' with_reducible refine ShF.and_t ?_ ?_
  · exact fact0
  · exact ShF.fact1
  · exact ShF.fact2
  · exact fact3
  · exact fact4
  · exact fact5
  · exact ShF.fact6
  · exact fact7
  · exact ShF.fact8
  · exact fact9
  · exact fact10
  · exact fact11
  · exact fact12
  · exact fact13
  · exact fact14
  · exact fact15
  · exact fact16
  · exact fact17
  · exact fact18
  · exact fact19
  · exact fact20
  · exact fact21
  · exact ShF.fact22
  · exact fact23
  · exact ShF.fact24
  · exact ShF.fact25
  · exact ShF.fact26
  · exact ShF.fact27
  · exact fact28
  · exact fact29
  · exact fact30
  · exact fact31
theorem nam : Tryz.pinned.checked.prog.funcNamed Rows.lexAllRow.func = some 8 := by kernel_rfl
theorem inst : Tryz.f8.isInstance Tryz.pinned.checked.prog Rows.lexAllRow.origin Rows.lexAllRow.targs := of_decide_eq_true (by kernel_rfl)
theorem wrap : Tryz.f8.isWrapper Tryz.pinned.checked.prog Rows.lexAllRow.wrapper Rows.lexAllRow.mainSum := by unfold Func.isWrapper; first | (rw [if_pos (by decide +kernel)]; kernel_rfl) | (rw [if_neg (by decide +kernel)]; exact ⟨rfl, rfl⟩)
theorem wfb : Rows.lexAllRow.wfByText (OpenSpec.ofChange Rows.lexAllSpec) = true := by kernel_rfl
theorem goes : false = Rows.lexAllRow.goesBy Tryz.pinned.checked.prog := by kernel_rfl
theorem over : Rows.lexAllRow.holds Tryz.pinned (OpenSpec.ofChange Rows.lexAllSpec) :=
  OpenClaim.holds_of_wide 8 Tryz.f8 rfl rfl rfl rfl rfl rfl rfl ⟨rfl, rfl, rfl, rfl, rfl⟩ rfl rfl rfl rfl rfl nam Tryz.func8 closed inst wrap
    (fun os started H enc _ => lifted os started H enc)
end Go.Proofs.YtjdafbgpckmieaaGreatDoor.lexAll
namespace Go.Proofs.YtjdafbgpckmieaaGreatDoor
open Go
theorem lexAll_card : Rows.LexAllCardSaid :=
  Claim7.holds_tied_plain_at .later [] [.data, .data, .data] true (true, "1e274e947be24d93a102a3d756ce7aa7f8cd1fa72b8696f1788caa67f071bd9f") true
    lexAll.over (fun _ h => by cases h) lexAll.wfb (fun _ h => by cases h) lexAll_row_tie rfl ⟨rfl, rfl⟩ ShF.mainis rfl
    (fun f fn hf hfn => by
      obtain rfl : f = 8 := Option.some.inj ((show Tryz.prog.funcNamed "topiary/topiarylaw10.LexAll" = some 8 by kernel_rfl).symm.trans hf) |>.symm
      obtain rfl : fn = Tryz.f8 := (Option.some.inj (Tryz.func8.symm.trans hfn)).symm
      refine ⟨ShF.looks, fun j t ht => ?_⟩
      rw [Tryz.params8] at ht
      rcases j with _ | j
      · obtain rfl : t = 25 := by simpa using ht.symm
        exact (show Tryz.prog.wantsStandIn 25 = false by kernel_rfl)
      rcases j with _ | j
      · obtain rfl : t = 9 := by simpa using ht.symm
        exact (show Tryz.prog.wantsStandIn 9 = false by kernel_rfl)
      simp at ht)
    lexAll.goes
#print axioms lexAll_card
end Go.Proofs.YtjdafbgpckmieaaGreatDoor
