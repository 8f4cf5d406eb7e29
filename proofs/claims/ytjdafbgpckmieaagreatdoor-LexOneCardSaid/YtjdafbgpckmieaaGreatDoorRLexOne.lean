/-
  The tied card of the law LexOne: for every input that the card speaks of, the call answers true and the arguments read as before. Conditions: the three listed tables start as the program's text lays them.
-/
import Derived.Test.YtjdafbgpckmieaaGreatDoorQLexL
import Derived.Test.YtjdafbgpckmieaaGreatDoorShR
import Derived.Test.YtjdafbgpckmieaaGreatDoorShF
import Derived.Test.YtjdafbgpckmieaaGreatDoorTie
import Derived.Test.YtjdafbgpckmieaaGreatDoorCards
import Derived.SevenTiedAt
import Derived.ChangeVars
import Derived.JoinedOf
set_option maxRecDepth 100000
set_option linter.unusedVariables false
namespace Go.Proofs.YtjdafbgpckmieaaGreatDoor.lexOne
open Go Go.ChangeShapes Go.WideShapes Go.ChangeAt Go.RowKit Go.Proofs.YtjdafbgpckmieaaGreatDoor.ShR
open Go.ChangeMaps (open_string shut_string)
theorem lifted (os : Os) (started : os.Started) (H : Type) (enc : TypeId × Value → H) :
    ReturnsInHanded {} Tryz.checked os 9 .any (fun w args => (Rows.lexOneSpec.pre enc Tryz.prog Tryz.f9 [] false w args ∧ laidMetH Tryz.prog lay w) ∧ sizedMet enc Tryz.prog Tryz.f9 (OpenSpec.ofChange Rows.lexOneSpec) false w args)
      (Rows.lexOneSpec.post enc Tryz.prog Tryz.f9 false true false false) := by
  refine returnsInHanded_of_change_and (C := Tryz.checked) (X := fun w _ => laidMetH Tryz.prog lay w) (fun _ _ _ hh h => h.of_heap hh) own started (by kernel_rfl) Tryz.func9
    (ChangeSpec.witness_at (enc := enc) (C := Tryz.checked) (os := os) (X := fun w _ => laidMetH Tryz.prog lay w) false (laidWorld os) #[.agg #[.slice none 0 0, .slice none 0 0], .string ByteArray.empty, .int .i64 0] 8 rfl (by kernel_rfl) (by kernel_rfl) (by kernel_rfl) (by kernel_rfl) (by kernel_rfl) (laidWorld_met os _)) ?_
  intro W base args ds gs before hval0 hW hcnd hsz0 hL _
  have hsz : (DataW.weightsEach Tryz.prog (Tryz.f9.params.toList ++ Rows.lexOneSpec.plain.varTypes Tryz.prog) (ds ++ gs)).all (· ≤ reachBytes) = true := hsz0
  have hval : ∀ (j : Nat) t v, Tryz.f9.params[j]? = some t → args[j]? = some v → Value.okWide Tryz.prog W .any base t v := hval0
  have hW' := hW
  obtain ⟨p, q, hA0, hV, rfl, hfz, hnd⟩ := hW
  have hA : DataW.TrodAll enc Tryz.prog W 0 (fun _ => true) true Tryz.f9.params.toList args.toList ds p := hA0
  rw [Tryz.params9] at hA hval hsz
  obtain ⟨v0, vs0, d0, ds0, p0, q0, hargs, rfl, rfl, h0, r0⟩ := trodAll_cons hA
  obtain ⟨v1, vs1, d1, ds1, p1, q1, rfl, rfl, rfl, h1, r1⟩ := trodAll_cons r0
  obtain ⟨v2, vs2, d2, ds2, p2, q2, rfl, rfl, rfl, h2, r2⟩ := trodAll_cons r1
  obtain ⟨rfl, rfl, rfl⟩ := trodAll_nil r2
  obtain rfl : args = #[v0, v1, v2] := by cases args; simp_all
  obtain ⟨rfl, rfl⟩ := trodVars_none hV
  have k0 := h0
  have lt0 : ∀ x ∈ p0, x.block < W.heap.size := by obtain ⟨m, hm⟩ := k0; exact DataW.trod_lt m _ _ _ hm
  obtain ⟨b0, c0, ⟨Aa0, ca0, Ab0, cb0, rfl, ra0, ga0, rb0, gb0⟩, wf0⟩ := dfa_in (hval 0 25 v0 rfl rfl) h0
  obtain ⟨a1, rfl, rfl, rfl, y1⟩ := open_string Tryz.underlying9 (hval 1 9 v1 rfl rfl) h1
  have w1 : a1.size ≤ 140737488351232 := by
    have z := sized_string hsz (j := 1) (t := 9) rfl rfl
    rw [Array.length_toList] at z
    exact z
  obtain ⟨a2, rfl, rfl, rfl, w2⟩ := open_int Tryz.underlying3 (hval 2 3 v2 rfl rfl) h2
  clear hA0 hval0 hsz0 hsz
  obtain ⟨k, hk⟩ := QLex.lawOne b0 c0 a1 a2 w1 w2
  refine (QLex.topiarylaw10_LexOne.calls k Aa0 ca0 b0 Ab0 cb0 c0 a1 a2 true W ra0 ga0 rb0 gb0 (laidR_of hL) hk).mono fun e W' ⟨he, bel⟩ => ?_
  subst he
  exact ⟨_, rfl, _, _, _, [], _, [], hW', trodAll_mk1 (shut_bool Tryz.underlying4 _), (trodAll_cons_mk (Below.trod laidOut (by kernel_rfl) (of_decide_eq_true (by kernel_rfl)) k0 bel lt0) (trodAll_cons_mk (shut_string Tryz.underlying9 y1) (trodAll_cons_mk (shut_int Tryz.underlying3 w2) trodAll_mk0))), rfl, bel.frame _, fun h => by cases h⟩
theorem fact0 : (Rows.lexOneRow.wf (OpenSpec.ofChange Rows.lexOneSpec)) = true := by kernel_rfl
theorem fact3 : (Tryz.f9.params.all (Tryz.pinned.checked.prog.readableRec ·)) = true := by kernel_rfl
theorem fact4 : (namedTie Tryz.pinned.checked.prog Rows.lexOneRow.named Rows.lexOneSpec.vars) = true := by kernel_rfl
theorem fact5 : ((Rows.lexOneRow.stops == [])) = true := by kernel_rfl
theorem fact7 : ((Rows.lexOneRow.knobs == [])) = true := by kernel_rfl
theorem fact9 : ((Rows.lexOneRow.inPlace == Tryz.pinned.checked.prog.inPlace 9)) = true := by kernel_rfl
theorem fact10 : ((Rows.lexOneRow.unfollowed == Tryz.pinned.checked.prog.unfollowed 9)) = true := by kernel_rfl
theorem fact11 : ((Rows.lexOneRow.recurses == Tryz.pinned.checked.prog.recurses 9)) = true := by kernel_rfl
theorem fact12 : ((Rows.lexOneRow.named == Tryz.pinned.checked.prog.varsNamed 9)) = true := by kernel_rfl
theorem fact13 : ((Rows.lexOneRow.maps == (Tryz.f9.params.toList ++ Rows.lexOneSpec.plain.varTypes Tryz.pinned.checked.prog).any (Tryz.pinned.checked.prog.mapsRec ·))) = true := by kernel_rfl
theorem fact14 : ((Rows.lexOneRow.ifaces == (Tryz.f9.params.toList ++ Rows.lexOneSpec.plain.varTypes Tryz.pinned.checked.prog).any (Tryz.pinned.checked.prog.ifacesRec ·))) = true := by kernel_rfl
theorem fact15 : ((Rows.lexOneRow.mapsOut == Tryz.pinned.checked.prog.mapsAmong Tryz.f9.resultTypes.toList)) = true := by kernel_rfl
theorem fact16 : ((Rows.lexOneRow.loops == (Tryz.f9.params.toList ++ Rows.lexOneSpec.plain.varTypes Tryz.pinned.checked.prog).any (Tryz.pinned.checked.prog.loopsFrom ·))) = true := by kernel_rfl
theorem fact17 : ((Rows.lexOneRow.wideKeys == (Tryz.f9.params.toList ++ Rows.lexOneSpec.plain.varTypes Tryz.pinned.checked.prog ++ Tryz.f9.resultTypes.toList).any (Tryz.pinned.checked.prog.wideKeysFrom ·))) = true := by kernel_rfl
theorem fact18 : (Rows.lexOneSpec.vars.all (Tryz.pinned.checked.prog.varReadable ·)) = true := by kernel_rfl
theorem fact19 : (Tryz.f9.resultTypes.all (fun t => Tryz.pinned.checked.prog.readableRec t && decide (t < Tryz.pinned.checked.prog.types.size))) = true := by kernel_rfl
theorem fact20 : ((Rows.lexOneRow.ifacesOut == Tryz.f9.resultTypes.toList.any (Tryz.pinned.checked.prog.ifacesRec ·))) = true := by kernel_rfl
theorem fact21 : ((Rows.lexOneRow.loopsOut == Tryz.f9.resultTypes.toList.any (Tryz.pinned.checked.prog.loopsFrom ·))) = true := by kernel_rfl
theorem fact23 : (Rows.lexOneRow.shortTexts.isNone) = true := by kernel_rfl
theorem fact28 : ((Rows.lexOneRow.kinds == (if Rows.lexOneRow.domain.isEmpty then [] else Tryz.f9.params.toList.map fun t => match Tryz.pinned.checked.prog.underlying t with | some (.int k) => some k | _ => none))) = true := by kernel_rfl
theorem fact29 : ((Rows.lexOneRow.pinned == Rows.lexOneRow.pinnedBy)) = true := by kernel_rfl
theorem fact30 : ((Rows.lexOneRow.veiled == (Tryz.f9.params.toList ++ Rows.lexOneSpec.plain.varTypes Tryz.pinned.checked.prog ++ Tryz.f9.resultTypes.toList).any (Tryz.pinned.checked.prog.veiledRec ·))) = true := by kernel_rfl
theorem fact31 : (Rows.lexOneRow.veiledFits Tryz.pinned.checked.prog Tryz.f9.params.toList (Tryz.f9.params.toList ++ Rows.lexOneSpec.plain.varTypes Tryz.pinned.checked.prog ++ Tryz.f9.resultTypes.toList)) = true := by kernel_rfl
theorem closed : joinedFacts Tryz.pinned.checked.prog 9 Tryz.f9 Rows.lexOneSpec Rows.lexOneRow = true := by
  unfold joinedFacts
  repeat' with_reducible refine ShF.and_t ?_ ?_
  · exact fact0
  · exact ShF.fact1
  · exact ShF.fact2
  · exact fact3
  · exact fact4
  · exact fact5
  · exact ShF.fact6
  · exact fact7
  · exact ShF.fact8
  · exact fact9
  · exact fact10
  · exact fact11
  · exact fact12
  · exact fact13
  · exact fact14
  · exact fact15
  · exact fact16
  · exact fact17
  · exact fact18
  · exact fact19
  · exact fact20
  · exact fact21
  · exact ShF.fact22
  · exact fact23
  · exact ShF.fact24
  · exact ShF.fact25
  · exact ShF.fact26
  · exact ShF.fact27
  · exact fact28
  · exact fact29
  · exact fact30
  · exact fact31
theorem nam : Tryz.pinned.checked.prog.funcNamed Rows.lexOneRow.func = some 9 := by kernel_rfl
theorem inst : Tryz.f9.isInstance Tryz.pinned.checked.prog Rows.lexOneRow.origin Rows.lexOneRow.targs := of_decide_eq_true (by kernel_rfl)
theorem wrap : Tryz.f9.isWrapper Tryz.pinned.checked.prog Rows.lexOneRow.wrapper Rows.lexOneRow.mainSum := by unfold Func.isWrapper; first | (rw [if_pos (by decide +kernel)]; kernel_rfl) | (rw [if_neg (by decide +kernel)]; exact ⟨rfl, rfl⟩)
theorem wfb : Rows.lexOneRow.wfByText (OpenSpec.ofChange Rows.lexOneSpec) = true := by kernel_rfl
theorem goes : false = Rows.lexOneRow.goesBy Tryz.pinned.checked.prog := by kernel_rfl
theorem over : Rows.lexOneRow.holds Tryz.pinned (OpenSpec.ofChange Rows.lexOneSpec) :=
  OpenClaim.holds_of_wide 9 Tryz.f9 rfl rfl rfl rfl rfl rfl rfl ⟨rfl, rfl, rfl, rfl, rfl⟩ rfl rfl rfl rfl rfl nam Tryz.func9 closed inst wrap
    (fun os started H enc _ => lifted os started H enc)
end Go.Proofs.YtjdafbgpckmieaaGreatDoor.lexOne
namespace Go.Proofs.YtjdafbgpckmieaaGreatDoor
open Go
theorem lexOne_card : Rows.LexOneCardSaid :=
  Claim7.holds_tied_plain_at .later [] [.data, .data, .data] true (true, "1e274e947be24d93a102a3d756ce7aa7f8cd1fa72b8696f1788caa67f071bd9f") true
    lexOne.over (fun _ h => by cases h) lexOne.wfb (fun _ h => by cases h) lexOne_row_tie rfl ⟨rfl, rfl⟩ ShF.mainis rfl
    (fun f fn hf hfn => by
      obtain rfl : f = 9 := Option.some.inj ((show Tryz.prog.funcNamed "topiary/topiarylaw10.LexOne" = some 9 by kernel_rfl).symm.trans hf) |>.symm
      obtain rfl : fn = Tryz.f9 := (Option.some.inj (Tryz.func9.symm.trans hfn)).symm
      refine ⟨ShF.looks, fun j t ht => ?_⟩
      rw [Tryz.params9] at ht
      rcases j with _ | j
      · obtain rfl : t = 25 := by simpa using ht.symm
        exact (show Tryz.prog.wantsStandIn 25 = false by kernel_rfl)
      rcases j with _ | j
      · obtain rfl : t = 9 := by simpa using ht.symm
        exact (show Tryz.prog.wantsStandIn 9 = false by kernel_rfl)
      rcases j with _ | j
      · obtain rfl : t = 3 := by simpa using ht.symm
        exact (show Tryz.prog.wantsStandIn 3 = false by kernel_rfl)
      simp at ht)
    lexOne.goes
#print axioms lexOne_card
end Go.Proofs.YtjdafbgpckmieaaGreatDoor
