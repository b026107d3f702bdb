/- The law MatchSwaps answers true whatever comes in, and what came in reads as it did: the row, and the tied card. Conditions: none beside the form's own. -/
import Derived.Test.YtpomdenbgdgbhaaDoorLMatchSwaps
import Derived.Test.YtpomdenbgdgbhaaDoorD1
import Derived.Test.YtpomdenbgdgbhaaDoorTie
import Derived.Test.YtpomdenbgdgbhaaDoorCards
set_option linter.unusedVariables false
set_option maxRecDepth 100000
namespace Go.Proofs.YtpomdenbgdgbhaaDoor
open Go Go.ChangeShapes Go.ChangeMaps Go.WideShapes Go.WideMaps Go.WideElems Go.RowKit Go.SK
theorem matchSwaps_lifted (os : Os) (started : os.Started) (H : Type) (enc : TypeId × Value → H) :
    ReturnsInHanded {} Tryd.checked os 12 .any (fun w args => (Rows.matchSwapsSpec.pre enc Tryd.prog Tryd.f12 [] false w args ∧ laidMetH Tryd.prog laidL w) ∧ sizedMet enc Tryd.prog Tryd.f12 (OpenSpec.ofChange Rows.matchSwapsSpec) false w args)
      (Rows.matchSwapsSpec.post enc Tryd.prog Tryd.f12 false true false false) := by
  refine returnsInHanded_of_change_and (C := Tryd.checked) (X := fun w _ => laidMetH Tryd.prog laidL w) (fun _ _ _ hh h => h.of_heap hh) own started (by kernel_rfl) Tryd.func12
    (ChangeSpec.witness_shaped (enc := enc) (C := Tryd.checked) (os := os) (X := fun w _ => laidMetH Tryd.prog laidL w) false (World.laidAll Tryd.prog os laidL) #[.string ⟨#[]⟩, .string ⟨#[]⟩, .string ⟨#[]⟩] 8 (World.laidAll_os _ _ _)
      (laid_shaped os) (by kernel_rfl) (by kernel_rfl) (by kernel_rfl) (laid_met os _)) ?_
  intro W base args ds gs before hval0 hW _ hsz0 hL _
  have hval : ∀ (j : Nat) t v, Tryd.f12.params[j]? = some t → args[j]? = some v → Value.okWide Tryd.prog W .any base t v := hval0
  have hsz : (DataW.weightsEach Tryd.prog (Tryd.f12.params.toList ++ Rows.matchSwapsSpec.plain.varTypes Tryd.prog) (ds ++ gs)).all (· ≤ reachBytes) = true := hsz0
  clear hval0 hsz0
  have hW' := hW
  obtain ⟨p, q, hA0, hV0, rfl, _, _⟩ := hW
  have hV : DataW.TrodVars enc Tryd.prog W (fun _ => true) [] gs q := hV0
  obtain ⟨rfl, rfl⟩ := trodVars_none hV
  have hA : DataW.TrodAll enc Tryd.prog W 0 (fun _ => true) true [9, 9, 9] args.toList ds p := hA0
  clear hA0 hV0
  rw [Tryd.params12] at hval hsz
  obtain ⟨v0, vs0, d0, ds0, p0, q0, e0, rfl, h0, hA0⟩ := trod_cons hA
  obtain ⟨v1, vs1, d1, ds1, p1, q1, e1, rfl, h1, hA1⟩ := trod_cons hA0
  obtain ⟨v2, vs2, d2, ds2, p2, q2, e2, rfl, h2, hA2⟩ := trod_cons hA1
  obtain ⟨en, rfl⟩ := trod_end hA2
  have ea : args = #[v0, v1, v2] := by apply Array.ext'; rw [e0, e1, e2, en]
  subst ea
  obtain ⟨a0, rfl, rfl, _, _⟩ := open_string un_string (hval 0 9 v0 rfl rfl) h0
  have z0 := weigh_string (weighs hsz (j := 0) rfl rfl)
  obtain ⟨a1, rfl, rfl, _, _⟩ := open_string un_string (hval 1 9 v1 rfl rfl) h1
  have z1 := weigh_string (weighs hsz (j := 1) rfl rfl)
  obtain ⟨a2, rfl, rfl, _, _⟩ := open_string un_string (hval 2 9 v2 rfl rfl) h2
  have z2 := weigh_string (weighs hsz (j := 2) rfl rfl)
  exact (matchSwaps_law a0 a1 a2 z0 z1 z2 (tabs_of_laid hL)).mono fun e W1 ⟨he, hk⟩ => ⟨.bool true, he, law_post hW' rfl (by kernel_rfl) (by kernel_rfl) rfl hk⟩
theorem matchSwaps_holds : Rows.MatchSwapsSaid :=
  OpenClaim.holds_of_wide 12 Tryd.f12 rfl rfl rfl rfl rfl rfl rfl ⟨rfl, rfl, rfl, rfl, rfl⟩ rfl rfl rfl rfl rfl (by kernel_rfl) Tryd.func12 (by kernel_rfl)
    (of_decide_eq_true (by kernel_rfl)) (by unfold Func.isWrapper; first | (rw [if_pos (by decide +kernel)]; kernel_rfl) | (rw [if_neg (by decide +kernel)]; exact ⟨rfl, rfl⟩))
    (fun os started H enc _ => matchSwaps_lifted os started H enc)
theorem matchSwaps_card : Rows.MatchSwapsCardSaid :=
  Claim7.holds_tied_plain_at .later [] [.data, .pinned] true Rows.matchSwapsCard.stood.harness false
    matchSwaps_holds (fun _ h => by cases h) (by kernel_rfl) (fun _ h => by cases h) matchSwaps_row_tie rfl ⟨rfl, rfl⟩ (by kernel_rfl) rfl
    (fun f fn hf hfn => by
      obtain rfl : f = 12 := Option.some.inj ((show Tryd.prog.funcNamed "sealskin/sealskinlaw12.MatchSwaps" = some 12 by kernel_rfl).symm.trans hf) |>.symm
      obtain rfl : fn = Tryd.f12 := (Option.some.inj (Tryd.func12.symm.trans hfn)).symm
      exact ⟨by kernel_rfl, fun j t ht => by
        rw [Tryd.params12] at ht
        have hm : t ∈ [9, 9, 9] := by simpa using Array.mem_of_getElem? ht
        have hall : ([9, 9, 9].all fun u => !Tryd.prog.wantsStandIn u) = true := by kernel_rfl
        exact (show Tryd.prog.wantsStandIn t = false by simpa using List.all_eq_true.1 hall t hm)⟩)
    (by kernel_rfl)
#print axioms matchSwaps_card
end Go.Proofs.YtpomdenbgdgbhaaDoor
