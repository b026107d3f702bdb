/- The law MatchCompiles answers true whatever comes in, and what came in reads as it did: the row, and the tied card. Conditions: none beside the form's own. -/
import Derived.Test.YtpomdenbgdgbhaaDoorLMatchCompiles
import Derived.Test.YtpomdenbgdgbhaaDoorD1
import Derived.Test.YtpomdenbgdgbhaaDoorTie
import Derived.Test.YtpomdenbgdgbhaaDoorCards
set_option linter.unusedVariables false
set_option maxRecDepth 100000
namespace Go.Proofs.YtpomdenbgdgbhaaDoor
open Go Go.ChangeShapes Go.ChangeMaps Go.WideShapes Go.WideMaps Go.WideElems Go.RowKit Go.SK
theorem matchCompiles_lifted (os : Os) (started : os.Started) (H : Type) (enc : TypeId × Value → H) :
    ReturnsInHanded {} Tryd.checked os 14 .any (fun w args => (Rows.matchCompilesSpec.pre enc Tryd.prog Tryd.f14 [] false w args ∧ laidMetH Tryd.prog laidL w) ∧ sizedMet enc Tryd.prog Tryd.f14 (OpenSpec.ofChange Rows.matchCompilesSpec) false w args)
      (Rows.matchCompilesSpec.post enc Tryd.prog Tryd.f14 false true false false) := by
  refine returnsInHanded_of_change_and (C := Tryd.checked) (X := fun w _ => laidMetH Tryd.prog laidL w) (fun _ _ _ hh h => h.of_heap hh) own started (by kernel_rfl) Tryd.func14
    (ChangeSpec.witness_shaped (enc := enc) (C := Tryd.checked) (os := os) (X := fun w _ => laidMetH Tryd.prog laidL w) false (World.laidAll Tryd.prog os laidL) #[.string ⟨#[]⟩] 8 (World.laidAll_os _ _ _)
      (laid_shaped os) (by kernel_rfl) (by kernel_rfl) (by kernel_rfl) (laid_met os _)) ?_
  intro W base args ds gs before hval0 hW _ hsz0 hL _
  have hval : ∀ (j : Nat) t v, Tryd.f14.params[j]? = some t → args[j]? = some v → Value.okWide Tryd.prog W .any base t v := hval0
  have hsz : (DataW.weightsEach Tryd.prog (Tryd.f14.params.toList ++ Rows.matchCompilesSpec.plain.varTypes Tryd.prog) (ds ++ gs)).all (· ≤ reachBytes) = true := hsz0
  clear hval0 hsz0
  have hW' := hW
  obtain ⟨p, q, hA0, hV0, rfl, _, _⟩ := hW
  have hV : DataW.TrodVars enc Tryd.prog W (fun _ => true) [] gs q := hV0
  obtain ⟨rfl, rfl⟩ := trodVars_none hV
  have hA : DataW.TrodAll enc Tryd.prog W 0 (fun _ => true) true [9] args.toList ds p := hA0
  clear hA0 hV0
  rw [Tryd.params14] at hval hsz
  obtain ⟨v0, vs0, d0, ds0, p0, q0, e0, rfl, h0, hA0⟩ := trod_cons hA
  obtain ⟨en, rfl⟩ := trod_end hA0
  have ea : args = #[v0] := by apply Array.ext'; rw [e0, en]
  subst ea
  obtain ⟨a0, rfl, rfl, _, _⟩ := open_string un_string (hval 0 9 v0 rfl rfl) h0
  have z0 := weigh_string (weighs hsz (j := 0) rfl rfl)
  exact (matchCompiles_law a0 z0 (tabs_of_laid hL)).mono fun e W1 ⟨he, hk⟩ => ⟨.bool true, he, law_post hW' rfl (by kernel_rfl) (by kernel_rfl) rfl hk⟩
theorem matchCompiles_holds : Rows.MatchCompilesSaid :=
  OpenClaim.holds_of_wide 14 Tryd.f14 rfl rfl rfl rfl rfl rfl rfl ⟨rfl, rfl, rfl, rfl, rfl⟩ rfl rfl rfl rfl rfl (by kernel_rfl) Tryd.func14 (by kernel_rfl)
    (of_decide_eq_true (by kernel_rfl)) (by unfold Func.isWrapper; first | (rw [if_pos (by decide +kernel)]; kernel_rfl) | (rw [if_neg (by decide +kernel)]; exact ⟨rfl, rfl⟩))
    (fun os started H enc _ => matchCompiles_lifted os started H enc)
theorem matchCompiles_card : Rows.MatchCompilesCardSaid :=
  Claim7.holds_tied_plain_at .later [] [.data, .pinned] true Rows.matchCompilesCard.stood.harness false
    matchCompiles_holds (fun _ h => by cases h) (by kernel_rfl) (fun _ h => by cases h) matchCompiles_row_tie rfl ⟨rfl, rfl⟩ (by kernel_rfl) rfl
    (fun f fn hf hfn => by
      obtain rfl : f = 14 := Option.some.inj ((show Tryd.prog.funcNamed "sealskin/sealskinlaw12.MatchCompiles" = some 14 by kernel_rfl).symm.trans hf) |>.symm
      obtain rfl : fn = Tryd.f14 := (Option.some.inj (Tryd.func14.symm.trans hfn)).symm
      exact ⟨by kernel_rfl, fun j t ht => by
        rw [Tryd.params14] at ht
        have hm : t ∈ [9] := by simpa using Array.mem_of_getElem? ht
        have hall : ([9].all fun u => !Tryd.prog.wantsStandIn u) = true := by kernel_rfl
        exact (show Tryd.prog.wantsStandIn t = false by simpa using List.all_eq_true.1 hall t hm)⟩)
    (by kernel_rfl)
#print axioms matchCompiles_card
end Go.Proofs.YtpomdenbgdgbhaaDoor
