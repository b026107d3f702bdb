/- The law UndoPlays answers true whatever comes in, and what came in reads as it did: the row, and the tied card. Conditions: none beside the form's own. -/
import Derived.Test.YtlbaebaimhbbfaaDoorLUndoPlays
import Derived.Test.YtlbaebaimhbbfaaDoorD3
import Derived.Test.YtlbaebaimhbbfaaDoorTie
import Derived.Test.YtlbaebaimhbbfaaDoorCards
set_option linter.unusedVariables false
set_option maxRecDepth 100000
namespace Go.Proofs.YtlbaebaimhbbfaaDoor
open Go Go.ChangeShapes Go.ChangeMaps Go.WideShapes Go.WideMaps Go.WideElems Go.RowKit Go.SK
theorem undoPlays_lifted (os : Os) (started : os.Started) (H : Type) (enc : TypeId × Value → H) :
    ReturnsInHanded {} Tryd.checked os 3 .any (fun w args => (Rows.undoPlaysSpec.pre enc Tryd.prog Tryd.f3 [] false w args ∧ laidMetH Tryd.prog laidL w) ∧ sizedMet enc Tryd.prog Tryd.f3 (OpenSpec.ofChange Rows.undoPlaysSpec) false w args)
      (Rows.undoPlaysSpec.post enc Tryd.prog Tryd.f3 false true false false) := by
  refine returnsInHanded_of_change_and (C := Tryd.checked) (X := fun w _ => laidMetH Tryd.prog laidL w) (fun _ _ _ hh h => h.of_heap hh) own started (by kernel_rfl) Tryd.func3
    (ChangeSpec.witness_shaped (enc := enc) (C := Tryd.checked) (os := os) (X := fun w _ => laidMetH Tryd.prog laidL w) false (World.laidAll Tryd.prog os laidL) #[.string ⟨#[]⟩, .slice none 0 0] 8 (World.laidAll_os _ _ _)
      (laid_shaped os) (by kernel_rfl) (by kernel_rfl) (by kernel_rfl) (laid_met os _)) ?_
  intro W base args ds gs before hval0 hW _ hsz0 hL _
  have hval : ∀ (j : Nat) t v, Tryd.f3.params[j]? = some t → args[j]? = some v → Value.okWide Tryd.prog W .any base t v := hval0
  have hsz : (DataW.weightsEach Tryd.prog (Tryd.f3.params.toList ++ Rows.undoPlaysSpec.plain.varTypes Tryd.prog) (ds ++ gs)).all (· ≤ reachBytes) = true := hsz0
  clear hval0 hsz0
  have hW' := hW
  obtain ⟨p, q, hA0, hV0, rfl, _, _⟩ := hW
  have hV : DataW.TrodVars enc Tryd.prog W (fun _ => true) [] gs q := hV0
  obtain ⟨rfl, rfl⟩ := trodVars_none hV
  have hA : DataW.TrodAll enc Tryd.prog W 0 (fun _ => true) true [9, 22] args.toList ds p := hA0
  clear hA0 hV0
  rw [Tryd.params3] at hval hsz
  obtain ⟨v0, vs0, d0, ds0, p0, q0, e0, rfl, h0, hA0⟩ := trod_cons hA
  obtain ⟨v1, vs1, d1, ds1, p1, q1, e1, rfl, h1, hA1⟩ := trod_cons hA0
  obtain ⟨en, rfl⟩ := trod_end hA1
  have ea : args = #[v0, v1] := by apply Array.ext'; rw [e0, e1, en]
  subst ea
  obtain ⟨a0, rfl, rfl, _, _⟩ := open_string un_string (hval 0 9 v0 rfl rfl) h0
  have z0 := weigh_string (weighs hsz (j := 0) rfl rfl)
  obtain ⟨a1, i1, k1⟩ := open_dos (hval 1 22 v1 rfl rfl) h1 (weighs hsz (j := 1) rfl rfl)
  exact (undoPlays_law a0 a1 v1 z0 i1 k1 (tabs_of_laid hL)).mono fun e W1 ⟨he, hk⟩ => ⟨.bool true, he, law_post hW' rfl (by kernel_rfl) (by kernel_rfl) rfl hk⟩
theorem undoPlays_holds : Rows.UndoPlaysSaid :=
  OpenClaim.holds_of_wide 3 Tryd.f3 rfl rfl rfl rfl rfl rfl rfl ⟨rfl, rfl, rfl, rfl, rfl⟩ rfl rfl rfl rfl rfl (by kernel_rfl) Tryd.func3 (by kernel_rfl)
    (of_decide_eq_true (by kernel_rfl)) (by unfold Func.isWrapper; first | (rw [if_pos (by decide +kernel)]; kernel_rfl) | (rw [if_neg (by decide +kernel)]; exact ⟨rfl, rfl⟩))
    (fun os started H enc _ => undoPlays_lifted os started H enc)
theorem undoPlays_card : Rows.UndoPlaysCardSaid :=
  Claim7.holds_tied_plain_at .later [] [.data, .pinned] true Rows.undoPlaysCard.stood.harness false
    undoPlays_holds (fun _ h => by cases h) (by kernel_rfl) (fun _ h => by cases h) undoPlays_row_tie rfl ⟨rfl, rfl⟩ (by kernel_rfl) rfl
    (fun f fn hf hfn => by
      obtain rfl : f = 3 := Option.some.inj ((show Tryd.prog.funcNamed "sealskin/sealskinlaw17.UndoPlays" = some 3 by kernel_rfl).symm.trans hf) |>.symm
      obtain rfl : fn = Tryd.f3 := (Option.some.inj (Tryd.func3.symm.trans hfn)).symm
      exact ⟨by kernel_rfl, fun j t ht => by
        rw [Tryd.params3] at ht
        have hm : t ∈ [9, 22] := by simpa using Array.mem_of_getElem? ht
        have hall : ([9, 22].all fun u => !Tryd.prog.wantsStandIn u) = true := by kernel_rfl
        exact (show Tryd.prog.wantsStandIn t = false by simpa using List.all_eq_true.1 hall t hm)⟩)
    (by kernel_rfl)
#print axioms undoPlays_card
end Go.Proofs.YtlbaebaimhbbfaaDoor
