/- The law UndoFits answers true where all that comes in is of bulk at most 2^20 (the second form), and what came in reads as it did: the row, and the tied card. Conditions: the second form's bulk. -/
import Derived.Test.YtcfdglknagbbgaaDoorLUndoFits
import Derived.Test.YtcfdglknagbbgaaDoorD5
import Derived.Test.YtcfdglknagbbgaaDoorTie
import Derived.Test.YtcfdglknagbbgaaDoorCards
set_option linter.unusedVariables false
set_option maxRecDepth 100000
namespace Go.Proofs.YtcfdglknagbbgaaDoor
open Go Go.ChangeShapes Go.ChangeMaps Go.WideShapes Go.WideMaps Go.WideElems Go.RowKit Go.SK
theorem undoFits_lifted (os : Os) (started : os.Started) (H : Type) (enc : TypeId × Value → H) (F0 : Stop.Interp) :
    ReturnsInHanded {} Tryd.checked os 6 .any ((Rows.OpenSpec.upto Rows.undoFitsSpec).preRow enc Tryd.prog Tryd.f6 [] false laidL)
      (((Rows.OpenSpec.upto Rows.undoFitsSpec).at F0).post enc Tryd.prog Tryd.f6 false true false false) := by
  refine returnsInHanded_of_row (C := Tryd.checked) (F := F0) own started (by kernel_rfl) Tryd.func6
    (row_witness (enc := enc) (C := Tryd.checked) (os := os) (World.laidAll Tryd.prog os laidL) #[.string ⟨#[]⟩, .slice none 0 0] (World.laidAll_os _ _ _) (laid_shaped os) (by kernel_rfl)
      (OpenSpec.preRow_of_cond 8 (x := ([.lit (.string []), .nil], [], [])) (by kernel_rfl) (by kernel_rfl) (fun k hk => by cases hk; rfl) (by kernel_rfl) (laid_met os _))) ?_
  intro W base args ds gs before hval0 hW _ hcond0 hsz0 hL _ _
  have hcond : Rows.uptoSmall H (ds ++ gs) = true := hcond0 _ rfl
  have hval : ∀ (j : Nat) t v, Tryd.f6.params[j]? = some t → args[j]? = some v → Value.okWide Tryd.prog W .any base t v := hval0
  have hsz : (DataW.weightsEach Tryd.prog (Tryd.f6.params.toList ++ Rows.undoFitsSpec.plain.varTypes Tryd.prog) (ds ++ gs)).all (· ≤ reachBytes) = true := hsz0
  clear hval0 hsz0 hcond0
  have hW' := hW
  obtain ⟨p, q, hA0, hV0, rfl, _, _⟩ := hW
  have hV : DataW.TrodVars enc Tryd.prog W (fun _ => true) [] gs q := hV0
  obtain ⟨rfl, rfl⟩ := trodVars_none hV
  have hA : DataW.TrodAll enc Tryd.prog W 0 (fun _ => true) true [9, 22] args.toList ds p := hA0
  clear hA0 hV0
  rw [Tryd.params6] at hval hsz
  obtain ⟨v0, vs0, d0, ds0, p0, q0, e0, rfl, h0, hA0⟩ := trod_cons hA
  obtain ⟨v1, vs1, d1, ds1, p1, q1, e1, rfl, h1, hA1⟩ := trod_cons hA0
  obtain ⟨en, rfl⟩ := trod_end hA1
  have ea : args = #[v0, v1] := by apply Array.ext'; rw [e0, e1, en]
  subst ea
  obtain ⟨a0, rfl, rfl, _, _⟩ := open_string un_string (hval 0 9 v0 rfl rfl) h0
  have z0 := weigh_string (weighs hsz (j := 0) rfl rfl)
  have y0 := size_len a0
  obtain ⟨a1, i1, k1, b1⟩ := open_dosB (hval 1 22 v1 rfl rfl) h1 (weighs hsz (j := 1) rfl rfl)
  have hb := of_decide_eq_true (p := Rows.uptoBulkAll _ ≤ 1048576) hcond
  simp only [List.append_nil, Rows.uptoBulkAll, Rows.uptoBulk] at hb
  exact (undoFits_law a0 a1 v1 z0 i1 k1 (by omega) (tabs_of_laid hL)).mono fun e W1 ⟨he, hk⟩ => ⟨.bool true, he, law_post (s := (Rows.OpenSpec.upto Rows.undoFitsSpec).at F0) hW' rfl (by kernel_rfl) (by kernel_rfl) rfl hk⟩
theorem undoFits_holds : Rows.UndoFitsUptoSaid :=
  OpenClaim.holds_of_cond 6 Tryd.f6 rfl rfl rfl rfl rfl rfl rfl ⟨rfl, rfl, rfl, rfl, rfl⟩ rfl rfl rfl rfl rfl (by kernel_rfl) Tryd.func6 (by kernel_rfl)
    (of_decide_eq_true (by kernel_rfl)) (by unfold Func.isWrapper; first | (rw [if_pos (by decide +kernel)]; kernel_rfl) | (rw [if_neg (by decide +kernel)]; exact ⟨rfl, rfl⟩))
    (fun os started H enc _ F0 => by rw [OpenClaim.pre_eq_preRow]; exact undoFits_lifted os started H enc F0)
theorem undoFits_card : Rows.UndoFitsUptoCardSaid :=
  Claim7.holds_tied_plain_at .later [] [.data, .pinned] true Rows.undoFitsUptoCard.stood.harness false
    undoFits_holds (fun _ h => by cases h) (by kernel_rfl) (fun _ h => by cases h) undoFitsUpto_row_tie rfl ⟨rfl, rfl⟩ (by kernel_rfl) rfl
    (fun f fn hf hfn => by
      obtain rfl : f = 6 := Option.some.inj ((show Tryd.prog.funcNamed "sealskin/sealskinlaw17.UndoFits" = some 6 by kernel_rfl).symm.trans hf) |>.symm
      obtain rfl : fn = Tryd.f6 := (Option.some.inj (Tryd.func6.symm.trans hfn)).symm
      exact ⟨by kernel_rfl, fun j t ht => by
        rw [Tryd.params6] at ht
        have hm : t ∈ [9, 22] := by simpa using Array.mem_of_getElem? ht
        have hall : ([9, 22].all fun u => !Tryd.prog.wantsStandIn u) = true := by kernel_rfl
        exact (show Tryd.prog.wantsStandIn t = false by simpa using List.all_eq_true.1 hall t hm)⟩)
    (by kernel_rfl)
#print axioms undoFits_card
end Go.Proofs.YtcfdglknagbbgaaDoor
