/- The law DiffDiffs answers true. -/
import Derived.Test.YtnleenjmnndphaaDoorE34
set_option linter.unusedVariables false
set_option linter.unusedSimpArgs false
set_option maxRecDepth 100000
namespace Go.SK
open Go Go.RowKit Go.Proofs
variable {S : Nat → Prop} {w0 : World} {F L : List Res}
theorem diffDiffs_law (a b : ByteArray) {w : World}  (ha0 : a.size ≤ 140737488351232) (hb0 : b.size ≤ 140737488351232) (hT : Tabs w) :
    Calls Tryd.prog 3 (List.toArray [.string a, .string b]) w fun e' w' => e' = .returned (.bool true) ∧ Kp NoB w w' := by
  refine calls_start Tryd.func3 rfl rfl rfl (Hp.i1 (r := tabs) hT) ?_
  refine TC.seq ?_
  refine TC.region ?_   -- region 0 law.go:32
  refine TL.opP rfl (op_assign rfl) ?_
  refine TL.nil ?_
  refine TQ.then ?_
  refine TC.seq ?_
  refine TC.seq ?_
  refine TC.region ?_   -- region 1 law.go:33
  refine TL.opP rfl (op_move rfl) ?_
  refine TL.opP rfl (op_move rfl) ?_
  refine TL.opX rfl (OpX.buildSlice (ps := #[(0, _), (1, _)]) rfl (bs_string_2 _ _)) ?_; rintro _ _ ⟨g11, rfl, rfl⟩
  refine TL.hp (fun _ h => blk_row (k := 1) (m := 2) h rfl (by decide)) ?_
  refine TL.opX rfl (OpX.callX en_17 rfl (long_x [a, b] _ rw0)) ?_; rintro _ _ ⟨b1, rfl, hb1, rfl⟩
  refine TL.nil ?_
  refine TQ.then ?_
  first | refine TC.condD rfl (fun c1 => ?_) (fun c1 => ?_) | refine TC.condB rfl (fun c1 => ?_) (fun c1 => ?_)
  · refine TC.seq ?_
    refine TC.region ?_   -- region 2 law.go:34
    refine TL.callq rfl en_18 rfl (fun w2 hp => awake_calls w2 (tabs_at hp m1)) ?_
    refine TL.opP rfl (op_assign rfl) ?_
    refine TL.nil ?_
    refine TQ.then ?_
    refine TC.ret ?_
    refine TQ.then_ret ?_
    refine ret1 rfl rfl (fun w' hp => ?_)
    exact ⟨rfl, hp.kp⟩
  · have hza : a.size ≤ 200 := hb1 c1 a (by simp)
    have hzb : b.size ≤ 200 := hb1 c1 b (by simp)
    refine TC.skip ?_
    refine TQ.then ?_
    refine TC.seq ?_
    refine TC.region ?_   -- region 3 law.go:36
    refine TL.opP rfl (op_move rfl) ?_
    refine TL.opP rfl (op_move rfl) ?_
    refine TL.opX rfl (OpX.callX en_19 rfl (diff_x a b (by omega) (by omega) m1)) ?_; rintro _ _ ⟨w2, rfl, rfl⟩
    refine TL.opP rfl (op_move rfl) ?_
    refine TL.opP rfl (op_extract rfl rfl) ?_
    refine TL.opP rfl (op_extract rfl rfl) ?_
    refine TL.opP rfl (op_assign rfl) ?_
    refine TL.opP rfl (op_assign rfl) ?_
    refine TL.nil ?_
    refine TQ.then ?_
    refine TC.seq ?_
    refine TC.region ?_   -- region 4 law.go:37
    refine TL.opP rfl (op_move rfl) ?_
    refine TL.opP rfl (op_move rfl) ?_
    refine TL.opX rfl (OpX.callX en_20 rfl (rdiff_x a b (by omega) (by omega))) ?_; rintro _ _ ⟨w3, rfl, rfl⟩
    refine TL.opP rfl (op_move rfl) ?_
    refine TL.opP rfl (op_extract rfl rfl) ?_
    refine TL.opP rfl (op_extract rfl rfl) ?_
    refine TL.opP rfl (op_assign rfl) ?_
    refine TL.opP rfl (op_assign rfl) ?_
    refine TL.nil ?_
    refine TQ.then ?_
    refine TC.seq ?_
    refine TC.region ?_   -- region 5 law.go:38
    refine TL.opP rfl (op_move rfl) ?_
    refine TL.opP rfl (op_move rfl) ?_
    refine TL.callq rfl en_21 rfl (fun w2 hp => rsame_calls (diffF a b) (diffF a b) _ _ w2 (rw1 _ _ _ hp) (rw0 _ _ _ hp)) ?_
    refine TL.opP rfl (op_move rfl) ?_
    first | refine TL.splitD (fun c2 => ?_) (fun c2 => ?_) | refine TL.splitB (fun c2 => ?_) (fun c2 => ?_)
    · refine TL.gT rfl rfl ?_
      refine TL.opP rfl (op_move rfl) ?_
      refine TL.gT rfl rfl ?_
      refine TL.opP rfl (op_move rfl) ?_
      refine TL.gT rfl rfl ?_
      refine TL.opP rfl (op_eql rfl rfl) ?_
      refine TL.opP rfl (op_pickT rfl rfl) ?_
      refine TL.opP rfl (op_move rfl) ?_
      first | refine TL.splitD (fun c3 => ?_) (fun c3 => ?_) | refine TL.splitB (fun c3 => ?_) (fun c3 => ?_)
      · refine TL.gT rfl rfl ?_
        refine TL.callq rfl en_18 rfl (fun w2 hp => awake_calls w2 (tabs_at hp m3)) ?_
        refine TL.opP rfl (op_pickT rfl rfl) ?_
        refine TL.opP rfl (op_assign rfl) ?_
        refine TL.nil ?_
        refine TQ.then ?_
        refine TC.ret ?_
        refine ret1 rfl rfl (fun w' hp => ?_)
        exact ⟨rfl, hp.kp⟩
      · exact absurd (by first | assumption | rfl | omega) c3
    · exact absurd (by first | assumption | rfl | omega) c2

end Go.SK
