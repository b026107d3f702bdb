/- The law EditComposes answers true. -/
import Derived.Test.YtgklklmcmdcpgaaDoorE14
set_option linter.unusedVariables false
set_option linter.unusedSimpArgs false
set_option maxRecDepth 100000
namespace Go.SK
open Go Go.RowKit Go.Proofs
variable {S : Nat → Prop} {w0 : World} {F L : List Res}
theorem editComposes_law (a : List Part) (va : Value) (b : List Part) (vb : Value) {w : World} (ha : EditIn w va a) (hb : EditIn w vb b)  (hT : Tabs w) :
    Calls Tryd.prog 10 (List.toArray [va, vb]) w fun e' w' => e' = .returned (.bool true) ∧ Kp NoB w w' := by
  have ha1 := ha.rd.one
  have has := ha.small
  have hal := ha.len
  have hb1 := hb.rd.one
  have hbs := hb.small
  have hbl := hb.len
  refine calls_start Tryd.func10 rfl rfl rfl (Hp.i3 (r := tabs) (s := .rd va 3 a.length (encs a)) (t := .rd vb 3 b.length (encs b)) hT ha.rd hb.rd) ?_
  refine TC.seq ?_
  refine TC.region ?_   -- region 0 law.go:115
  refine TL.opP rfl (op_assign rfl) ?_
  refine TL.nil ?_
  refine TQ.then ?_
  refine TC.seq ?_
  refine TC.seq ?_
  refine TC.region ?_   -- region 1 law.go:116
  refine TL.opP rfl (op_move rfl) ?_
  refine TL.opP rfl (op_move rfl) ?_
  refine TL.opX rfl (OpX.buildSlice (ps := #[(0, _), (1, _)]) rfl (bs_sl_api_Part_2 _ _)) ?_; rintro _ _ ⟨g11, rfl, rfl⟩
  refine TL.hp (fun _ h => blk_row (k := 1) (m := 2) h rfl (by decide)) ?_
  refine TL.opX rfl (OpX.callX en_38 rfl (narrow_x [(va, a), (vb, b)] _ rw0 (by intro x hx; simp only [List.mem_cons, List.not_mem_nil, or_false] at hx; rcases hx with rfl | rfl <;> first | exact rd2 | exact rd3) (by intro x hx; simp only [List.mem_cons, List.not_mem_nil, or_false] at hx; rcases hx with rfl | rfl <;> first | exact has | exact hbs))) ?_; rintro _ _ ⟨b1, rfl, hb1, rfl⟩
  refine TL.opP rfl (op_not rfl rfl) ?_
  refine TL.nil ?_
  refine TQ.then ?_
  first | refine TC.condD rfl (fun c1 => ?_) (fun c1 => ?_) | refine TC.condB rfl (fun c1 => ?_) (fun c1 => ?_)
  · refine TC.seq ?_
    refine TC.region ?_   -- region 2 law.go:117
    refine TL.callq rfl en_20 rfl (fun w2 hp => awake_calls w2 (tabs_at hp m1)) ?_
    refine TL.opP rfl (op_assign rfl) ?_
    refine TL.nil ?_
    refine TQ.then ?_
    refine TC.ret ?_
    refine TQ.then_ret ?_
    refine ret1 rfl rfl (fun w' hp => ?_)
    exact ⟨rfl, hp.kp⟩
  · have haL : Light a ∧ Narrow a := hb1 (by simpa using c1) (va, a) (by simp)
    have ha2 : a.length ≤ 200 := haL.1
    have hbL : Light b ∧ Narrow b := hb1 (by simpa using c1) (vb, b) (by simp)
    have hb2 : b.length ≤ 200 := hbL.1
    refine TC.skip ?_
    refine TQ.then ?_
    refine TC.seq ?_
    refine TC.region ?_   -- region 3 law.go:119
    refine TL.opP rfl (op_move rfl) ?_
    refine TL.opP rfl (op_move rfl) ?_
    refine TL.opX rfl (OpX.callX en_45 rfl (compose_x (a) (b) _ _ has hbs (by omega) (by omega) m1 rd2 rd3)) ?_; rintro _ _ ⟨w2, rfl, rfl⟩
    refine TL.opP rfl (op_move rfl) ?_
    refine TL.opP rfl (op_extract rfl rfl) ?_
    refine TL.opP rfl (op_extract rfl rfl) ?_
    refine TL.opP rfl (op_assign rfl) ?_
    refine TL.opP rfl (op_assign rfl) ?_
    refine TL.nil ?_
    refine TQ.then ?_
    refine TC.seq ?_
    refine TC.region ?_   -- region 4 law.go:120
    refine TL.opP rfl (op_move rfl) ?_
    refine TL.opP rfl (op_move rfl) ?_
    refine TL.opX rfl (OpX.callX en_46 rfl (rcompose_x a b va vb has hbs (by omega) (by omega) (fun h => by have := haL.2 h; omega) rd3 rd4)) ?_; rintro _ _ ⟨w3, rfl, rfl⟩
    refine TL.opP rfl (op_move rfl) ?_
    refine TL.opP rfl (op_extract rfl rfl) ?_
    refine TL.opP rfl (op_extract rfl rfl) ?_
    refine TL.opP rfl (op_assign rfl) ?_
    refine TL.opP rfl (op_assign rfl) ?_
    refine TL.nil ?_
    refine TQ.then ?_
    refine TC.seq ?_
    refine TC.region ?_   -- region 5 law.go:121
    refine TL.opP rfl (op_move rfl) ?_
    refine TL.opP rfl (op_move rfl) ?_
    refine TL.callq rfl en_24 rfl (fun w2 hp => rsame_calls (compF a b) (compF a b) _ _ w2 (rw1 _ _ _ hp) (rw0 _ _ _ hp)) ?_
    refine TL.opP rfl (op_move rfl) ?_
    first | refine TL.splitD (fun c2 => ?_) (fun c2 => ?_) | refine TL.splitB (fun c2 => ?_) (fun c2 => ?_)
    · refine TL.gT rfl rfl ?_
      refine TL.opP rfl (op_move rfl) ?_
      refine TL.gT rfl rfl ?_
      refine TL.opP rfl (op_move rfl) ?_
      refine TL.gT rfl rfl ?_
      refine TL.opP rfl (op_eql rfl rfl) ?_
      refine TL.opP rfl (op_pickT rfl rfl) ?_
      refine TL.opP rfl (op_move rfl) ?_
      first | refine TL.splitD (fun c3 => ?_) (fun c3 => ?_) | refine TL.splitB (fun c3 => ?_) (fun c3 => ?_)
      · refine TL.gT rfl rfl ?_
        refine TL.callq rfl en_20 rfl (fun w2 hp => awake_calls w2 (tabs_at hp m3)) ?_
        refine TL.opP rfl (op_pickT rfl rfl) ?_
        refine TL.opP rfl (op_assign rfl) ?_
        refine TL.nil ?_
        refine TQ.then ?_
        refine TC.ret ?_
        refine ret1 rfl rfl (fun w' hp => ?_)
        exact ⟨rfl, hp.kp⟩
      · exact absurd (by first | assumption | rfl | omega) c3
    · exact absurd (by first | assumption | rfl | omega) c2

end Go.SK
