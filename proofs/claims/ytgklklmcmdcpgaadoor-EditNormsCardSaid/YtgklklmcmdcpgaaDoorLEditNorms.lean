/- The law EditNorms answers true. -/
import Derived.Test.YtgklklmcmdcpgaaDoorE11
set_option linter.unusedVariables false
set_option linter.unusedSimpArgs false
set_option maxRecDepth 100000
namespace Go.SK
open Go Go.RowKit Go.Proofs
variable {S : Nat → Prop} {w0 : World} {F L : List Res}
theorem editNorms_law (e : List Part) (v : Value) {w : World} (he : EditIn w v e)  (hT : Tabs w) :
    Calls Tryd.prog 9 (List.toArray [v]) w fun e' w' => e' = .returned (.bool true) ∧ Kp NoB w w' := by
  have he1 := he.rd.one
  have hes := he.small
  have hel := he.len
  refine calls_start Tryd.func9 rfl rfl rfl (Hp.i2 (r := tabs) (s := .rd v 3 e.length (encs e)) hT he.rd) ?_
  refine TC.seq ?_
  refine TC.region ?_   -- region 0 law.go:72
  refine TL.opP rfl (op_assign rfl) ?_
  refine TL.nil ?_
  refine TQ.then ?_
  refine TC.seq ?_
  refine TC.seq ?_
  refine TC.region ?_   -- region 1 law.go:73
  refine TL.opP rfl (op_move rfl) ?_
  refine TL.opX rfl (OpX.buildSlice (ps := #[(0, _)]) rfl (bs_sl_api_Part_1 _)) ?_; rintro _ _ ⟨g5, rfl, rfl⟩
  refine TL.hp (fun _ h => blk_row (k := 1) (m := 1) h rfl (by decide)) ?_
  refine TL.opX rfl (OpX.callX en_26 rfl (light_x [(v, e)] _ rw0 (by intro x hx; simp only [List.mem_cons, List.not_mem_nil, or_false] at hx; rcases hx with rfl <;> first | exact rd2))) ?_; rintro _ _ ⟨b1, rfl, hb1, rfl⟩
  refine TL.opP rfl (op_not rfl rfl) ?_
  refine TL.nil ?_
  refine TQ.then ?_
  first | refine TC.condD rfl (fun c1 => ?_) (fun c1 => ?_) | refine TC.condB rfl (fun c1 => ?_) (fun c1 => ?_)
  · refine TC.seq ?_
    refine TC.region ?_   -- region 2 law.go:74
    refine TL.callq rfl en_20 rfl (fun w2 hp => awake_calls w2 (tabs_at hp m1)) ?_
    refine TL.opP rfl (op_assign rfl) ?_
    refine TL.nil ?_
    refine TQ.then ?_
    refine TC.ret ?_
    refine TQ.then_ret ?_
    refine ret1 rfl rfl (fun w' hp => ?_)
    exact ⟨rfl, hp.kp⟩
  · have heL : Light e := hb1 (by simpa using c1) (v, e) (by simp)
    have hel2 : e.length ≤ 524288 := by have : e.length ≤ 200 := heL; omega
    refine TC.skip ?_
    refine TQ.then ?_
    refine TC.seq ?_
    refine TC.region ?_   -- region 3 law.go:76
    refine TL.opP rfl (op_move rfl) ?_
    refine TL.opX rfl (OpX.callX en_41 rfl (clone_x e v hel rd2)) ?_; rintro w2 _ ⟨_, rfl, rfl⟩
    refine TL.opP rfl (op_assign rfl) ?_
    refine TL.nil ?_
    refine TQ.then ?_
    refine TC.seq ?_
    refine TC.region ?_   -- region 4 law.go:77
    refine TL.opP rfl (op_move rfl) ?_
    refine TL.opX rfl (OpX.callX en_42 rfl (norm_x e _ hes hel2 m2 rw0)) ?_; rintro w3 _ ⟨_, rfl, rfl⟩
    refine TL.opP rfl (op_move rfl) ?_
    refine TL.opX rfl (OpX.callX en_43 rfl (rnorm_x e v hes hel2 rd4)) ?_; rintro w4 _ ⟨_, rfl, rfl⟩
    refine TL.callq rfl en_24 rfl (fun w2 hp => rsame_calls (normF e) (normRef e) _ _ w2 (rw1 _ _ _ hp) (rw0 _ _ _ hp)) ?_
    refine TL.opP rfl (op_move rfl) ?_
    first | refine TL.splitD (fun c2 => ?_) (fun c2 => ?_) | refine TL.splitB (fun c2 => ?_) (fun c2 => ?_)
    · refine TL.gT rfl rfl ?_
      refine TL.opP rfl (op_move rfl) ?_
      refine TL.gT rfl rfl ?_
      refine TL.opP rfl (op_move rfl) ?_
      refine TL.gT rfl rfl ?_
      refine TL.callq rfl en_44 rfl (fun w2 hp => equal_calls e e _ _ w2 (rw2 _ _ _ hp) (rd5 _ _ _ hp)) ?_
      refine TL.opP rfl (op_pickT rfl rfl) ?_
      refine TL.opP rfl (op_move rfl) ?_
      first | refine TL.splitD (fun c3 => ?_) (fun c3 => ?_) | refine TL.splitB (fun c3 => ?_) (fun c3 => ?_)
      · refine TL.gT rfl rfl ?_
        refine TL.callq rfl en_20 rfl (fun w2 hp => awake_calls w2 (tabs_at hp m4)) ?_
        refine TL.opP rfl (op_pickT rfl rfl) ?_
        refine TL.opP rfl (op_assign rfl) ?_
        refine TL.nil ?_
        refine TQ.then ?_
        refine TC.ret ?_
        refine ret1 rfl rfl (fun w' hp => ?_)
        exact ⟨rfl, hp.kp⟩
      · exact absurd rfl c3
    · exact absurd (norm_same e) c2

end Go.SK
