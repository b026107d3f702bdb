/- The law EditApplies answers true. -/
import Derived.Test.YtgklklmcmdcpgaaDoorE14
set_option linter.unusedVariables false
set_option linter.unusedSimpArgs false
set_option maxRecDepth 100000
namespace Go.SK
open Go Go.RowKit Go.Proofs
variable {S : Nat → Prop} {w0 : World} {F L : List Res}
theorem editApplies_law (e : List Part) (v : Value) (s : ByteArray) {w : World} (he : EditIn w v e) (hss : s.size ≤ 140737488351232) (hT : Tabs w) :
    Calls Tryd.prog 6 (List.toArray [v, .string s]) w fun e' w' => e' = .returned (.bool true) ∧ Kp NoB w w' := by
  have he1 := he.rd.one
  have hes := he.small
  have hel := he.len
  refine calls_start Tryd.func6 rfl rfl rfl (Hp.i2 (r := tabs) (s := .rd v 3 e.length (encs e)) hT he.rd) ?_
  refine TC.seq ?_
  refine TC.region ?_   -- region 0 law.go:103
  refine TL.opP rfl (op_assign rfl) ?_
  refine TL.nil ?_
  refine TQ.then ?_
  refine TC.seq ?_
  refine TC.seq ?_
  refine TC.region ?_   -- region 1 law.go:104
  refine TL.opP rfl (op_move rfl) ?_
  refine TL.opX rfl (OpX.buildSlice (ps := #[(0, _)]) rfl (bs_sl_api_Part_1 _)) ?_; rintro _ _ ⟨g14, rfl, rfl⟩
  refine TL.hp (fun _ h => blk_row (k := 1) (m := 1) h rfl (by decide)) ?_
  refine TL.opX rfl (OpX.callX en_26 rfl (light_x [(v, e)] _ rw0 (by intro x hx; simp only [List.mem_cons, List.not_mem_nil, or_false] at hx; rcases hx with rfl <;> first | exact rd2))) ?_; rintro _ _ ⟨b1, rfl, hb1, rfl⟩
  refine TL.opP rfl (op_not rfl rfl) ?_
  refine TL.opP rfl (op_move rfl) ?_
  first | refine TL.splitD (fun c1 => ?_) (fun c1 => ?_) | refine TL.splitB (fun c1 => ?_) (fun c1 => ?_)
  · refine TL.gFt rfl rfl rfl ?_
    refine TL.gFt rfl rfl rfl ?_
    refine TL.gFt rfl rfl rfl ?_
    refine TL.opP rfl (op_pickT rfl rfl) ?_
    refine TL.nil ?_
    refine TQ.then ?_
    refine TC.condT rfl ?_
    refine TC.seq ?_
    refine TC.region ?_   -- region 2 law.go:105
    refine TL.callq rfl en_20 rfl (fun w2 hp => awake_calls w2 (tabs_at hp m1)) ?_
    refine TL.opP rfl (op_assign rfl) ?_
    refine TL.nil ?_
    refine TQ.then ?_
    refine TC.ret ?_
    refine TQ.then_ret ?_
    refine ret1 rfl rfl (fun w' hp => ?_)
    exact ⟨rfl, hp.kp⟩
  · have heL : Light e := (hb1 (by simpa using c1)).1 (v, e) (by simp)
    have he2 : e.length ≤ 200 := heL
    refine TL.gT rfl rfl ?_
    refine TL.opP rfl (op_move rfl) ?_
    refine TL.gT rfl rfl ?_
    refine TL.opP rfl (op_slen rfl un_string rfl) ?_
    refine TL.gT rfl rfl ?_
    refine TL.opP rfl (op_gtr rfl rfl) ?_
    refine TL.opP rfl (op_pickF rfl rfl) ?_
    refine TL.nil ?_
    refine TQ.then ?_
    first | refine TC.condD rfl (fun c2 => ?_) (fun c2 => ?_) | refine TC.condB rfl (fun c2 => ?_) (fun c2 => ?_)
    · refine TC.seq ?_
      refine TC.region ?_   -- region 2 law.go:105
      refine TL.callq rfl en_20 rfl (fun w2 hp => awake_calls w2 (tabs_at hp m1)) ?_
      refine TL.opP rfl (op_assign rfl) ?_
      refine TL.nil ?_
      refine TQ.then ?_
      refine TC.ret ?_
      refine TQ.then_ret ?_
      refine ret1 rfl rfl (fun w' hp => ?_)
      exact ⟨rfl, hp.kp⟩
    · refine TC.skip ?_
      refine TQ.then ?_
      refine TC.seq ?_
      refine TC.region ?_   -- region 3 law.go:107
      refine TL.opP rfl (op_move rfl) ?_
      refine TL.opP rfl (op_move rfl) ?_
      refine TL.callq rfl en_34 rfl (fun w2 hp => apply_calls (e) (s) _ (by omega) w2 (tabs_at hp m1) hes (rd2 _ _ _ hp)) ?_
      refine TL.opP rfl (op_move rfl) ?_
      refine TL.opP rfl (op_extract rfl rfl) ?_
      refine TL.opP rfl (op_extract rfl rfl) ?_
      refine TL.opP rfl (op_assign rfl) ?_
      refine TL.opP rfl (op_assign rfl) ?_
      refine TL.nil ?_
      refine TQ.then ?_
      refine TC.seq ?_
      refine TC.region ?_   -- region 4 law.go:108
      refine TL.opP rfl (op_move rfl) ?_
      refine TL.opP rfl (op_move rfl) ?_
      refine TL.callq rfl en_35 rfl (fun w2 hp => rapply_calls e s v (by omega) (by omega) w2 hes (rd2 _ _ _ hp)) ?_
      refine TL.opP rfl (op_move rfl) ?_
      refine TL.opP rfl (op_extract rfl rfl) ?_
      refine TL.opP rfl (op_extract rfl rfl) ?_
      refine TL.opP rfl (op_assign rfl) ?_
      refine TL.opP rfl (op_assign rfl) ?_
      refine TL.nil ?_
      refine TQ.then ?_
      refine TC.seq ?_
      refine TC.region ?_   -- region 5 law.go:109
      refine TL.opP rfl (op_move rfl) ?_
      refine TL.opP rfl (op_move rfl) ?_
      refine TL.opX rfl (OpX.callX en_36 rfl (invert_x (e) (s) _ (by omega) hes (by omega) m1 rd2)) ?_; rintro _ _ ⟨w2, rfl, rfl⟩
      refine TL.opP rfl (op_move rfl) ?_
      refine TL.opP rfl (op_extract rfl rfl) ?_
      refine TL.opP rfl (op_extract rfl rfl) ?_
      refine TL.opP rfl (op_assign rfl) ?_
      refine TL.opP rfl (op_assign rfl) ?_
      refine TL.nil ?_
      refine TQ.then ?_
      refine TC.seq ?_
      refine TC.region ?_   -- region 6 law.go:110
      refine TL.opP rfl (op_move rfl) ?_
      refine TL.opP rfl (op_move rfl) ?_
      refine TL.opX rfl (OpX.callX en_37 rfl (rinvert_x e s v (by omega) hes (by omega) rd3)) ?_; rintro _ _ ⟨w3, rfl, rfl⟩
      refine TL.opP rfl (op_move rfl) ?_
      refine TL.opP rfl (op_extract rfl rfl) ?_
      refine TL.opP rfl (op_extract rfl rfl) ?_
      refine TL.opP rfl (op_assign rfl) ?_
      refine TL.opP rfl (op_assign rfl) ?_
      refine TL.nil ?_
      refine TQ.then ?_
      refine TC.seq ?_
      refine TC.region ?_   -- region 7 law.go:111
      refine TL.opP rfl (op_move rfl) ?_
      refine TL.opP rfl (op_move rfl) ?_
      refine TL.opP rfl (op_seql rfl rfl) ?_
      refine TL.opP rfl (op_move rfl) ?_
      first | refine TL.splitD (fun c3 => ?_) (fun c3 => ?_) | refine TL.splitB (fun c3 => ?_) (fun c3 => ?_)
      · refine TL.gT rfl rfl ?_
        refine TL.opP rfl (op_move rfl) ?_
        refine TL.gT rfl rfl ?_
        refine TL.opP rfl (op_move rfl) ?_
        refine TL.gT rfl rfl ?_
        refine TL.opP rfl (op_eql rfl rfl) ?_
        refine TL.opP rfl (op_pickT rfl rfl) ?_
        refine TL.opP rfl (op_move rfl) ?_
        first | refine TL.splitD (fun c4 => ?_) (fun c4 => ?_) | refine TL.splitB (fun c4 => ?_) (fun c4 => ?_)
        · refine TL.gT rfl rfl ?_
          refine TL.opP rfl (op_move rfl) ?_
          refine TL.gT rfl rfl ?_
          refine TL.opP rfl (op_move rfl) ?_
          refine TL.gT rfl rfl ?_
          refine TL.callq rfl en_24 rfl (fun w2 hp => rsame_calls (invF e s) (invF e s) _ _ w2 (rw1 _ _ _ hp) (rw0 _ _ _ hp)) ?_
          refine TL.opP rfl (op_pickT rfl rfl) ?_
          refine TL.opP rfl (op_move rfl) ?_
          first | refine TL.splitD (fun c5 => ?_) (fun c5 => ?_) | refine TL.splitB (fun c5 => ?_) (fun c5 => ?_)
          · refine TL.gT rfl rfl ?_
            refine TL.opP rfl (op_move rfl) ?_
            refine TL.gT rfl rfl ?_
            refine TL.opP rfl (op_move rfl) ?_
            refine TL.gT rfl rfl ?_
            refine TL.opP rfl (op_eql rfl rfl) ?_
            refine TL.opP rfl (op_pickT rfl rfl) ?_
            refine TL.opP rfl (op_move rfl) ?_
            first | refine TL.splitD (fun c6 => ?_) (fun c6 => ?_) | refine TL.splitB (fun c6 => ?_) (fun c6 => ?_)
            · refine TL.gT rfl rfl ?_
              refine TL.callq rfl en_20 rfl (fun w2 hp => awake_calls w2 (tabs_at hp m3)) ?_
              refine TL.opP rfl (op_pickT rfl rfl) ?_
              refine TL.opP rfl (op_assign rfl) ?_
              refine TL.nil ?_
              refine TQ.then ?_
              refine TC.ret ?_
              refine ret1 rfl rfl (fun w' hp => ?_)
              exact ⟨rfl, hp.kp⟩
            · exact absurd (by first | assumption | rfl | omega) c6
          · exact absurd (by first | assumption | rfl | omega) c5
        · exact absurd (by first | assumption | rfl | omega) c4
      · exact absurd (by first | assumption | rfl | omega) c3

end Go.SK
