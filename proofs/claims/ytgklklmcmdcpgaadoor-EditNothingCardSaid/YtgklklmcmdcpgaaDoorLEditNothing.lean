/- The law EditNothing answers true. -/
import Derived.Test.YtgklklmcmdcpgaaDoorE12
set_option linter.unusedVariables false
set_option linter.unusedSimpArgs false
set_option maxRecDepth 100000
namespace Go.SK
open Go Go.RowKit Go.Proofs
variable {S : Nat → Prop} {w0 : World} {F L : List Res}
theorem editNothing_law (e : List Part) (v : Value) {w : World} (he : EditIn w v e)  (hT : Tabs w) :
    Calls Tryd.prog 16 (List.toArray [v]) w fun e' w' => e' = .returned (.bool true) ∧ Kp NoB w w' := by
  have he1 := he.rd.one
  have hes := he.small
  have hel := he.len
  refine calls_start Tryd.func16 rfl rfl rfl (Hp.i2 (r := tabs) (s := .rd v 3 e.length (encs e)) hT he.rd) ?_
  refine TC.seq ?_
  refine TC.region ?_   -- region 0 law.go:251
  refine TL.opP rfl (op_assign rfl) ?_
  refine TL.nil ?_
  refine TQ.then ?_
  refine TC.seq ?_
  refine TC.seq ?_
  refine TC.region ?_   -- region 1 law.go:252
  refine TL.opP rfl (op_move rfl) ?_
  refine TL.opX rfl (OpX.buildSlice (ps := #[(0, _)]) rfl (bs_sl_api_Part_1 _)) ?_; rintro _ _ ⟨g18, rfl, rfl⟩
  refine TL.hp (fun _ h => blk_row (k := 1) (m := 1) h rfl (by decide)) ?_
  refine TL.opX rfl (OpX.callX en_26 rfl (light_x [(v, e)] _ rw0 (by intro x hx; simp only [List.mem_cons, List.not_mem_nil, or_false] at hx; rcases hx with rfl <;> first | exact rd2))) ?_; rintro _ _ ⟨b1, rfl, hb1, rfl⟩
  refine TL.opP rfl (op_not rfl rfl) ?_
  refine TL.nil ?_
  refine TQ.then ?_
  first | refine TC.condD rfl (fun c1 => ?_) (fun c1 => ?_) | refine TC.condB rfl (fun c1 => ?_) (fun c1 => ?_)
  · refine TC.seq ?_
    refine TC.region ?_   -- region 2 law.go:253
    refine TL.callq rfl en_20 rfl (fun w2 hp => awake_calls w2 (tabs_at hp m1)) ?_
    refine TL.opP rfl (op_assign rfl) ?_
    refine TL.nil ?_
    refine TQ.then ?_
    refine TC.ret ?_
    refine TQ.then_ret ?_
    refine ret1 rfl rfl (fun w' hp => ?_)
    exact ⟨rfl, hp.kp⟩
  · have heL : Light e := (hb1 (by simpa using c1)).1 (v, e) (by simp)
    have he2 : e.length ≤ 200 := heL
    have hr1 := repl_len (sizeF e).1 0 0 ⟨#[]⟩
    have hr2 := repl_len (sizeF e).2 0 0 ⟨#[]⟩
    refine TC.skip ?_
    refine TQ.then ?_
    refine TC.seq ?_
    refine TC.region ?_   -- region 3 law.go:255
    refine TL.opP rfl (op_move rfl) ?_
    refine TL.callq rfl en_27 rfl (fun w2 hp => size_calls (e) _ w2 (tabs_at hp m1) hes (rd2 _ _ _ hp)) ?_
    refine TL.opP rfl (op_move rfl) ?_
    refine TL.opP rfl (op_extract rfl rfl) ?_
    refine TL.opP rfl (op_extract rfl rfl) ?_
    refine TL.opP rfl (op_extract rfl rfl) ?_
    refine TL.opP rfl (op_assign rfl) ?_
    refine TL.opP rfl (op_assign rfl) ?_
    refine TL.opP rfl (op_assign rfl) ?_
    refine TL.nil ?_
    refine TQ.then ?_
    refine TC.seq ?_
    refine TC.seq ?_
    refine TC.region ?_   -- region 4 law.go:256
    refine TL.opP rfl (op_move rfl) ?_
    refine TL.opP rfl (op_neq rfl rfl) ?_
    refine TL.nil ?_
    refine TQ.then ?_
    first | refine TC.condD rfl (fun c2 => ?_) (fun c2 => ?_) | refine TC.condB rfl (fun c2 => ?_) (fun c2 => ?_)
    · refine TC.seq ?_
      refine TC.region ?_   -- region 5 law.go:257
      refine TL.callq rfl en_20 rfl (fun w2 hp => awake_calls w2 (tabs_at hp m1)) ?_
      refine TL.opP rfl (op_assign rfl) ?_
      refine TL.nil ?_
      refine TQ.then ?_
      refine TC.ret ?_
      refine TQ.then_ret ?_
      refine ret1 rfl rfl (fun w' hp => ?_)
      exact ⟨rfl, hp.kp⟩
    · obtain ⟨l1, l2, l3, l4, l5, l6, l7, l8, l9⟩ := nothing_z (e := e) (by omega)
      refine TC.skip ?_
      refine TQ.then ?_
      refine TC.seq ?_
      refine TC.region ?_   -- region 6 law.go:259
      refine TL.opP rfl (op_move rfl) ?_
      refine TL.opX rfl (OpX.callX en_23 rfl (same_x ((sizeF e).1) m1)) ?_; rintro _ _ ⟨w2, rfl, rfl⟩
      refine TL.opP rfl (op_move rfl) ?_
      refine TL.opP rfl (op_extract rfl rfl) ?_
      refine TL.opP rfl (op_extract rfl rfl) ?_
      refine TL.opP rfl (op_assign rfl) ?_
      refine TL.opP rfl (op_assign rfl) ?_
      refine TL.nil ?_
      refine TQ.then ?_
      refine TC.seq ?_
      refine TC.region ?_   -- region 7 law.go:260
      refine TL.opP rfl (op_move rfl) ?_
      refine TL.opX rfl (OpX.callX en_23 rfl (same_x ((sizeF e).2) m2)) ?_; rintro _ _ ⟨w3, rfl, rfl⟩
      refine TL.opP rfl (op_move rfl) ?_
      refine TL.opP rfl (op_extract rfl rfl) ?_
      refine TL.opP rfl (op_extract rfl rfl) ?_
      refine TL.opP rfl (op_assign rfl) ?_
      refine TL.opP rfl (op_assign rfl) ?_
      refine TL.nil ?_
      refine TQ.then ?_
      refine TC.seq ?_
      refine TC.region ?_   -- region 8 law.go:261
      refine TL.opP rfl (op_move rfl) ?_
      refine TL.opP rfl (op_move rfl) ?_
      refine TL.opX rfl (OpX.callX en_45 rfl (compose_x (replF (sizeF e).1 0 0 ⟨#[]⟩) (e) _ _ (repl_small _ _ _ _) hes (by omega) (by omega) m3 rw1 rd4)) ?_; rintro _ _ ⟨w4, rfl, rfl⟩
      refine TL.opP rfl (op_move rfl) ?_
      refine TL.opP rfl (op_extract rfl rfl) ?_
      refine TL.opP rfl (op_extract rfl rfl) ?_
      refine TL.opP rfl (op_assign rfl) ?_
      refine TL.opP rfl (op_assign rfl) ?_
      refine TL.nil ?_
      refine TQ.then ?_
      refine TC.seq ?_
      refine TC.region ?_   -- region 9 law.go:262
      refine TL.opP rfl (op_move rfl) ?_
      refine TL.opP rfl (op_move rfl) ?_
      refine TL.opX rfl (OpX.callX en_45 rfl (compose_x (e) (replF (sizeF e).2 0 0 ⟨#[]⟩) _ _ hes (repl_small _ _ _ _) (by omega) (by omega) m4 rd5 rw1)) ?_; rintro _ _ ⟨w5, rfl, rfl⟩
      refine TL.opP rfl (op_move rfl) ?_
      refine TL.opP rfl (op_extract rfl rfl) ?_
      refine TL.opP rfl (op_extract rfl rfl) ?_
      refine TL.opP rfl (op_assign rfl) ?_
      refine TL.opP rfl (op_assign rfl) ?_
      refine TL.nil ?_
      refine TQ.then ?_
      refine TC.seq ?_
      refine TC.region ?_   -- region 10 law.go:263
      refine TL.opP rfl (op_move rfl) ?_
      refine TL.opP rfl (op_move rfl) ?_
      refine TL.opX rfl (OpX.callX en_47 rfl (transform_x (e) (replF (sizeF e).1 0 0 ⟨#[]⟩) _ _ hes (repl_small _ _ _ _) (by omega) (by omega) m5 rd6 rw3)) ?_; rintro _ _ ⟨v16, v26, rfl, rfl⟩
      refine TL.opP rfl (op_move rfl) ?_
      refine TL.opP rfl (op_extract rfl rfl) ?_
      refine TL.opP rfl (op_extract rfl rfl) ?_
      refine TL.opP rfl (op_extract rfl rfl) ?_
      refine TL.opP rfl (op_assign rfl) ?_
      refine TL.opP rfl (op_assign rfl) ?_
      refine TL.opP rfl (op_assign rfl) ?_
      refine TL.nil ?_
      refine TQ.then ?_
      refine TC.seq ?_
      refine TC.region ?_   -- region 11 law.go:264
      refine TL.opP rfl (op_move rfl) ?_
      refine TL.opP rfl (op_eql rfl rfl) ?_
      refine TL.opP rfl (op_move rfl) ?_
      first | refine TL.splitD (fun c3 => ?_) (fun c3 => ?_) | refine TL.splitB (fun c3 => ?_) (fun c3 => ?_)
      · refine TL.gT rfl rfl ?_
        refine TL.opP rfl (op_move rfl) ?_
        refine TL.gT rfl rfl ?_
        refine TL.opP rfl (op_eql rfl rfl) ?_
        refine TL.opP rfl (op_pickT rfl rfl) ?_
        refine TL.opP rfl (op_move rfl) ?_
        first | refine TL.splitD (fun c4 => ?_) (fun c4 => ?_) | refine TL.splitB (fun c4 => ?_) (fun c4 => ?_)
        · refine TL.gT rfl rfl ?_
          refine TL.opP rfl (op_move rfl) ?_
          refine TL.gT rfl rfl ?_
          refine TL.opP rfl (op_eql rfl rfl) ?_
          refine TL.opP rfl (op_pickT rfl rfl) ?_
          refine TL.opP rfl (op_move rfl) ?_
          first | refine TL.splitD (fun c5 => ?_) (fun c5 => ?_) | refine TL.splitB (fun c5 => ?_) (fun c5 => ?_)
          · refine TL.gT rfl rfl ?_
            refine TL.opP rfl (op_move rfl) ?_
            refine TL.gT rfl rfl ?_
            refine TL.opP rfl (op_eql rfl rfl) ?_
            refine TL.opP rfl (op_pickT rfl rfl) ?_
            refine TL.opP rfl (op_move rfl) ?_
            first | refine TL.splitD (fun c6 => ?_) (fun c6 => ?_) | refine TL.splitB (fun c6 => ?_) (fun c6 => ?_)
            · refine TL.gT rfl rfl ?_
              refine TL.opP rfl (op_move rfl) ?_
              refine TL.gT rfl rfl ?_
              refine TL.opP rfl (op_eql rfl rfl) ?_
              refine TL.opP rfl (op_pickT rfl rfl) ?_
              refine TL.opP rfl (op_move rfl) ?_
              first | refine TL.splitD (fun c7 => ?_) (fun c7 => ?_) | refine TL.splitB (fun c7 => ?_) (fun c7 => ?_)
              · refine TL.gT rfl rfl ?_
                refine TL.opP rfl (op_move rfl) ?_
                refine TL.gT rfl rfl ?_
                refine TL.opP rfl (op_move rfl) ?_
                refine TL.gT rfl rfl ?_
                refine TL.callq rfl en_24 rfl (fun w2 hp => rsame_calls (compF (replF (sizeF e).1 0 0 ⟨#[]⟩) e) (e) _ _ w2 (rw3 _ _ _ hp) (rd8 _ _ _ hp)) ?_
                refine TL.opP rfl (op_pickT rfl rfl) ?_
                refine TL.opP rfl (op_move rfl) ?_
                first | refine TL.splitD (fun c8 => ?_) (fun c8 => ?_) | refine TL.splitB (fun c8 => ?_) (fun c8 => ?_)
                · refine TL.gT rfl rfl ?_
                  refine TL.opP rfl (op_move rfl) ?_
                  refine TL.gT rfl rfl ?_
                  refine TL.opP rfl (op_move rfl) ?_
                  refine TL.gT rfl rfl ?_
                  refine TL.callq rfl en_24 rfl (fun w2 hp => rsame_calls (compF e (replF (sizeF e).2 0 0 ⟨#[]⟩)) (e) _ _ w2 (rw2 _ _ _ hp) (rd8 _ _ _ hp)) ?_
                  refine TL.opP rfl (op_pickT rfl rfl) ?_
                  refine TL.opP rfl (op_move rfl) ?_
                  first | refine TL.splitD (fun c9 => ?_) (fun c9 => ?_) | refine TL.splitB (fun c9 => ?_) (fun c9 => ?_)
                  · refine TL.gT rfl rfl ?_
                    refine TL.opP rfl (op_move rfl) ?_
                    refine TL.gT rfl rfl ?_
                    refine TL.opP rfl (op_move rfl) ?_
                    refine TL.gT rfl rfl ?_
                    refine TL.callq rfl en_24 rfl (fun w2 hp => rsame_calls (trF1 e (replF (sizeF e).1 0 0 ⟨#[]⟩)) (e) _ _ w2 (rw0 _ _ _ hp) (rd8 _ _ _ hp)) ?_
                    refine TL.opP rfl (op_pickT rfl rfl) ?_
                    refine TL.opP rfl (op_move rfl) ?_
                    first | refine TL.splitD (fun c10 => ?_) (fun c10 => ?_) | refine TL.splitB (fun c10 => ?_) (fun c10 => ?_)
                    · refine TL.gT rfl rfl ?_
                      refine TL.opP rfl (op_move rfl) ?_
                      refine TL.gT rfl rfl ?_
                      refine TL.opP rfl (op_move rfl) ?_
                      refine TL.gT rfl rfl ?_
                      refine TL.callq rfl en_24 rfl (fun w2 hp => rsame_calls (trF2 e (replF (sizeF e).1 0 0 ⟨#[]⟩)) (replF (sizeF e).2 0 0 ⟨#[]⟩) _ _ w2 (rw1 _ _ _ hp) (rw4 _ _ _ hp)) ?_
                      refine TL.opP rfl (op_pickT rfl rfl) ?_
                      refine TL.opP rfl (op_move rfl) ?_
                      first | refine TL.splitD (fun c11 => ?_) (fun c11 => ?_) | refine TL.splitB (fun c11 => ?_) (fun c11 => ?_)
                      · refine TL.gT rfl rfl ?_
                        refine TL.callq rfl en_20 rfl (fun w2 hp => awake_calls w2 (tabs_at hp m7)) ?_
                        refine TL.opP rfl (op_pickT rfl rfl) ?_
                        refine TL.opP rfl (op_assign rfl) ?_
                        refine TL.nil ?_
                        refine TQ.then ?_
                        refine TC.ret ?_
                        refine ret1 rfl rfl (fun w' hp => ?_)
                        exact ⟨rfl, hp.kp⟩
                      · exact absurd (by first | assumption | rfl | omega) c11
                    · exact absurd (by first | assumption | rfl | omega) c10
                  · exact absurd (by first | assumption | rfl | omega) c9
                · exact absurd (by first | assumption | rfl | omega) c8
              · exact absurd (by first | assumption | rfl | omega) c7
            · exact absurd (by first | assumption | rfl | omega) c6
          · exact absurd (by first | assumption | rfl | omega) c5
        · exact absurd (by first | assumption | rfl | omega) c4
      · exact absurd (by first | assumption | rfl | omega) c3

end Go.SK
