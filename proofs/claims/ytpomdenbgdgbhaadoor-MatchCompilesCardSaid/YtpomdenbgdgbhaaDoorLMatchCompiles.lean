/- The law MatchCompiles answers true. -/
import Derived.Test.YtpomdenbgdgbhaaDoorE89
set_option linter.unusedVariables false
set_option linter.unusedSimpArgs false
set_option maxRecDepth 100000
namespace Go.SK
open Go Go.RowKit Go.Proofs
variable {S : Nat → Prop} {w0 : World} {F L : List Res}
theorem matchCompiles_law (s : ByteArray) {w : World}  (hs0 : s.size ≤ 140737488351232) (hT : Tabs w) :
    Calls Tryd.prog 14 (List.toArray [.string s]) w fun e' w' => e' = .returned (.bool true) ∧ Kp NoB w w' := by
 refine calls_start Tryd.func14 rfl rfl rfl (Hp.i1 (r := tabs) hT) ?_
 refine TC.seq (TC.region (TL.opP rfl (op_assign rfl) (TL.nil (TQ.then (TC.seq (TC.seq (TC.region (TL.opP rfl (op_move rfl) (TL.opP rfl (op_slen rfl un_string rfl) (TL.opP rfl (op_gtr rfl rfl) (TL.nil (TQ.then ?_))))))))))))
 refine TC.sp rfl (fun c1 => ?_) (fun c1 => ?_)
 ·refine TC.seq (TC.region (TL.callq rfl en_47 rfl (fun w2 hp => wawake_calls w2 (tabs_at hp m0)) (TL.opP rfl (op_assign rfl) (TL.nil (TQ.then (TC.ret (TQ.then_ret ?_)))))))
  refine ret1 rfl rfl (fun w' hp => ?_)
  exact ⟨rfl, hp.kp⟩
 ·refine TC.skip (TQ.then (TC.seq (TC.region (TL.opP rfl (op_move rfl) ?_))))
  refine TL.opX rfl (OpX.callX en_55 rfl (pcompile_x s (by omega) m0)) ?_; rintro _ _ ⟨rz1, vz1, iz1, ez1, rfl, hR1, rfl⟩
  refine TL.opP rfl (op_move rfl) (TL.opP rfl (op_extract rfl rfl) (TL.opP rfl (op_extract rfl rfl) (TL.opP rfl (op_extract rfl rfl) (TL.opP rfl (op_assign rfl) (TL.opP rfl (op_assign rfl) (TL.opP rfl (op_assign rfl) (TL.nil (TQ.then (TC.seq (TC.region (TL.opP rfl (op_move rfl) ?_)))))))))))
  refine TL.opX rfl (OpX.callX en_49 rfl (xcompile_x s (by omega))) ?_; rintro _ _ ⟨rx2, vx2, ix2, ex2, rfl, hX2, rfl⟩
  refine TL.opP rfl (op_move rfl) (TL.opP rfl (op_extract rfl rfl) (TL.opP rfl (op_extract rfl rfl) (TL.opP rfl (op_extract rfl rfl) (TL.opP rfl (op_assign rfl) (TL.opP rfl (op_assign rfl) (TL.opP rfl (op_assign rfl) ?_))))))
  obtain ⟨rfl, rfl, A, B, rfl, rfl, hAB⟩ := cmp_same hR1 hX2
  refine TL.nil (TQ.then (TC.seq (TC.seq (TC.region (TL.opP rfl (op_move rfl) (TL.opP rfl (op_move rfl) (TL.opP rfl (op_neq rfl rfl) (TL.opP rfl (op_move rfl) ?_))))))))
  refine TL.sp (fun c2 => ?_) (fun c2 => ?_)
  ·exact absurd rfl c2
  ·refine TL.gT rfl rfl (TL.opP rfl (op_move rfl) (TL.gT rfl rfl (TL.opP rfl (op_move rfl) (TL.gT rfl rfl (TL.opP rfl (op_neq rfl rfl) (TL.opP rfl (op_pickF rfl rfl) (TL.opP rfl (op_move rfl) ?_)))))))
   refine TL.sp (fun c3 => ?_) (fun c3 => ?_)
   ·exact absurd rfl c3
   ·refine TL.gT rfl rfl (TL.opP rfl (op_move rfl) (TL.gT rfl rfl (TL.opP rfl (op_eqPtr rfl (pat_eqo _)) (TL.gT rfl rfl (TL.opP rfl (op_move rfl) (TL.gT rfl rfl (TL.opP rfl (op_eqPtr rfl (xpat_eqo _)) (TL.gT rfl rfl (TL.opP rfl (op_bneq un_bool rfl rfl) (TL.opP rfl (op_pickF rfl rfl) (TL.nil (TQ.then ?_))))))))))))
    refine TC.sp rfl (fun c4 => ?_) (fun c4 => ?_)
    ·exact absurd c4 (by rw [nn_iff hAB (by rintro ⟨_, _, _, _, _, rfl, rfl, _⟩; exact ⟨by simp, by simp⟩)]; decide)
    ·refine TC.skip (TQ.then (TC.seq (TC.draw [] (.cons (.p, 0) (.cons (.p, 1) (.cons (.p, 2) (.cons (.p, 3) (.cons (.p, 5) (.cons (.p, 6) (.cons (.p, 7) (.cons (.t, 8) (.cons (.o, 4) (.cons (.p, 9) (.cons (.p, 10) (.cons (.p, 11) (.cons (.t, 12) (.cons (.p, 13) (.cons (.p, 14) (.nil)))))))))))))))) mo (by kernel_rfl) (TR.p rfl rfl wt0 (op_move rfl) (TR.p rfl rfl wt0 (op_eqPtr rfl (xpat_eqo _)) (TR.p rfl rfl wt0 (op_move rfl) ?_))))))
     refine TR.sp (fun c5 => ?_) (fun c5 => ?_)
     ·refine TR.off rfl rfl (by exact wtFt rfl rfl) (TR.off rfl rfl (by exact wtFt rfl rfl) (TR.off rfl rfl (by exact wtFt rfl rfl) (TR.off rfl rfl (by exact wtFt rfl rfl) (TR.offT rfl rfl (by exact wtFt rfl rfl) (fun _ h => h) (TR.offO rfl rfl (by exact wtFt rfl rfl) (fun _ h => h) (TR.off rfl rfl (by exact wtFt rfl rfl) (TR.p rfl rfl wt0 (op_pickT rfl rfl) (TR.p rfl rfl wt0 (op_move rfl) (TR.tcall rfl rfl (by exact wtT rfl rfl) en_47 rfl (fun w2 hp => wawake_calls w2 (tabs_at hp m2)) (fun _ h => h) (TR.p rfl rfl wt0 (op_pickT rfl rfl) (TR.p rfl rfl wt0 (op_assign rfl) (TR.nil (TQ.then (TC.ret ?_))))))))))))))
      refine ret1 rfl rfl (fun w' hp => ?_)
      exact ⟨rfl, hp.kp⟩
     ·obtain ⟨a, b, lv, lv2, gg, rfl, rfl, ha, hb⟩ := hAB.resolve_left (fun h => c5 h.2)
      refine TR.p rfl rfl (by exact wtT rfl rfl) (op_move rfl) (TR.p rfl rfl (by exact wtT rfl rfl) (op_move rfl) (TR.p rfl rfl (by exact wtT rfl rfl) (op_nilCheck rfl) (TR.p rfl rfl (by exact wtT rfl rfl) (op_field fld_sealskinref12_Pattern_Groups rfl) (TR.t rfl rfl (by exact wtT rfl rfl) (op_loadB ts_int rfl (bkb_fz m0 hb) rfl) (fun _ h => h) ?_))))
      refine TR.o rfl rfl (by exact wtT rfl rfl) (OpX.callX en_56 rfl (mgroups_x lv a gg (bkb_fz m1 ha))) (by rintro _ _ ⟨rfl, rfl⟩; intro w h; exact h) ?_; rintro _ _ ⟨rfl, rfl⟩
      refine TR.p rfl rfl (by exact wtT rfl rfl) (op_eql rfl rfl) (TR.p rfl rfl wt0 (op_pickF rfl rfl) (TR.p rfl rfl wt0 (op_move rfl) ?_))
      refine TR.sp (fun c6 => ?_) (fun c6 => ?_)
      ·refine TR.tcall rfl rfl (by exact wtT rfl rfl) en_47 rfl (fun w2 hp => wawake_calls w2 (tabs_at hp m2)) (fun _ h => h) (TR.p rfl rfl wt0 (op_pickT rfl rfl) (TR.p rfl rfl wt0 (op_assign rfl) (TR.nil (TQ.then (TC.ret ?_)))))
       refine ret1 rfl rfl (fun w' hp => ?_)
       exact ⟨rfl, hp.kp⟩
      ·exact absurd rfl c6

end Go.SK
