/- The law MatchSwaps answers true. -/
import Derived.Test.YtpomdenbgdgbhaaDoorE95
set_option linter.unusedVariables false
set_option linter.unusedSimpArgs false
set_option maxRecDepth 100000
namespace Go.SK
open Go Go.RowKit Go.Proofs
variable {S : Nat → Prop} {w0 : World} {F L : List Res}
theorem matchSwaps_law (p s q : ByteArray) {w : World}  (hp0 : p.size ≤ 140737488351232) (hs0 : s.size ≤ 140737488351232) (hq0 : q.size ≤ 140737488351232) (hT : Tabs w) :
    Calls Tryd.prog 12 (List.toArray [.string p, .string s, .string q]) w fun e' w' => e' = .returned (.bool true) ∧ Kp NoB w w' := by
 refine calls_start Tryd.func12 rfl rfl rfl (Hp.i1 (r := tabs) hT) ?_
 refine TC.seq (TC.region (TL.opP rfl (op_assign rfl) (TL.nil (TQ.then (TC.seq (TC.seq (TC.region (TL.opP rfl (op_move rfl) (TL.opP rfl (op_slen rfl un_string rfl) (TL.opP rfl (op_gtr rfl rfl) (TL.opP rfl (op_move rfl) ?_)))))))))))
 refine TL.sp (fun c1 => ?_) (fun c1 => ?_)
 ·refine TL.gFt rfl rfl rfl (TL.gFt rfl rfl rfl (TL.gFt rfl rfl rfl (TL.opP rfl (op_pickT rfl rfl) (TL.opP rfl (op_move rfl) (TL.gFt rfl rfl rfl (TL.gFt rfl rfl rfl (TL.gFt rfl rfl rfl (TL.opP rfl (op_pickT rfl rfl) (TL.nil (TQ.then (TC.condT rfl (TC.seq (TC.region (TL.callq rfl en_47 rfl (fun w2 hp => wawake_calls w2 (tabs_at hp m0)) (TL.opP rfl (op_assign rfl) (TL.nil (TQ.then (TC.ret (TQ.then_ret ?_)))))))))))))))))))
  refine ret1 rfl rfl (fun w' hp => ?_)
  exact ⟨rfl, hp.kp⟩
 ·refine TL.gT rfl rfl (TL.opP rfl (op_move rfl) (TL.gT rfl rfl (TL.opP rfl (op_slen rfl un_string rfl) (TL.gT rfl rfl (TL.opP rfl (op_gtr rfl rfl) (TL.opP rfl (op_pickF rfl rfl) (TL.opP rfl (op_move rfl) ?_)))))))
  refine TL.sp (fun c2 => ?_) (fun c2 => ?_)
  ·refine TL.gFt rfl rfl rfl (TL.gFt rfl rfl rfl (TL.gFt rfl rfl rfl (TL.opP rfl (op_pickT rfl rfl) (TL.nil (TQ.then (TC.condT rfl (TC.seq (TC.region (TL.callq rfl en_47 rfl (fun w2 hp => wawake_calls w2 (tabs_at hp m0)) (TL.opP rfl (op_assign rfl) (TL.nil (TQ.then (TC.ret (TQ.then_ret ?_))))))))))))))
   refine ret1 rfl rfl (fun w' hp => ?_)
   exact ⟨rfl, hp.kp⟩
  ·refine TL.gT rfl rfl (TL.opP rfl (op_move rfl) (TL.gT rfl rfl (TL.opP rfl (op_slen rfl un_string rfl) (TL.gT rfl rfl (TL.opP rfl (op_gtr rfl rfl) (TL.opP rfl (op_pickF rfl rfl) (TL.nil (TQ.then ?_))))))))
   refine TC.sp rfl (fun c3 => ?_) (fun c3 => ?_)
   ·refine TC.seq (TC.region (TL.callq rfl en_47 rfl (fun w2 hp => wawake_calls w2 (tabs_at hp m0)) (TL.opP rfl (op_assign rfl) (TL.nil (TQ.then (TC.ret (TQ.then_ret ?_)))))))
    refine ret1 rfl rfl (fun w' hp => ?_)
    exact ⟨rfl, hp.kp⟩
   ·refine TC.skip (TQ.then (TC.seq (TC.region (TL.opP rfl (op_move rfl) ?_))))
    refine TL.opX rfl (OpX.callX en_48 rfl (wcompiled_x p (by omega) m0)) ?_; rintro _ _ ⟨rz1, vz1, iz1, ez1, rfl, hR1, rfl⟩
    refine TL.opP rfl (op_move rfl) (TL.opP rfl (op_extract rfl rfl) (TL.opP rfl (op_extract rfl rfl) (TL.opP rfl (op_assign rfl) (TL.opP rfl (op_assign rfl) (TL.nil (TQ.then (TC.seq (TC.region (TL.opP rfl (op_move rfl) ?_)))))))))
    refine TL.opX rfl (OpX.callX en_49 rfl (xcompile_x p (by omega))) ?_; rintro _ _ ⟨rx2, vx2, ix2, ex2, rfl, hX2, rfl⟩
    refine TL.opP rfl (op_move rfl) (TL.opP rfl (op_extract rfl rfl) (TL.opP rfl (op_extract rfl rfl) (TL.opP rfl (op_extract rfl rfl) (TL.opP rfl (op_assign rfl) (TL.opP rfl (op_assign rfl) (TL.opP rfl (op_assign rfl) ?_))))))
    obtain ⟨_, hee, _⟩ := cmp_same hR1 hX2
    refine TL.nil (TQ.then (TC.seq (TC.seq (TC.region (TL.opP rfl (op_move rfl) (TL.opP rfl (op_not rfl rfl) (TL.opP rfl (op_move rfl) ?_)))))))
    refine TL.sp (fun c4 => ?_) (fun c4 => ?_)
    ·refine TL.gFt rfl rfl rfl (TL.gFt rfl rfl rfl (TL.opP rfl (op_pickT rfl rfl) (TL.nil (TQ.then (TC.condT rfl (TC.seq (TC.region (TL.opP rfl (op_move rfl) (TL.opP rfl (op_move rfl) (TL.opP rfl (op_eql rfl rfl) (TL.opP rfl (op_beqB un_bool rfl rfl) (TL.opP rfl (op_move rfl) ?_))))))))))))
     refine TL.sp (fun c5 => ?_) (fun c5 => ?_)
     ·refine TL.gT rfl rfl (TL.callq rfl en_47 rfl (fun w2 hp => wawake_calls w2 (tabs_at hp m2)) (TL.opP rfl (op_pickT rfl rfl) (TL.opP rfl (op_assign rfl) (TL.nil (TQ.then (TC.ret (TQ.then_ret ?_)))))))
      refine ret1 rfl rfl (fun w' hp => ?_)
      exact ⟨rfl, hp.kp⟩
     ·exact absurd c5 (by rw [eq_zz hee]; decide)
    ·refine TL.gT rfl rfl (TL.opP rfl (op_move rfl) (TL.gT rfl rfl (TL.opP rfl (op_neq rfl rfl) (TL.opP rfl (op_pickF rfl rfl) (TL.nil (TQ.then ?_))))))
     refine TC.sp rfl (fun c6 => ?_) (fun c6 => ?_)
     ·exact absurd (hee.symm.trans c4) c6
     ·obtain ⟨t, g, hG, hpl, hG2, ⟨pa, lv, ms, rfl, hpat, hstp, hpgm, hmok⟩, ⟨xa, xl, xm, rfl, xpat, xstp, xpgm, xmok⟩⟩ := cmp_both hR1 hX2 c4
      refine TC.skip (TQ.then (TC.seq (TC.region (TL.opP rfl (op_move rfl) (TL.opP rfl (op_move rfl) (TL.opP rfl (op_move rfl) (TL.hp (fun _ h => h.pick1) ?_)))))))
      refine TL.opX rfl (OpX.callX en_52 rfl (mswap_x (progF t) g rz1 ms lv pa hG hpgm hmok hpat hstp hpl hG2 m1 s q (by omega) (by omega))) ?_; rintro _ _ ⟨rsA3, sw3, rfl, hsA3, rfl⟩
      refine TL.opP rfl (op_move rfl) (TL.opP rfl (op_extract rfl rfl) (TL.opP rfl (op_extract rfl rfl) (TL.opP rfl (op_assign rfl) (TL.opP rfl (op_assign rfl) (TL.nil (TQ.then (TC.seq (TC.region (TL.opP rfl (op_move rfl) (TL.opP rfl (op_move rfl) (TL.opP rfl (op_move rfl) (TL.hp (fun _ h => h.pick2) ?_))))))))))))
      refine TL.opX rfl (OpX.callX en_53 rfl (xswap_x (progF t) g rx2 xm xl xa hG xpgm xmok xpat xstp hpl hG2 s q (by omega) (by omega))) ?_; rintro _ _ ⟨rsB4, sx4, rfl, hsB4, rfl⟩
      refine TL.opP rfl (op_move rfl) (TL.opP rfl (op_extract rfl rfl) (TL.opP rfl (op_extract rfl rfl) (TL.opP rfl (op_assign rfl) (TL.opP rfl (op_assign rfl) (TL.nil (TQ.then (TC.seq (TC.region (TL.opP rfl (op_move rfl) (TL.opP rfl (op_move rfl) (TL.callq rfl en_27 rfl (fun w2 hp => rsame_calls (mswF (progF t) g s q) (mswF (progF t) g s q) _ _ w2 (rw2 _ _ _ hp) (rw0 _ _ _ hp)) (TL.opP rfl (op_move rfl) ?_))))))))))))
      refine TL.sp (fun c7 => ?_) (fun c7 => ?_)
      ·refine TL.gT rfl rfl (TL.opP rfl (op_move rfl) (TL.gT rfl rfl (TL.opP rfl (op_move rfl) (TL.gT rfl rfl (TL.opP rfl (op_eql rfl rfl) (TL.opP rfl (op_pickT rfl rfl) (TL.opP rfl (op_move rfl) ?_)))))))
       refine TL.sp (fun c8 => ?_) (fun c8 => ?_)
       ·refine TL.gT rfl rfl (TL.callq rfl en_47 rfl (fun w2 hp => wawake_calls w2 (tabs_at hp m4)) (TL.opP rfl (op_pickT rfl rfl) (TL.opP rfl (op_assign rfl) (TL.nil (TQ.then (TC.ret ?_))))))
        refine ret1 rfl rfl (fun w' hp => ?_)
        exact ⟨rfl, hp.kp⟩
       ·exact absurd rfl c8
      ·exact absurd rfl c7

end Go.SK
