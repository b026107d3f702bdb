/- The law MatchSame answers true. -/
import Derived.Test.YtpomdenbgdgbhaaDoorE77
set_option linter.unusedVariables false
set_option linter.unusedSimpArgs false
set_option maxRecDepth 100000
namespace Go.SK
open Go Go.RowKit Go.Proofs
variable {S : Nat → Prop} {w0 : World} {F L : List Res}
theorem matchSame_law (p s : ByteArray) {w : World}  (hp0 : p.size ≤ 140737488351232) (hs0 : s.size ≤ 140737488351232) (hT : Tabs w) :
    Calls Tryd.prog 13 (List.toArray [.string p, .string s]) w fun e' w' => e' = .returned (.bool true) ∧ Kp NoB w w' := by
 refine calls_start Tryd.func13 rfl rfl rfl (Hp.i1 (r := tabs) hT) ?_
 refine TC.seq (TC.region (TL.opP rfl (op_assign rfl) (TL.nil (TQ.then (TC.seq (TC.seq (TC.region (TL.opP rfl (op_move rfl) (TL.opP rfl (op_slen rfl un_string rfl) (TL.opP rfl (op_gtr rfl rfl) (TL.opP rfl (op_move rfl) ?_)))))))))))
 first | refine TL.splitD (fun c1 => ?_) (fun c1 => ?_) | refine TL.splitN (fun c1 => ?_) (fun c1 => ?_) | refine TL.splitB (fun c1 => ?_) (fun c1 => ?_)
 ·refine TL.gFt rfl rfl rfl (TL.gFt rfl rfl rfl (TL.gFt rfl rfl rfl (TL.opP rfl (op_pickT rfl rfl) (TL.opP rfl (op_move rfl) (TL.gFt rfl rfl rfl (TL.gFt rfl rfl rfl (TL.gFt rfl rfl rfl (TL.opP rfl (op_pickT rfl rfl) (TL.nil (TQ.then (TC.condT rfl (TC.seq (TC.region (TL.callq rfl en_47 rfl (fun w2 hp => wawake_calls w2 (tabs_at hp m0)) (TL.opP rfl (op_assign rfl) (TL.nil (TQ.then (TC.ret (TQ.then_ret ?_)))))))))))))))))))
  refine ret1 rfl rfl (fun w' hp => ?_)
  exact ⟨rfl, hp.kp⟩
 ·refine TL.gT rfl rfl (TL.opP rfl (op_move rfl) (TL.gT rfl rfl (TL.opP rfl (op_slen rfl un_string rfl) (TL.gT rfl rfl (TL.opP rfl (op_gtr rfl rfl) (TL.opP rfl (op_pickF rfl rfl) (TL.opP rfl (op_move rfl) ?_)))))))
  first | refine TL.splitD (fun c2 => ?_) (fun c2 => ?_) | refine TL.splitN (fun c2 => ?_) (fun c2 => ?_) | refine TL.splitB (fun c2 => ?_) (fun c2 => ?_)
  ·refine TL.gFt rfl rfl rfl (TL.gFt rfl rfl rfl (TL.gFt rfl rfl rfl (TL.opP rfl (op_pickT rfl rfl) (TL.nil (TQ.then (TC.condT rfl (TC.seq (TC.region (TL.callq rfl en_47 rfl (fun w2 hp => wawake_calls w2 (tabs_at hp m0)) (TL.opP rfl (op_assign rfl) (TL.nil (TQ.then (TC.ret (TQ.then_ret ?_))))))))))))))
   refine ret1 rfl rfl (fun w' hp => ?_)
   exact ⟨rfl, hp.kp⟩
  ·refine TL.gT rfl rfl (TL.opP rfl (op_move rfl) (TL.gT rfl rfl (TL.callq rfl en_18 rfl (fun w2 hp => valid_calls s w2 (tabs_at hp m0) (by omega)) (TL.gT rfl rfl (TL.opP rfl (op_not rfl rfl) (TL.opP rfl (op_pickF rfl rfl) (TL.nil (TQ.then ?_))))))))
   first | refine TC.condD rfl (fun c3 => ?_) (fun c3 => ?_) | refine TC.condN rfl (fun c3 => ?_) (fun c3 => ?_) | refine TC.condB rfl (fun c3 => ?_) (fun c3 => ?_)
   ·refine TC.seq (TC.region (TL.callq rfl en_47 rfl (fun w2 hp => wawake_calls w2 (tabs_at hp m0)) (TL.opP rfl (op_assign rfl) (TL.nil (TQ.then (TC.ret (TQ.then_ret ?_)))))))
    refine ret1 rfl rfl (fun w' hp => ?_)
    exact ⟨rfl, hp.kp⟩
   ·have hv : valid s = true := by simpa using c3
    refine TC.skip (TQ.then (TC.seq (TC.region (TL.opP rfl (op_move rfl) ?_))))
    refine TL.opX rfl (OpX.callX en_48 rfl (wcompiled_x p (by omega) m0)) ?_; rintro _ _ ⟨rz1, vz1, iz1, ez1, rfl, hR1, rfl⟩
    refine TL.opP rfl (op_move rfl) (TL.opP rfl (op_extract rfl rfl) (TL.opP rfl (op_extract rfl rfl) (TL.opP rfl (op_assign rfl) (TL.opP rfl (op_assign rfl) (TL.nil (TQ.then (TC.seq (TC.seq (TC.region (TL.opP rfl (op_move rfl) (TL.opP rfl (op_not rfl rfl) (TL.nil (TQ.then ?_)))))))))))))
    first | refine TC.condD rfl (fun c4 => ?_) (fun c4 => ?_) | refine TC.condN rfl (fun c4 => ?_) (fun c4 => ?_) | refine TC.condB rfl (fun c4 => ?_) (fun c4 => ?_)
    ·refine TC.seq (TC.region (TL.callq rfl en_47 rfl (fun w2 hp => wawake_calls w2 (tabs_at hp m1)) (TL.opP rfl (op_assign rfl) (TL.nil (TQ.then (TC.ret (TQ.then_ret ?_)))))))
     refine ret1 rfl rfl (fun w' hp => ?_)
     exact ⟨rfl, hp.kp⟩
    ·obtain ⟨t, jt, g, hcm, hG, hpl, hG2, pa, lv, ms, rfl, hpat, hstp, hpgm, hmok⟩ := cmp_good hR1 c4
     obtain ⟨hs1, hs2, hs3⟩ := same_law hG hv (by omega)
     refine TC.skip (TQ.then (TC.seq (TC.region (TL.opP rfl (op_move rfl) (TL.opP rfl (op_move rfl) ?_)))))
     refine TL.opX rfl (OpX.callX en_52 rfl (mswap_x (progF t) g rz1 ms lv pa hG hpgm hmok hpat hstp hpl hG2 m0 s ⟨#[36, 48]⟩ (by omega) (by decide))) ?_; rintro _ _ ⟨rsB2, sw2, rfl, hsB2, rfl⟩
     refine TL.opP rfl (op_move rfl) (TL.opP rfl (op_extract rfl rfl) (TL.opP rfl (op_extract rfl rfl) (TL.opP rfl (op_assign rfl) (TL.opP rfl (op_assign rfl) (TL.nil (TQ.then (TC.seq (TC.region (TL.opP rfl (op_move rfl) (TL.opP rfl (op_eql rfl rfl) (TL.opP rfl (op_move rfl) ?_)))))))))))
     first | refine TL.splitD (fun c5 => ?_) (fun c5 => ?_) | refine TL.splitN (fun c5 => ?_) (fun c5 => ?_) | refine TL.splitB (fun c5 => ?_) (fun c5 => ?_)
     ·refine TL.gT rfl rfl (TL.opP rfl (op_move rfl) (TL.gT rfl rfl (TL.opP rfl (op_move rfl) (TL.gT rfl rfl (TL.callq rfl en_54 rfl (fun w2 hp => wapplied_calls (mswF (progF t) g s ⟨#[36, 48]⟩) s _ (by omega) w2 (tabs_at hp m2) hs2 (rw0 _ _ _ hp)) (TL.gT rfl rfl (TL.opP rfl (op_move rfl) (TL.gT rfl rfl (TL.opP rfl (op_seql rfl rfl) (TL.opP rfl (op_pickT rfl rfl) (TL.opP rfl (op_move rfl) ?_)))))))))))
      first | refine TL.splitD (fun c6 => ?_) (fun c6 => ?_) | refine TL.splitN (fun c6 => ?_) (fun c6 => ?_) | refine TL.splitB (fun c6 => ?_) (fun c6 => ?_)
      ·refine TL.gT rfl rfl (TL.callq rfl en_47 rfl (fun w2 hp => wawake_calls w2 (tabs_at hp m2)) (TL.opP rfl (op_pickT rfl rfl) (TL.opP rfl (op_assign rfl) (TL.nil (TQ.then (TC.ret ?_))))))
       refine ret1 rfl rfl (fun w' hp => ?_)
       exact ⟨rfl, hp.kp⟩
      ·exact absurd hs3 c6
     ·exact absurd hs1 c5

end Go.SK
