/- The law LinesSwaps answers true. -/
import Derived.Test.YtpomdenbgdgbhaaDoorE58
set_option linter.unusedVariables false
set_option linter.unusedSimpArgs false
set_option maxRecDepth 100000
namespace Go.SK
open Go Go.RowKit Go.Proofs
variable {S : Nat → Prop} {w0 : World} {F L : List Res}
theorem linesSwaps_law (s p q : ByteArray) {w : World} (hs0 : s.size ≤ 140737488351232) (hp0 : p.size ≤ 140737488351232) (hq0 : q.size ≤ 140737488351232) (hT : Tabs w) {mx : Int} (hmx : w.cell? ⟨2, 0, none⟩ = some (.int .i64 mx)) :
    Calls Tryd.prog 10 (List.toArray [.string s, .string p, .string q]) w fun e' w' => e' = .returned (.bool true) ∧ Kp NoB w w' := by
 refine calls_start Tryd.func10 rfl rfl rfl (Hp.i1 (r := tabs) hT) ?_
 refine TC.seq (TC.region (TL.opP rfl (op_assign rfl) (TL.nil (TQ.then (TC.seq (TC.seq (TC.region (TL.opP rfl (op_move rfl) (TL.opP rfl (op_move rfl) (TL.opP rfl (op_move rfl) ?_))))))))))
 refine TL.opX rfl (OpX.buildSlice (ps := #[(0, _), (1, _), (2, _)]) rfl (bs_string_3 _ _ _)) ?_; rintro _ _ ⟨g16, rfl, rfl⟩
 refine TL.hp (fun _ h => blk_row (k := 1) (m := 3) h rfl (by decide)) ?_
 refine TL.opX rfl (OpX.callX en_17 rfl (long_x [s, p, q] _ rw0)) ?_; rintro _ _ ⟨b1, rfl, hb1, rfl⟩
 refine TL.opP rfl (op_move rfl) ?_
 first | refine TL.splitD (fun c1 => ?_) (fun c1 => ?_) | refine TL.splitB (fun c1 => ?_) (fun c1 => ?_)
 ·refine TL.gFt rfl rfl rfl (TL.gFt rfl rfl rfl (TL.gFt rfl rfl rfl (TL.opP rfl (op_pickT rfl rfl) (TL.nil (TQ.then (TC.condT rfl (TC.seq (TC.region (TL.callq rfl en_19 rfl (fun w2 hp => lawake_calls w2 (tabs_at hp m1)) (TL.opP rfl (op_assign rfl) (TL.nil (TQ.then (TC.ret (TQ.then_ret ?_))))))))))))))
  refine ret1 rfl rfl (fun w' hp => ?_)
  exact ⟨rfl, hp.kp⟩
 ·have hzs : s.size ≤ 2048 := hb1 c1 s (by simp)
  have hds := dec_len s
  have hzp : p.size ≤ 2048 := hb1 c1 p (by simp)
  have hdp := dec_len p
  have hzq : q.size ≤ 2048 := hb1 c1 q (by simp)
  have hdq := dec_len q
  have hml : q.size * s.size ≤ 2048 * 2048 := Nat.mul_le_mul hzq hzs
  refine TL.gT rfl rfl (TL.opP rfl (op_move rfl) (TL.gT rfl rfl (TL.callq rfl en_18 rfl (fun w2 hp => valid_calls s w2 (tabs_at hp m1) (by omega)) (TL.gT rfl rfl (TL.opP rfl (op_not rfl rfl) (TL.opP rfl (op_pickF rfl rfl) (TL.nil (TQ.then ?_))))))))
  first | refine TC.condD rfl (fun c2 => ?_) (fun c2 => ?_) | refine TC.condB rfl (fun c2 => ?_) (fun c2 => ?_)
  ·refine TC.seq (TC.region (TL.callq rfl en_19 rfl (fun w2 hp => lawake_calls w2 (tabs_at hp m1)) (TL.opP rfl (op_assign rfl) (TL.nil (TQ.then (TC.ret (TQ.then_ret ?_)))))))
   refine ret1 rfl rfl (fun w' hp => ?_)
   exact ⟨rfl, hp.kp⟩
  ·have hv : valid s = true := by simpa using c2
   refine TC.skip (TQ.then (TC.seq (TC.region (TL.opP rfl (op_move rfl) ?_))))
   refine TL.opX rfl (OpX.callX en_20 rfl (ynew_x s hv (by omega))) ?_; rintro _ _ ⟨yg2, lv2, rfl, rfl⟩
   refine TL.opP rfl (op_move rfl) (TL.opP rfl (op_extract rfl rfl) (TL.opP rfl (op_extract rfl rfl) (TL.opP rfl (op_assign rfl) (TL.opP rfl (op_assign rfl) (TL.nil (TQ.then (TC.seq (TC.region (TL.opP rfl (op_move rfl) ?_)))))))))
   refine TL.opX rfl (OpX.callX en_21 rfl (lindex_x s hv (by omega) m3)) ?_; rintro _ _ ⟨g3, tv3, bv3, rfl, rfl⟩
   refine TL.opP rfl (op_move rfl) (TL.opP rfl (op_move rfl) ?_)
   refine TL.opX rfl (OpX.callX en_41 rfl (lswapc_x (dec s) _ _ _ rd0 rd1 p q (by omega) (by omega) (by omega) m5)) ?_; rintro _ _ ⟨w4, rfl, rfl⟩
   refine TL.opP rfl (op_move rfl) (TL.opP rfl (op_extract rfl rfl) (TL.opP rfl (op_extract rfl rfl) (TL.opP rfl (op_assign rfl) (TL.opP rfl (op_assign rfl) (TL.nil (TQ.then (TC.seq (TC.region (TL.opP rfl (op_move rfl) (TL.opP rfl (op_move rfl) (TL.opP rfl (op_move rfl) (TL.hp (fun _ h => h.pick4) ?_))))))))))))
   refine TL.opX rfl (OpX.callX en_44 rfl (yswap_x (dec s) _ _ rd4 p q (by omega) (by omega) (by omega))) ?_; rintro _ _ ⟨w5, rfl, rfl⟩
   refine TL.opP rfl (op_move rfl) (TL.opP rfl (op_extract rfl rfl) (TL.opP rfl (op_extract rfl rfl) (TL.opP rfl (op_assign rfl) (TL.opP rfl (op_assign rfl) (TL.nil (TQ.then (TC.seq (TC.seq (TC.region (TL.opP rfl (op_move rfl) (TL.opP rfl (op_move rfl) (TL.callq rfl en_27 rfl (fun w2 hp => rsame_calls ((if swE p q = 0 then swapF (dec p) (dec s) q else [])) ((if swE p q = 0 then swapF (dec p) (dec s) q else [])) _ _ w2 (rw2 _ _ _ hp) (rw0 _ _ _ hp)) (TL.opP rfl (op_not rfl rfl) (TL.opP rfl (op_move rfl) ?_))))))))))))))
   first | refine TL.splitD (fun c3 => ?_) (fun c3 => ?_) | refine TL.splitB (fun c3 => ?_) (fun c3 => ?_)
   ·exact absurd c3 (by simp)
   ·refine TL.gT rfl rfl (TL.opP rfl (op_move rfl) (TL.gT rfl rfl (TL.opP rfl (op_move rfl) (TL.gT rfl rfl (TL.opP rfl (op_neq rfl rfl) (TL.opP rfl (op_pickF rfl rfl) (TL.nil (TQ.then ?_))))))))
    first | refine TC.condD rfl (fun c4 => ?_) (fun c4 => ?_) | refine TC.condB rfl (fun c4 => ?_) (fun c4 => ?_)
    ·exact absurd rfl c4
    ·refine TC.skip (TQ.then (TC.seq (TC.region (TL.opP rfl (op_move rfl) (TL.opP rfl (op_neq rfl rfl) (TL.opP rfl (op_move rfl) ?_))))))
     first | refine TL.splitD (fun c5 => ?_) (fun c5 => ?_) | refine TL.splitB (fun c5 => ?_) (fun c5 => ?_)
     ·refine TL.gFt rfl rfl rfl (TL.gFt rfl rfl rfl (TL.gFt rfl rfl rfl (TL.gFt rfl rfl rfl (TL.gFt rfl rfl rfl (TL.gFt rfl rfl rfl (TL.opP rfl (op_pickT rfl rfl) (TL.opP rfl (op_move rfl) (TL.gFt rfl rfl rfl (TL.gFt rfl rfl rfl (TL.gFt rfl rfl rfl (TL.gFt rfl rfl rfl (TL.gFt rfl rfl rfl (TL.gFt rfl rfl rfl (TL.gFt rfl rfl rfl (TL.gFt rfl rfl rfl (TL.opP rfl (op_pickT rfl rfl) (TL.opP rfl (op_move rfl) (TL.gT rfl rfl (TL.callq rfl en_19 rfl (fun w2 hp => lawake_calls w2 (tabs_at hp m8)) (TL.opP rfl (op_pickT rfl rfl) (TL.opP rfl (op_assign rfl) (TL.nil (TQ.then (TC.ret ?_))))))))))))))))))))))))
      refine ret1 rfl rfl (fun w' hp => ?_)
      exact ⟨rfl, hp.kp⟩
     ·refine TL.gT rfl rfl (TL.opP rfl (op_move rfl) (TL.gT rfl rfl (TL.opP rfl (op_slen rfl un_string rfl) (TL.gT rfl rfl (TL.opP rfl (op_move rfl) (TL.gT rfl rfl (TL.opP rfl (op_slen rfl un_string rfl) (TL.gT rfl rfl (TL.opP rfl (op_mul (r := ((q.size * s.size : Nat) : Int)) rfl rfl (Int.natCast_mul _ _).symm (by omega) (by omega)) (TL.gT rfl rfl (TL.opP rfl (op_gtr rfl rfl) (TL.opP rfl (op_pickF rfl rfl) (TL.opP rfl (op_move rfl) ?_)))))))))))))
      first | refine TL.splitD (fun c6 => ?_) (fun c6 => ?_) | refine TL.splitB (fun c6 => ?_) (fun c6 => ?_)
      ·refine TL.gFt rfl rfl rfl (TL.gFt rfl rfl rfl (TL.gFt rfl rfl rfl (TL.gFt rfl rfl rfl (TL.gFt rfl rfl rfl (TL.gFt rfl rfl rfl (TL.gFt rfl rfl rfl (TL.gFt rfl rfl rfl (TL.opP rfl (op_pickT rfl rfl) (TL.opP rfl (op_move rfl) (TL.gT rfl rfl (TL.callq rfl en_19 rfl (fun w2 hp => lawake_calls w2 (tabs_at hp m8)) (TL.opP rfl (op_pickT rfl rfl) (TL.opP rfl (op_assign rfl) (TL.nil (TQ.then (TC.ret ?_))))))))))))))))
       refine ret1 rfl rfl (fun w' hp => ?_)
       exact ⟨rfl, hp.kp⟩
      ·obtain ⟨gz, gv1, gv2, gv3⟩ := swE_z (Decidable.not_not.1 c5)
       have hmm : (dec s).length * (dec q).length ≤ 1048576 := by have h1 := Nat.mul_le_mul hds hdq; rw [Nat.mul_comm s.size q.size] at h1; omega
       obtain ⟨m1, m2⟩ := swap_makes hv gv1 gv2 gv3 (by omega) hmm (by omega) (by omega)
       have hp1 : 1 ≤ p.size := by have := List.length_pos_iff.2 gv3; omega
       rw [← if_pos (c := swE p q = 0) (t := swapF (dec p) (dec s) q) (e := []) gz] at m1 m2
       refine TL.gT rfl rfl (TL.opP rfl (op_move rfl) (TL.gT rfl rfl (TL.opP rfl (op_move rfl) (TL.gT rfl rfl (TL.callq rfl en_45 rfl (fun w2 hp => lapplied_at _ w2 (tabs_at hp m8) (by omega) (small_of m1.fits) m2 (rw2 _ _ _ hp)) (TL.gT rfl rfl (TL.opP rfl (op_move rfl) (TL.gT rfl rfl (TL.opP rfl (op_move rfl) (TL.gT rfl rfl (TL.opP rfl (op_move rfl) (TL.gT rfl rfl (TL.callq rfl en_46 rfl (fun w2 hp => lreplace_calls s p q w w2 hp.kp hmx (by omega) hp1 (by omega)) (TL.gT rfl rfl (TL.opP rfl (op_seql rfl rfl) (TL.opP rfl (op_pickF rfl rfl) (TL.opP rfl (op_move rfl) ?_)))))))))))))))))
       first | refine TL.splitD (fun c7 => ?_) (fun c7 => ?_) | refine TL.splitB (fun c7 => ?_) (fun c7 => ?_)
       ·refine TL.gT rfl rfl (TL.callq rfl en_19 rfl (fun w2 hp => lawake_calls w2 (tabs_at hp m8)) (TL.opP rfl (op_pickT rfl rfl) (TL.opP rfl (op_assign rfl) (TL.nil (TQ.then (TC.ret ?_))))))
        refine ret1 rfl rfl (fun w' hp => ?_)
        exact ⟨rfl, hp.kp⟩
       ·exact absurd rfl c7

end Go.SK
