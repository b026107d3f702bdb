/- The law LinesWhole answers true. -/
import Derived.Test.YtpomdenbgdgbhaaDoorE58
set_option linter.unusedVariables false
set_option linter.unusedSimpArgs false
set_option maxRecDepth 100000
namespace Go.SK
open Go Go.RowKit Go.Proofs
variable {S : Nat → Prop} {w0 : World} {F L : List Res}
theorem linesWholeB (s : ByteArray) {w : World} (hv : valid s = false) (hs0 : s.size ≤ 140737488351232) (hT : Tabs w) :
    Calls Tryd.prog 9 (List.toArray [.string s]) w fun e' w' => e' = .returned (.bool true) ∧ Kp NoB w w' := by
 refine calls_start Tryd.func9 rfl rfl rfl (Hp.i1 (r := tabs) hT) ?_
 refine TC.seq (TC.region (TL.opP rfl (op_assign rfl) (TL.nil (TQ.then (TC.seq (TC.seq (TC.region (TL.opP rfl (op_move rfl) ?_))))))))
 refine TL.opX rfl (OpX.buildSlice (ps := #[(0, _)]) rfl (bs_string_1 _)) ?_; rintro _ _ ⟨g10, rfl, rfl⟩
 refine TL.hp (fun _ h => blk_row (k := 1) (m := 1) h rfl (by decide)) ?_
 refine TL.opX rfl (OpX.callX en_17 rfl (long_x [s] _ rw0)) ?_; rintro _ _ ⟨b1, rfl, hb1, rfl⟩
 refine TL.nil (TQ.then ?_)
 first | refine TC.condD rfl (fun c1 => ?_) (fun c1 => ?_) | refine TC.condB rfl (fun c1 => ?_) (fun c1 => ?_)
 ·refine TC.seq (TC.region (TL.callq rfl en_19 rfl (fun w2 hp => lawake_calls w2 (tabs_at hp m1)) (TL.opP rfl (op_assign rfl) (TL.nil (TQ.then (TC.ret (TQ.then_ret ?_)))))))
  refine ret1 rfl rfl (fun w' hp => ?_)
  exact ⟨rfl, hp.kp⟩
 ·have hzs : s.size ≤ 2048 := hb1 c1 s (by simp)
  have hds := dec_len s
  refine TC.skip (TQ.then (TC.seq (TC.region (TL.opP rfl (op_move rfl) ?_))))
  refine TL.opX rfl (OpX.callX en_33 rfl (lnewb_x s hv (by omega) m1)) ?_; rintro _ _ ⟨rfl, rfl⟩
  refine TL.opP rfl (op_move rfl) (TL.opP rfl (op_extract rfl rfl) (TL.opP rfl (op_extract rfl rfl) (TL.opP rfl (op_assign rfl) (TL.opP rfl (op_assign rfl) (TL.nil (TQ.then (TC.seq (TC.seq (TC.region (TL.opP rfl (op_move rfl) (TL.opP rfl (op_neq rfl rfl) (TL.nil (TQ.then ?_)))))))))))))
  first | refine TC.condD rfl (fun c2 => ?_) (fun c2 => ?_) | refine TC.condB rfl (fun c2 => ?_) (fun c2 => ?_)
  ·refine TC.seq (TC.region (TL.opP rfl (op_move rfl) (TL.opP rfl (op_eqPtr rfl (lidx_eqo _)) (TL.opP rfl (op_move rfl) ?_))))
   first | refine TL.splitD (fun c3 => ?_) (fun c3 => ?_) | refine TL.splitB (fun c3 => ?_) (fun c3 => ?_)
   ·refine TL.gT rfl rfl (TL.opP rfl (op_move rfl) (TL.gT rfl rfl (TL.callq rfl en_18 rfl (fun w2 hp => valid_calls s w2 (tabs_at hp m1) (by omega)) (TL.gT rfl rfl (TL.opP rfl (op_not rfl rfl) (TL.opP rfl (op_pickT rfl rfl) (TL.opP rfl (op_move rfl) ?_)))))))
    first | refine TL.splitD (fun c4 => ?_) (fun c4 => ?_) | refine TL.splitB (fun c4 => ?_) (fun c4 => ?_)
    ·refine TL.gT rfl rfl (TL.callq rfl en_19 rfl (fun w2 hp => lawake_calls w2 (tabs_at hp m1)) (TL.opP rfl (op_pickT rfl rfl) (TL.opP rfl (op_assign rfl) (TL.nil (TQ.then (TC.ret (TQ.then_ret ?_)))))))
     refine ret1 rfl rfl (fun w' hp => ?_)
     exact ⟨rfl, hp.kp⟩
    ·exact absurd c4 (by rw [hv]; decide)
   ·exact absurd rfl c3
  ·exact absurd (show (21 : Int) ≠ 0 by decide) c2

theorem linesWholeV (s : ByteArray) {w : World} (hv : valid s = true) (hs0 : s.size ≤ 140737488351232) (hT : Tabs w) :
    Calls Tryd.prog 9 (List.toArray [.string s]) w fun e' w' => e' = .returned (.bool true) ∧ Kp NoB w w' := by
 refine calls_start Tryd.func9 rfl rfl rfl (Hp.i1 (r := tabs) hT) ?_
 refine TC.seq (TC.region (TL.opP rfl (op_assign rfl) (TL.nil (TQ.then (TC.seq (TC.seq (TC.region (TL.opP rfl (op_move rfl) ?_))))))))
 refine TL.opX rfl (OpX.buildSlice (ps := #[(0, _)]) rfl (bs_string_1 _)) ?_; rintro _ _ ⟨g10, rfl, rfl⟩
 refine TL.hp (fun _ h => blk_row (k := 1) (m := 1) h rfl (by decide)) ?_
 refine TL.opX rfl (OpX.callX en_17 rfl (long_x [s] _ rw0)) ?_; rintro _ _ ⟨b1, rfl, hb1, rfl⟩
 refine TL.nil (TQ.then ?_)
 first | refine TC.condD rfl (fun c1 => ?_) (fun c1 => ?_) | refine TC.condB rfl (fun c1 => ?_) (fun c1 => ?_)
 ·refine TC.seq (TC.region (TL.callq rfl en_19 rfl (fun w2 hp => lawake_calls w2 (tabs_at hp m1)) (TL.opP rfl (op_assign rfl) (TL.nil (TQ.then (TC.ret (TQ.then_ret ?_)))))))
  refine ret1 rfl rfl (fun w' hp => ?_)
  exact ⟨rfl, hp.kp⟩
 ·have hzs : s.size ≤ 2048 := hb1 c1 s (by simp)
  have hds := dec_len s
  refine TC.skip (TQ.then (TC.seq (TC.region (TL.opP rfl (op_move rfl) ?_))))
  refine TL.opX rfl (OpX.callX en_33 rfl (lnew_x s hv (by omega) m1)) ?_; rintro _ _ ⟨g2, tv2, bv2, rfl, rfl⟩
  refine TL.opP rfl (op_move rfl) (TL.opP rfl (op_extract rfl rfl) (TL.opP rfl (op_extract rfl rfl) (TL.opP rfl (op_assign rfl) (TL.opP rfl (op_assign rfl) (TL.nil (TQ.then (TC.seq (TC.seq (TC.region (TL.opP rfl (op_move rfl) (TL.opP rfl (op_neq rfl rfl) (TL.nil (TQ.then ?_)))))))))))))
  first | refine TC.condD rfl (fun c2 => ?_) (fun c2 => ?_) | refine TC.condB rfl (fun c2 => ?_) (fun c2 => ?_)
  ·exact absurd rfl c2
  ·refine TC.skip (TQ.then (TC.seq (TC.region (TL.opP rfl (op_assign rfl) (TL.nil (TQ.then (TC.seq (TC.seq (TC.region (TL.opP rfl (op_move rfl) ?_))))))))))
   refine TL.opX rfl (OpX.callX en_37 rfl (llen_x (dec s) _ _ _ rd0 rd1)) ?_; rintro _ _ ⟨rfl, rfl⟩
   refine TL.opP rfl (op_move rfl) (TL.nil (TQ.then (TC.block (TC.hp (fun _ h => new_nil 9 1 h) ?_))))
   have hbl := begs_len (dec s)
   refine TC.loop (ι := Nat × Value) (fun (i, lv) => [(0, .string s), (3, .pointer (some ⟨g2, 0, none⟩)), (5, lv), (31, .int .i64 ((begs (dec s)).length : Int)), (32, .int .i64 (i : Int))]) (fun (i, lv) => [.row lv 9 1 (((List.range i).map (seg (dec s))).map enc).length ((((List.range i).map (seg (dec s))).map enc).map Value.string), .blk g2 (.cells [tv2, bv2, .bool true].toArray 58 (0, 0)), .rd tv2 1 (dec s).length ((dec s).map (Value.int .i32)), .rd bv2 1 (begs (dec s)).length ((begs (dec s)).map nv), tabs]) (fun (i, lv) => i ≤ (begs (dec s)).length) (fun (i, lv) => (begs (dec s)).length - i) ((0, .slice none 0 0)) (Nat.zero_le _) ⟨rfl, rfl, rfl, rfl, rfl, trivial⟩ (fun _ h => h.drop4) ?_
   rintro ⟨i, lv⟩ (hi : i ≤ (begs (dec s)).length)
   have hrl : (((List.range i).map (seg (dec s))).map enc).length = i := by simp
   show TC _ _ _ _ [(0, .string s), (3, .pointer (some ⟨g2, 0, none⟩)), (5, lv), (31, .int .i64 ((begs (dec s)).length : Int)), (32, .int .i64 (i : Int))] _ _ ([.row lv 9 1 (((List.range i).map (seg (dec s))).map enc).length ((((List.range i).map (seg (dec s))).map enc).map Value.string), .blk g2 (.cells [tv2, bv2, .bool true].toArray 58 (0, 0)), .rd tv2 1 (dec s).length ((dec s).map (Value.int .i32)), .rd bv2 1 (begs (dec s)).length ((begs (dec s)).map nv), tabs])
   refine TC.seq (TC.region (TL.opP rfl (op_lss rfl rfl) (TL.nil (TQ.then (TC.seq ?_)))))
   first | refine TC.condD rfl (fun c3 => ?_) (fun c3 => ?_) | refine TC.condB rfl (fun c3 => ?_) (fun c3 => ?_)
   ·have hik : i < (begs (dec s)).length := by omega
    obtain ⟨hlF, hlE, hl10⟩ := line_seg hv hik
    refine TC.skip (TQ.then (TC.seq (TC.block (TC.seq (TC.region (TL.opP rfl (op_move rfl) (TL.opP rfl (op_assign rfl) (TL.nil (TQ.then (TC.seq (TC.region (TL.opP rfl (op_move rfl) (TL.opP rfl (op_move rfl) (TL.hp (fun _ h => h.pick1) ?_))))))))))))))
    refine TL.opX rfl (OpX.callX en_31 rfl (lline_x (dec s) _ _ _ rd1 rd2 (i : Int))) ?_; rintro _ _ ⟨rfl, rfl⟩
    refine TL.opP rfl (op_move rfl) (TL.opP rfl (op_extract rfl rfl) (TL.opP rfl (op_extract rfl rfl) (TL.opP rfl (op_assign rfl) (TL.opP rfl (op_assign rfl) (TL.nil (TQ.then (TC.seq (TC.seq (TC.region (TL.opP rfl (op_move rfl) (TL.opP rfl (op_neq rfl rfl) (TL.opP rfl (op_move rfl) ?_))))))))))))
    first | refine TL.splitD (fun c4 => ?_) (fun c4 => ?_) | refine TL.splitB (fun c4 => ?_) (fun c4 => ?_)
    ·exact absurd hlE c4
    ·refine TL.gT rfl rfl (TL.opP rfl (op_move rfl) (TL.gT rfl rfl (TL.callq rfl en_42 rfl (fun w2 hp => lcontains_calls _ w2) (TL.opP rfl (op_pickF rfl rfl) (TL.nil (TQ.then ?_))))))
     first | refine TC.condD rfl (fun c5 => ?_) (fun c5 => ?_) | refine TC.condB rfl (fun c5 => ?_) (fun c5 => ?_)
     ·(rw [hlF, hl10] at c5; exact absurd c5 (by decide))
     ·refine TC.skip (TQ.then (TC.region (TL.opP rfl (op_move rfl) (TL.opP rfl (op_move rfl) ?_))))
      refine TL.opX rfl (OpX.buildSlice (ps := #[(0, _)]) rfl (bs_string_1 _)) ?_; rintro _ _ ⟨g49, rfl, rfl⟩
      refine TL.hp (fun _ h => blk_row (k := 1) (m := 1) h rfl (by decide)) (TL.hp (fun _ h => h.pick2) ?_)
      refine TL.opX rfl (OpX.append (bytes := 16) tsl_string (by decide) (by decide) rfl rw1 (one1 rfl) (by simp only [List.length_map, List.length_range]; omega) (zs := (((List.range (i + 1)).map (seg (dec s))).map enc).map Value.string) (by rw [hlF, List.range_succ]; simp)) ?_; rintro v5 _ rfl
      refine TL.know (fun _ h => row1 h) (fun o5 => (TL.hp (fun _ h => row_lenM h) (TL.opP rfl (op_assign rfl) (TL.nil (TQ.block_normal (TQ.then (TC.region (TL.opP rfl (op_add rfl rfl rfl (by omega) (by omega)) (TL.opP rfl (op_move rfl) (TL.nil ?_))))))))))
      exact TQ.round (i + 1, v5) (by show i + 1 ≤ _; omega) (by show _ - (i + 1) < _ - i; omega) ⟨rfl, rfl, rfl, rfl, rfl, trivial⟩ (fun _ h => h.drop1)
   ·obtain rfl : i = (begs (dec s)).length := by omega
    have hjl := join_lines hv
    refine TC.exit (TQ.then_exit (TQ.loop_exit (TQ.block_hit (TQ.then (TC.seq (TC.region (TL.opP rfl (op_move rfl) ?_)))))))
    refine TL.callq rfl en_43 rfl (fun w2 hp => ljoin_calls w2 (hp.at_ _ m0) (by rw [hrl]; omega) (by rw [hrl]; omega) hjl (by omega)) ?_
    refine TL.opP rfl (op_move rfl) (TL.opP rfl (op_seql rfl rfl) (TL.opP rfl (op_move rfl) ?_))
    first | refine TL.splitD (fun c6 => ?_) (fun c6 => ?_) | refine TL.splitB (fun c6 => ?_) (fun c6 => ?_)
    ·refine TL.gT rfl rfl (TL.opP rfl (op_move rfl) (TL.gT rfl rfl (TL.hp (fun _ h => h.pick1) ?_)))
     refine TL.opX rfl (OpX.callX en_28 rfl (lsize_x (dec s) _ _ _ rd1 rd2)) ?_; rintro _ _ ⟨rfl, rfl⟩
     refine TL.gT rfl rfl (TL.opP rfl (op_move rfl) (TL.gT rfl rfl (TL.callq rfl en_32 rfl (fun w2 hp => rcount_calls s w2 (by omega)) (TL.gT rfl rfl (TL.opP rfl (op_eql rfl rfl) (TL.opP rfl (op_pickT rfl rfl) (TL.opP rfl (op_move rfl) ?_)))))))
     first | refine TL.splitD (fun c7 => ?_) (fun c7 => ?_) | refine TL.splitB (fun c7 => ?_) (fun c7 => ?_)
     ·refine TL.gT rfl rfl (TL.callq rfl en_19 rfl (fun w2 hp => lawake_calls w2 (tabs_at hp m4)) (TL.opP rfl (op_pickT rfl rfl) (TL.opP rfl (op_assign rfl) (TL.nil (TQ.then (TC.ret ?_))))))
      refine ret1 rfl rfl (fun w' hp => ?_)
      exact ⟨rfl, hp.kp⟩
     ·exact absurd (by rw [rcount_dec]) c7
    ·exact absurd rfl c6

theorem linesWhole_law (s : ByteArray) {w : World} (hs0 : s.size ≤ 140737488351232) (hT : Tabs w) :
    Calls Tryd.prog 9 (List.toArray [.string s]) w fun e' w' => e' = .returned (.bool true) ∧ Kp NoB w w' := by
  cases hv : valid s with
  | true => exact linesWholeV s hv hs0 hT
  | false => exact linesWholeB s hv hs0 hT
end Go.SK
