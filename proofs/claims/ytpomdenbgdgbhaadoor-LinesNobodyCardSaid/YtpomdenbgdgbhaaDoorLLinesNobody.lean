/- The law LinesNobody answers true. -/
import Derived.Test.YtpomdenbgdgbhaaDoorE58
set_option linter.unusedVariables false
set_option linter.unusedSimpArgs false
set_option maxRecDepth 100000
namespace Go.SK
open Go Go.RowKit Go.Proofs
variable {S : Nat → Prop} {w0 : World} {F L : List Res}
theorem linesNobody_law (s : ByteArray) (n m k : Int) {w : World}  (hs0 : s.size ≤ 140737488351232) (hT : Tabs w) :
    Calls Tryd.prog 8 (List.toArray [.string s, .int .i64 n, .int .i64 m, .int .i64 k]) w fun e' w' => e' = .returned (.bool true) ∧ Kp NoB w w' := by
 refine calls_start Tryd.func8 rfl rfl rfl (Hp.i1 (r := tabs) hT) ?_
 refine TC.seq (TC.region (TL.opP rfl (op_assign rfl) (TL.nil (TQ.then (TC.seq (TC.seq (TC.region (TL.opP rfl (op_move rfl) ?_))))))))
 refine TL.opX rfl (OpX.buildSlice (ps := #[(0, _)]) rfl (bs_string_1 _)) ?_; rintro _ _ ⟨g28, rfl, rfl⟩
 refine TL.hp (fun _ h => blk_row (k := 1) (m := 1) h rfl (by decide)) ?_
 refine TL.opX rfl (OpX.callX en_17 rfl (long_x [s] _ rw0)) ?_; rintro _ _ ⟨b1, rfl, hb1, rfl⟩
 refine TL.nil (TQ.then ?_)
 first | refine TC.condD rfl (fun c1 => ?_) (fun c1 => ?_) | refine TC.condB rfl (fun c1 => ?_) (fun c1 => ?_)
 ·refine TC.seq (TC.region (TL.callq rfl en_19 rfl (fun w2 hp => lawake_calls w2 (tabs_at hp m1)) (TL.opP rfl (op_assign rfl) (TL.nil (TQ.then (TC.ret (TQ.then_ret ?_)))))))
  refine ret1 rfl rfl (fun w' hp => ?_)
  exact ⟨rfl, hp.kp⟩
 ·have hzs : s.size ≤ 2048 := hb1 c1 s (by simp)
  have hds := dec_len s
  refine TC.skip (TQ.then (TC.seq (TC.seq (TC.region (TL.opP rfl (op_build (ps := #[]) rfl (bl_lines_Index_ )) ?_)))))
  refine TL.opX rfl (OpX.box (cs := [.slice none 0 0, .slice none 0 0, .bool false]) rfl rfl) ?_; rintro _ _ ⟨g32, rfl, rfl⟩
  refine TL.opX rfl (OpX.buildSlice (ps := #[(0, _), (1, _)]) rfl (bs_p_lines_Index_2 _ _)) ?_; rintro _ _ ⟨g33, rfl, rfl⟩
  refine TL.hp (fun _ h => blk_row (k := 1) (m := 2) h rfl (by decide)) (TL.opV rfl (op_lenV rfl un_sl_p_lines_Index rfl rw0) (TL.opP rfl (op_move rfl) (TL.nil (TQ.then (TC.block (TC.loop (ι := Nat) (fun i => [(0, .string s), (1, .int .i64 n), (2, .int .i64 m), (3, .int .i64 k), (33, .slice (some ⟨g33, 0, none⟩) 2 2), (34, .int .i64 2), (35, .int .i64 (i : Int))]) (fun i => [.row (.slice (some ⟨g33, 0, none⟩) 2 2) 31 1 2 [.pointer none, .pointer (some ⟨g32, 0, none⟩)], .blk g32 (.cells [.slice none 0 0, .slice none 0 0, .bool false].toArray 58 (0, 0)), tabs]) (fun i => i ≤ 2) (fun i => 2 - i) (0) (Nat.zero_le _) ⟨rfl, rfl, rfl, rfl, rfl, rfl, rfl, trivial⟩ (fun _ h => h.drop2) ?_))))))
  rintro i hi
  refine TC.seq (TC.region (TL.opP rfl (op_lss rfl rfl) (TL.nil (TQ.then (TC.seq ?_)))))
  first | refine TC.condD rfl (fun c2 => ?_) (fun c2 => ?_) | refine TC.condB rfl (fun c2 => ?_) (fun c2 => ?_)
  ·have hi2 : i < 2 := by omega
   have hem : (⟨#[]⟩ : ByteArray).size = 0 := rfl
   obtain ⟨x, hx⟩ : ∃ x, ([.pointer none, .pointer (some ⟨g32, 0, none⟩)] : List Value).getD i .nilFunc = x := ⟨_, rfl⟩
   refine TC.skip (TQ.then (TC.seq (TC.block (TC.seq (TC.region (TL.opV rfl (op_index tsl_p_lines_Index rfl rw0 rfl (by omega) (by omega)) (TL.opV rfl (op_loadR ts_p_lines_Index rfl rw0 (lkVal' (by omega) hx (by omega))) (TL.opP rfl (op_assign rfl) (TL.nil (TQ.then (TC.seq (TC.region (TL.opP rfl (op_move rfl) (TL.opP rfl (op_move rfl) (TL.hp (fun _ h => h.pick1) ?_)))))))))))))))
   refine TL.opX rfl (OpX.callX en_31 rfl (zline_x x n (zdead_each hi2 hx))) ?_; rintro _ _ ⟨rfl, rfl⟩
   refine TL.opP rfl (op_move rfl) (TL.opP rfl (op_extract rfl rfl) (TL.opP rfl (op_extract rfl rfl) (TL.opP rfl (op_assign rfl) (TL.opP rfl (op_assign rfl) (TL.nil (TQ.then (TC.seq (TC.region (TL.opP rfl (op_move rfl) (TL.opP rfl (op_move rfl) (TL.opP rfl (op_move rfl) ?_)))))))))))
   refine TL.opX rfl (OpX.callX en_30 rfl (zat_x x n m (zdead_each hi2 hx))) ?_; rintro _ _ ⟨rfl, rfl⟩
   refine TL.opP rfl (op_move rfl) (TL.opP rfl (op_extract rfl rfl) (TL.opP rfl (op_extract rfl rfl) (TL.opP rfl (op_assign rfl) (TL.opP rfl (op_assign rfl) (TL.nil (TQ.then (TC.seq (TC.region (TL.opP rfl (op_move rfl) (TL.opP rfl (op_move rfl) ?_))))))))))
   refine TL.opX rfl (OpX.callX en_29 rfl (zwhere_x x n (zdead_each hi2 hx))) ?_; rintro _ _ ⟨rfl, rfl⟩
   refine TL.opP rfl (op_move rfl) (TL.opP rfl (op_extract rfl rfl) (TL.opP rfl (op_extract rfl rfl) (TL.opP rfl (op_extract rfl rfl) (TL.opP rfl (op_assign rfl) (TL.opP rfl (op_assign rfl) (TL.opP rfl (op_assign rfl) (TL.nil (TQ.then (TC.seq (TC.region (TL.opP rfl (op_move rfl) (TL.opP rfl (op_move rfl) ?_))))))))))))
   refine TL.opX rfl (OpX.callX en_39 rfl (zword_x x n (zdead_each hi2 hx))) ?_; rintro _ _ ⟨rfl, rfl⟩
   refine TL.opP rfl (op_move rfl) (TL.opP rfl (op_extract rfl rfl) (TL.opP rfl (op_extract rfl rfl) (TL.opP rfl (op_extract rfl rfl) (TL.opP rfl (op_assign rfl) (TL.opP rfl (op_assign rfl) (TL.opP rfl (op_assign rfl) (TL.nil (TQ.then (TC.seq (TC.region (TL.opP rfl (op_move rfl) (TL.opP rfl (op_move rfl) ?_))))))))))))
   refine TL.opX rfl (OpX.callX en_22 rfl (zfind_x x s (zdead_each hi2 hx))) ?_; rintro _ _ ⟨rfl, rfl⟩
   refine TL.opP rfl (op_move rfl) (TL.opP rfl (op_extract rfl rfl) (TL.opP rfl (op_extract rfl rfl) (TL.opP rfl (op_assign rfl) (TL.opP rfl (op_assign rfl) (TL.nil (TQ.then (TC.seq (TC.region (TL.opP rfl (op_move rfl) (TL.opP rfl (op_move rfl) (TL.opP rfl (op_move rfl) ?_)))))))))))
   refine TL.opX rfl (OpX.callX en_41 rfl (zswap_x x s s (zdead_each hi2 hx))) ?_; rintro _ _ ⟨rfl, rfl⟩
   refine TL.opP rfl (op_move rfl) (TL.opP rfl (op_extract rfl rfl) (TL.opP rfl (op_extract rfl rfl) (TL.opP rfl (op_assign rfl) (TL.opP rfl (op_assign rfl) (TL.nil (TQ.then (TC.seq (TC.region (TL.opP rfl (op_move rfl) (TL.opP rfl (op_move rfl) (TL.opP rfl (op_move rfl) (TL.opP rfl (op_move rfl) ?_))))))))))))
   refine TL.opX rfl (OpX.callX en_25 rfl (zmove_x x n m k (zdead_each hi2 hx))) ?_; rintro _ _ ⟨rfl, rfl⟩
   refine TL.opP rfl (op_move rfl) (TL.opP rfl (op_extract rfl rfl) (TL.opP rfl (op_extract rfl rfl) (TL.opP rfl (op_assign rfl) (TL.opP rfl (op_assign rfl) (TL.nil (TQ.then (TC.seq (TC.region (TL.opP rfl (op_move rfl) (TL.opP rfl (op_move rfl) (TL.opP rfl (op_add rfl rfl rfl (by omega) (by omega)) (TL.opP rfl (op_move rfl) (TL.opP rfl (op_add rfl rfl rfl (by omega) (by omega)) (TL.opP rfl (op_move rfl) (TL.opP rfl (op_add rfl rfl rfl (by omega) (by omega)) (TL.opP rfl (op_move rfl) (TL.opP rfl (op_add rfl rfl rfl (by omega) (by omega)) (TL.opP rfl (op_move rfl) (TL.opP rfl (op_slen rfl un_string rfl) (TL.opP rfl (op_add rfl rfl rfl (by omega) (by omega)) (TL.opP rfl (op_move rfl) (TL.opV rfl (op_lenV rfl un_sl_int rfl (rdb_nil [] 1).cons.cons.cons) ?_))))))))))))))))))))))
   refine TL.opP rfl (op_add rfl rfl rfl (by omega) (by omega)) (TL.opP rfl (op_move rfl) (TL.opV rfl (op_lenV rfl un_sl_api_Part rfl (rdb_nil [] 3).cons.cons.cons) (TL.opP rfl (op_add rfl rfl rfl (by omega) (by omega)) (TL.opP rfl (op_move rfl) (TL.opV rfl (op_lenV rfl un_sl_api_Part rfl (rdb_nil [] 3).cons.cons.cons) (TL.opP rfl (op_add rfl rfl rfl (by omega) (by omega)) (TL.opP rfl (op_move rfl) ?_)))))))
   refine TL.opX rfl (OpX.callX en_37 rfl (zlen_x x (zdead_each hi2 hx))) ?_; rintro _ _ ⟨rfl, rfl⟩
   refine TL.opP rfl (op_add rfl rfl rfl (by omega) (by omega)) (TL.opP rfl (op_move rfl) ?_)
   refine TL.opX rfl (OpX.callX en_28 rfl (zsize_x x (zdead_each hi2 hx))) ?_; rintro _ _ ⟨rfl, rfl⟩
   refine TL.opP rfl (op_add rfl rfl rfl (by omega) (by omega)) (TL.opP rfl (op_neq rfl rfl) (TL.opP rfl (op_move rfl) ?_))
   first | refine TL.splitD (fun c3 => ?_) (fun c3 => ?_) | refine TL.splitB (fun c3 => ?_) (fun c3 => ?_)
   ·exact absurd (by first | rfl | decide | omega) c3
   ·refine TL.gT rfl rfl (TL.opP rfl (op_move rfl) (TL.gT rfl rfl (TL.opP rfl (op_neq rfl rfl) (TL.opP rfl (op_pickF rfl rfl) (TL.opP rfl (op_move rfl) ?_)))))
    first | refine TL.splitD (fun c4 => ?_) (fun c4 => ?_) | refine TL.splitB (fun c4 => ?_) (fun c4 => ?_)
    ·exact absurd (by first | rfl | decide | omega) c4
    ·refine TL.gT rfl rfl (TL.opP rfl (op_move rfl) (TL.gT rfl rfl (TL.opP rfl (op_neq rfl rfl) (TL.opP rfl (op_pickF rfl rfl) (TL.opP rfl (op_move rfl) ?_)))))
     first | refine TL.splitD (fun c5 => ?_) (fun c5 => ?_) | refine TL.splitB (fun c5 => ?_) (fun c5 => ?_)
     ·exact absurd (by first | rfl | decide | omega) c5
     ·refine TL.gT rfl rfl (TL.opP rfl (op_move rfl) (TL.gT rfl rfl (TL.opP rfl (op_neq rfl rfl) (TL.opP rfl (op_pickF rfl rfl) (TL.opP rfl (op_move rfl) ?_)))))
      first | refine TL.splitD (fun c6 => ?_) (fun c6 => ?_) | refine TL.splitB (fun c6 => ?_) (fun c6 => ?_)
      ·exact absurd (by first | rfl | decide | omega) c6
      ·refine TL.gT rfl rfl (TL.opP rfl (op_move rfl) (TL.gT rfl rfl (TL.opP rfl (op_neq rfl rfl) (TL.opP rfl (op_pickF rfl rfl) (TL.opP rfl (op_move rfl) ?_)))))
       first | refine TL.splitD (fun c7 => ?_) (fun c7 => ?_) | refine TL.splitB (fun c7 => ?_) (fun c7 => ?_)
       ·exact absurd (by first | rfl | decide | omega) c7
       ·refine TL.gT rfl rfl (TL.opP rfl (op_move rfl) (TL.gT rfl rfl (TL.opP rfl (op_neq rfl rfl) (TL.opP rfl (op_pickF rfl rfl) (TL.opP rfl (op_move rfl) ?_)))))
        first | refine TL.splitD (fun c8 => ?_) (fun c8 => ?_) | refine TL.splitB (fun c8 => ?_) (fun c8 => ?_)
        ·exact absurd (by first | rfl | decide | omega) c8
        ·refine TL.gT rfl rfl (TL.opP rfl (op_move rfl) (TL.gT rfl rfl (TL.opP rfl (op_neq rfl rfl) (TL.opP rfl (op_pickF rfl rfl) (TL.opP rfl (op_move rfl) ?_)))))
         first | refine TL.splitD (fun c9 => ?_) (fun c9 => ?_) | refine TL.splitB (fun c9 => ?_) (fun c9 => ?_)
         ·exact absurd (by first | rfl | decide | omega) c9
         ·refine TL.gT rfl rfl (TL.opP rfl (op_move rfl) (TL.gT rfl rfl (TL.opP rfl (op_neq rfl rfl) (TL.opP rfl (op_pickF rfl rfl) (TL.nil (TQ.then ?_))))))
          first | refine TC.condD rfl (fun c10 => ?_) (fun c10 => ?_) | refine TC.condB rfl (fun c10 => ?_) (fun c10 => ?_)
          ·exact absurd (by first | rfl | decide | omega) c10
          ·refine TC.skip (TQ.block_normal (TQ.then (TC.region (TL.opP rfl (op_add rfl rfl rfl (by omega) (by omega)) (TL.opP rfl (op_move rfl) (TL.nil ?_))))))
           exact TQ.round (i + 1) (by show i + 1 ≤ 2; omega) (by show 2 - (i + 1) < 2 - i; omega) ⟨rfl, rfl, rfl, rfl, rfl, rfl, rfl, trivial⟩ (fun _ h => h.pick2.pick1.pick2)
  ·refine TC.exit (TQ.then_exit (TQ.loop_exit (TQ.block_hit (TQ.then (TC.seq (TC.region (TL.callq rfl en_19 rfl (fun w2 hp => lawake_calls w2 (tabs_at hp m2)) (TL.opP rfl (op_assign rfl) (TL.nil (TQ.then (TC.ret ?_)))))))))))
   refine ret1 rfl rfl (fun w' hp => ?_)
   exact ⟨rfl, hp.kp⟩

end Go.SK
