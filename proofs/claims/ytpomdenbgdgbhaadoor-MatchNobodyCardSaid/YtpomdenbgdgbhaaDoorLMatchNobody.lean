/- The law MatchNobody answers true. -/
import Derived.Test.YtpomdenbgdgbhaaDoorE77
set_option linter.unusedVariables false
set_option linter.unusedSimpArgs false
set_option maxRecDepth 100000
namespace Go.SK
open Go Go.RowKit Go.Proofs
variable {S : Nat → Prop} {w0 : World} {F L : List Res}
theorem matchNobody_law (s q : ByteArray) (n : Int) {w : World}  (hs0 : s.size ≤ 140737488351232) (hq0 : q.size ≤ 140737488351232) (hT : Tabs w) :
    Calls Tryd.prog 15 (List.toArray [.string s, .string q, .int .i64 n]) w fun e' w' => e' = .returned (.bool true) ∧ Kp NoB w w' := by
 refine calls_start Tryd.func15 rfl rfl rfl (Hp.i1 (r := tabs) hT) ?_
 refine TC.seq (TC.region (TL.opP rfl (op_assign rfl) (TL.nil (TQ.then (TC.seq (TC.seq (TC.region (TL.opP rfl (op_build (ps := #[]) rfl (bl_match_Pattern_ )) ?_))))))))
 refine TL.opX rfl (OpX.box (cs := [.slice none 0 0, .int .i64 0, .bool false]) rfl rfl) ?_; rintro _ _ ⟨g16, rfl, rfl⟩
 refine TL.opX rfl (OpX.buildSlice (ps := #[(0, _), (1, _)]) rfl (bs_p_match_Pattern_2 _ _)) ?_; rintro _ _ ⟨g17, rfl, rfl⟩
 refine TL.hp (fun _ h => blk_row (k := 1) (m := 2) h rfl (by decide)) (TL.opV rfl (op_lenV rfl un_sl_p_match_Pattern rfl rw0) (TL.opP rfl (op_move rfl) (TL.nil (TQ.then (TC.block (TC.loop (ι := Nat) (fun i => [(0, .string s), (1, .string q), (2, .int .i64 n), (17, .slice (some ⟨g17, 0, none⟩) 2 2), (18, .int .i64 2), (19, .int .i64 (i : Int))]) (fun i => [.row (.slice (some ⟨g17, 0, none⟩) 2 2) 66 1 2 [.pointer none, .pointer (some ⟨g16, 0, none⟩)], noPat g16, tabs]) (fun i => i ≤ 2) (fun i => 2 - i) (0) (Nat.zero_le _) ⟨rfl, rfl, rfl, rfl, rfl, rfl, trivial⟩ (fun _ h => h) ?_))))))
 rintro i hi
 refine TC.seq (TC.region (TL.opP rfl (op_lss rfl rfl) (TL.nil (TQ.then (TC.seq ?_)))))
 first | refine TC.condD rfl (fun c1 => ?_) (fun c1 => ?_) | refine TC.condB rfl (fun c1 => ?_) (fun c1 => ?_)
 ·have hi2 : i < 2 := by omega
  obtain ⟨x, hx⟩ : ∃ x, ([.pointer none, .pointer (some ⟨g16, 0, none⟩)] : List Value).getD i .nilFunc = x := ⟨_, rfl⟩
  refine TC.skip (TQ.then (TC.seq (TC.block (TC.seq (TC.region (TL.opV rfl (op_index tsl_p_match_Pattern rfl rw0 rfl (by omega) (by omega)) (TL.opV rfl (op_loadR ts_p_match_Pattern rfl rw0 (lkVal' (by omega) hx (by omega))) (TL.opP rfl (op_assign rfl) (TL.nil (TQ.then (TC.seq (TC.region (TL.opP rfl (op_move rfl) (TL.opP rfl (op_move rfl) (TL.opP rfl (op_move rfl) (TL.hp (fun _ h => h.pick1) ?_))))))))))))))))
  refine TL.opX rfl (OpX.callX en_50 rfl (nfind_each s n hi2 hx)) ?_; rintro _ _ ⟨rfl, rfl⟩
  refine TL.opP rfl (op_move rfl) (TL.opP rfl (op_extract rfl rfl) (TL.opP rfl (op_extract rfl rfl) (TL.opP rfl (op_assign rfl) (TL.opP rfl (op_assign rfl) (TL.nil (TQ.then (TC.seq (TC.region (TL.opP rfl (op_move rfl) (TL.opP rfl (op_move rfl) ?_))))))))))
  refine TL.opX rfl (OpX.callX en_57 rfl (nall_x x s (fun n => nfind_each s n hi2 hx))) ?_; rintro _ _ ⟨rfl, rfl⟩
  refine TL.opP rfl (op_move rfl) (TL.opP rfl (op_extract rfl rfl) (TL.opP rfl (op_extract rfl rfl) (TL.opP rfl (op_assign rfl) (TL.opP rfl (op_assign rfl) (TL.nil (TQ.then (TC.seq (TC.region (TL.opP rfl (op_move rfl) (TL.opP rfl (op_move rfl) (TL.opP rfl (op_move rfl) ?_)))))))))))
  refine TL.opX rfl (OpX.callX en_52 rfl (nswap_x x s q (fun n => nfind_each s n hi2 hx))) ?_; rintro _ _ ⟨rfl, rfl⟩
  refine TL.opP rfl (op_move rfl) (TL.opP rfl (op_extract rfl rfl) (TL.opP rfl (op_extract rfl rfl) (TL.opP rfl (op_assign rfl) (TL.opP rfl (op_assign rfl) (TL.nil (TQ.then (TC.seq (TC.region (TL.opP rfl (op_move rfl) (TL.opV rfl (op_lenV rfl un_sl_int rfl (rdb_nil [] 1).cons.cons.cons) (TL.opP rfl (op_move rfl) (TL.opV rfl (op_lenV rfl un_sl_sl_int rfl (rdb_nil [] 1).cons.cons.cons) (TL.opP rfl (op_add rfl rfl rfl (by omega) (by omega)) (TL.opP rfl (op_move rfl) (TL.opV rfl (op_lenV rfl un_sl_api_Part rfl (rdb_nil [] 3).cons.cons.cons) (TL.opP rfl (op_add rfl rfl rfl (by omega) (by omega)) (TL.opP rfl (op_move rfl) ?_)))))))))))))))))
  refine TL.opX rfl (OpX.callX en_56 rfl (ngr_each hi2 hx)) ?_; rintro _ _ ⟨rfl, rfl⟩
  refine TL.opP rfl (op_add rfl rfl rfl (by omega) (by omega)) (TL.opP rfl (op_neq rfl rfl) (TL.opP rfl (op_move rfl) ?_))
  first | refine TL.splitD (fun c2 => ?_) (fun c2 => ?_) | refine TL.splitB (fun c2 => ?_) (fun c2 => ?_)
  ·exact absurd (by first | rfl | decide | omega) c2
  ·refine TL.gT rfl rfl (TL.opP rfl (op_move rfl) (TL.gT rfl rfl (TL.opP rfl (op_neq rfl rfl) (TL.opP rfl (op_pickF rfl rfl) (TL.opP rfl (op_move rfl) ?_)))))
   first | refine TL.splitD (fun c3 => ?_) (fun c3 => ?_) | refine TL.splitB (fun c3 => ?_) (fun c3 => ?_)
   ·exact absurd (by first | rfl | decide | omega) c3
   ·refine TL.gT rfl rfl (TL.opP rfl (op_move rfl) (TL.gT rfl rfl (TL.opP rfl (op_neq rfl rfl) (TL.opP rfl (op_pickF rfl rfl) (TL.opP rfl (op_move rfl) ?_)))))
    first | refine TL.splitD (fun c4 => ?_) (fun c4 => ?_) | refine TL.splitB (fun c4 => ?_) (fun c4 => ?_)
    ·exact absurd (by first | rfl | decide | omega) c4
    ·refine TL.gT rfl rfl (TL.opP rfl (op_move rfl) (TL.gT rfl rfl (TL.opP rfl (op_neq rfl rfl) (TL.opP rfl (op_pickF rfl rfl) (TL.nil (TQ.then ?_))))))
     first | refine TC.condD rfl (fun c5 => ?_) (fun c5 => ?_) | refine TC.condB rfl (fun c5 => ?_) (fun c5 => ?_)
     ·exact absurd (by first | rfl | decide | omega) c5
     ·refine TC.skip (TQ.block_normal (TQ.then (TC.region (TL.opP rfl (op_add rfl rfl rfl (by omega) (by omega)) (TL.opP rfl (op_move rfl) (TL.nil ?_))))))
      exact TQ.round (i + 1) (by show i + 1 ≤ 2; omega) (by show 2 - (i + 1) < 2 - i; omega) ⟨rfl, rfl, rfl, rfl, rfl, rfl, trivial⟩ (fun _ h => h.pick2.pick1.pick2)
 ·refine TC.exit (TQ.then_exit (TQ.loop_exit (TQ.block_hit (TQ.then (TC.seq (TC.region (TL.callq rfl en_47 rfl (fun w2 hp => wawake_calls w2 (tabs_at hp m2)) (TL.opP rfl (op_assign rfl) (TL.nil (TQ.then (TC.ret ?_)))))))))))
  refine ret1 rfl rfl (fun w' hp => ?_)
  exact ⟨rfl, hp.kp⟩

end Go.SK
