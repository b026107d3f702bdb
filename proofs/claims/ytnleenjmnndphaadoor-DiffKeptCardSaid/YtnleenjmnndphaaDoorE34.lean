/- Walks: the document's own answer for layer 10: the edit between two texts. -/
import Derived.Test.YtnleenjmnndphaaDoorE33
set_option linter.unusedVariables false
set_option linter.unusedSimpArgs false
set_option maxRecDepth 100000
namespace Go.SK
open Go Go.RowKit Go.Proofs
variable {S : Nat → Prop} {w0 : World} {F L : List Res}
theorem rdiff_x (s t : ByteArray) (hs : s.size ≤ 4398046511104) (ht : t.size ≤ 4398046511104) :
    CallX Tryd.prog 20 [.string s, .string t] S w0 (L) (fun u L' => ∃ v', u = .tuple #[v', .int .i64 (diffE s t)] ∧ L' = .row v' 36 3 (diffF s t).length (encs (diffF s t)) :: L) := by
  intro w hp
  refine calls_start Tryd.func20 rfl rfl rfl (hp) ?_
  refine TC.seq ?_
  refine TC.region ?_   -- region 0 ref.go:75
  refine TL.opP rfl (op_assign rfl) ?_
  refine TL.opP rfl (op_assign rfl) ?_
  refine TL.nil ?_
  refine TQ.then ?_
  refine TC.seq ?_
  refine TC.seq ?_
  refine TC.region ?_   -- region 1 ref.go:76
  refine TL.opP rfl (op_move rfl) ?_
  refine TL.opP rfl (op_move rfl) ?_
  refine TL.opX rfl (OpX.buildSlice (ps := #[(0, _), (1, _)]) rfl (bs_string_2 _ _)) ?_; rintro _ _ ⟨g15, rfl, rfl⟩
  refine TL.hp (fun _ h => blk_row (k := 1) (m := 2) h rfl (by decide)) ?_
  refine TL.opX rfl (OpX.callX en_60 rfl (all2_x s t _ (by omega) (by omega) rw0)) ?_; rintro _ _ ⟨rfl, rfl⟩
  refine TL.opP rfl (op_assign rfl) ?_
  refine TL.nil ?_
  refine TQ.then ?_
  refine TC.seq ?_
  refine TC.region ?_   -- region 2 ref.go:76
  refine TL.opP rfl (op_move rfl) ?_
  refine TL.opP rfl (op_neq rfl rfl) ?_
  refine TL.nil ?_
  refine TQ.then ?_
  first | refine TC.condD rfl (fun c1 => ?_) (fun c1 => ?_) | refine TC.condB rfl (fun c1 => ?_) (fun c1 => ?_)
  · refine TC.seq ?_
    refine TC.region ?_   -- region 3 ref.go:77
    refine TL.opP rfl (op_move rfl) ?_
    refine TL.opP rfl (op_assign rfl) ?_
    refine TL.opP rfl (op_assign rfl) ?_
    refine TL.nil ?_
    refine TQ.then ?_
    refine TC.ret ?_
    refine TQ.then_ret ?_
    refine ret2 rfl rfl rfl (fun w' hp => ?_)
    first
      | exact ⟨_, _, rfl, ⟨.slice none 0 0, rfl, by rw [diffF_nz c1]; rfl⟩, new_nil _ 3 (hp.tail)⟩
      | exact ⟨_, _, rfl, ⟨_, by rw [show diffE s t = 0 from hz], by rw [hres]⟩, (hp.tail)⟩
  · have hz : ck2 s t = 0 := Decidable.not_not.1 c1
    obtain ⟨_, _, hdl1, hdl2, _, hbs0⟩ := diffE_z hz
    refine TC.skip ?_
    refine TQ.then ?_
    refine TC.seq ?_
    refine TC.region ?_   -- region 4 ref.go:79
    refine TL.opP rfl (op_move rfl) ?_
    refine TL.opX rfl (OpX.callX en_61 rfl (rchars_x s (by omega))) ?_; rintro w2 _ ⟨_, rfl, rfl⟩
    refine TL.opP rfl (op_move rfl) ?_
    refine TL.opX rfl (OpX.callX en_61 rfl (rchars_x t (by omega))) ?_; rintro w3 _ ⟨_, rfl, rfl⟩
    refine TL.opP rfl (op_assign rfl) ?_
    refine TL.opP rfl (op_assign rfl) ?_
    refine TL.nil ?_
    refine TQ.then ?_
    refine TC.seq ?_
    refine TC.region ?_   -- region 5 ref.go:80
    refine TL.opP rfl (op_move rfl) ?_
    refine TL.opP rfl (op_move rfl) ?_
    refine TL.opX rfl (OpX.callX en_62 rfl (rows_x (dec s) (dec t) _ _ hdl1 hdl2 rw1 rw0)) ?_; rintro w4 _ ⟨_, vals, es, rfl, hro, rfl⟩
    have hvl := hro.1
    refine TL.opP rfl (op_assign rfl) ?_
    refine TL.nil ?_
    refine TQ.then ?_
    refine TC.seq ?_
    refine TC.region ?_   -- region 6 ref.go:81
    refine TL.opP rfl (op_assign rfl) ?_
    refine TL.nil ?_
    refine TQ.then ?_
    refine TC.seq ?_
    refine TC.region ?_   -- region 7 ref.go:82
    refine TL.opP rfl (op_assign rfl) ?_
    refine TL.opP rfl (op_assign rfl) ?_
    refine TL.nil ?_
    refine TQ.then ?_
    refine TC.seq ?_
    refine TC.seq ?_
    refine TC.region ?_   -- region 8 ref.go:83
    refine TL.opP rfl (op_move rfl) ?_
    refine TL.opV rfl (op_lenV rfl un_sl_int32 rfl rw3) ?_
    refine TL.opP rfl (op_move rfl) ?_
    refine TL.opV rfl (op_lenV rfl un_sl_int32 rfl rw2) ?_
    refine TL.opP rfl (op_add rfl rfl rfl (by omega) (by omega)) ?_
    refine TL.opP rfl (op_move rfl) ?_
    refine TL.nil ?_
    refine TQ.then ?_
    refine TC.block ?_
    refine TC.hp (fun _ h => new_nil 36 3 h) ?_
    refine TC.loop (ι := Nat × Nat × Nat × List Part × Value) (fun (c, i, k, ps, pv) => [(7, w2), (8, w3), (9, w4), (10, pv), (11, .int .i64 (i : Int)), (12, .int .i64 (k : Int)), (31, .int .i64 (((dec s).length : Int) + ((dec t).length : Int))), (32, .int .i64 (c : Int))]) (fun (c, i, k, ps, pv) => .row (pv) 36 3 (ps).length (encs (ps)) :: .row w4 97 1 vals.length vals :: col 1 es :: .row w3 21 1 (dec t).length ((dec t).map (Value.int .i32)) :: .row w2 21 1 (dec s).length ((dec s).map (Value.int .i32)) :: L) (fun (c, i, k, ps, pv) => DI (dec s) (dec t) i k ps ∧ (c ≤ i + k ∨ (i = (dec s).length ∧ k = (dec t).length))) (fun (c, i, k, ps, pv) => (dec s).length + (dec t).length - c) ((0, 0, 0, [], .slice none 0 0)) (⟨DI.start _ _, .inl (Nat.zero_le _)⟩) ⟨rfl, rfl, rfl, rfl, rfl, rfl, rfl, rfl, trivial⟩ (fun _ h => h.drop5) ?_
    rintro ⟨c, i, k, ps, pv⟩ ⟨hI, hcc⟩
    have hil := hI.ile
    have hkl := hI.kle
    have hpl := hI.len hbs0
    show TC _ _ _ _ [(7, w2), (8, w3), (9, w4), (10, pv), (11, .int .i64 (i : Int)), (12, .int .i64 (k : Int)), (31, .int .i64 (((dec s).length : Int) + ((dec t).length : Int))), (32, .int .i64 (c : Int))] _ _ (.row (pv) 36 3 (ps).length (encs (ps)) :: .row w4 97 1 vals.length vals :: col 1 es :: .row w3 21 1 (dec t).length ((dec t).map (Value.int .i32)) :: .row w2 21 1 (dec s).length ((dec s).map (Value.int .i32)) :: L)
    refine TC.seq ?_
    refine TC.region ?_   -- region 9 ref.go:83
    refine TL.opP rfl (op_lss rfl rfl) ?_
    refine TL.nil ?_
    refine TQ.then ?_
    refine TC.seq ?_
    first | refine TC.condD rfl (fun c2 => ?_) (fun c2 => ?_) | refine TC.condB rfl (fun c2 => ?_) (fun c2 => ?_)
    · refine TC.skip ?_
      refine TQ.then ?_
      refine TC.seq ?_
      refine TC.block ?_
      refine TC.block ?_
      refine TC.join1 [(7, w2), (8, w3), (9, w4), (10, pv), (11, .int .i64 (i : Int)), (12, .int .i64 (k : Int)), (31, .int .i64 (((dec s).length : Int) + ((dec t).length : Int))), (32, .int .i64 (c : Int)), (45, .bool (decide (i = (dec s).length ∧ k = (dec t).length)))] (.row (pv) 36 3 (ps).length (encs (ps)) :: .row w4 97 1 vals.length vals :: col 1 es :: .row w3 21 1 (dec t).length ((dec t).map (Value.int .i32)) :: .row w2 21 1 (dec s).length ((dec s).map (Value.int .i32)) :: L) ?_ ?_
      · refine TC.region ?_   -- region 12 ref.go:85
        refine TL.opP rfl (op_move rfl) ?_
        refine TL.opP rfl (op_move rfl) ?_
        refine TL.opV rfl (op_lenV rfl un_sl_int32 rfl rw4) ?_
        refine TL.opP rfl (op_eql rfl rfl) ?_
        refine TL.opP rfl (op_move rfl) ?_
        first | refine TL.splitD (fun c3 => ?_) (fun c3 => ?_) | refine TL.splitB (fun c3 => ?_) (fun c3 => ?_)
        · refine TL.gT rfl rfl ?_
          refine TL.opP rfl (op_move rfl) ?_
          refine TL.gT rfl rfl ?_
          refine TL.opP rfl (op_move rfl) ?_
          refine TL.gT rfl rfl ?_
          refine TL.opV rfl (op_lenV rfl un_sl_int32 rfl rw3) ?_
          refine TL.gT rfl rfl ?_
          refine TL.opP rfl (op_eql rfl rfl) ?_
          refine TL.opP rfl (op_pickT rfl rfl) ?_
          refine TL.opP rfl (op_assign rfl) ?_
          refine TL.nil ?_
          exact TQ.join1 ⟨rfl, rfl, rfl, rfl, rfl, rfl, rfl, rfl, gb rfl (by first | exact (decide_eq_false (by omega)).symm | exact decide_eq_decide.2 (by omega)), trivial⟩ (fun _ h => h)
        · refine TL.gFf rfl rfl rfl ?_
          refine TL.gFf rfl rfl rfl ?_
          refine TL.gFf rfl rfl rfl ?_
          refine TL.gFf rfl rfl rfl ?_
          refine TL.opP rfl (op_pickF rfl rfl) ?_
          refine TL.opP rfl (op_assign rfl) ?_
          refine TL.nil ?_
          exact TQ.join1 ⟨rfl, rfl, rfl, rfl, rfl, rfl, rfl, rfl, gb rfl (by first | exact (decide_eq_false (by omega)).symm | exact decide_eq_decide.2 (by omega)), trivial⟩ (fun _ h => h)
      · first | refine TC.condD rfl (fun c4 => ?_) (fun c4 => ?_) | refine TC.condB rfl (fun c4 => ?_) (fun c4 => ?_)
        · refine TC.skip ?_
          refine TQ.block_normal ?_
          refine TQ.block_normal ?_
          refine TQ.then ?_
          refine TC.region ?_   -- region 20 ref.go:83
          refine TL.opP rfl (op_add rfl rfl rfl (by omega) (by omega)) ?_
          refine TL.opP rfl (op_move rfl) ?_
          refine TL.nil ?_
          exact TQ.round (c + 1, i, k, ps, pv) (⟨hI, .inr c4⟩) (by dsimp only; omega) ⟨rfl, rfl, rfl, rfl, rfl, rfl, rfl, rfl, trivial⟩ (fun _ h => h)
        · refine TC.join1 [(7, w2), (8, w3), (9, w4), (10, pv), (11, .int .i64 (i : Int)), (12, .int .i64 (k : Int)), (31, .int .i64 (((dec s).length : Int) + ((dec t).length : Int))), (32, .int .i64 (c : Int)), (56, .bool (decide (i < (dec s).length ∧ k < (dec t).length ∧ (dec s).getD i 0 = (dec t).getD k 0)))] (.row (pv) 36 3 (ps).length (encs (ps)) :: .row w4 97 1 vals.length vals :: col 1 es :: .row w3 21 1 (dec t).length ((dec t).map (Value.int .i32)) :: .row w2 21 1 (dec s).length ((dec s).map (Value.int .i32)) :: L) ?_ ?_
          · refine TC.draw [] (.cons (.p, 0) (.cons (.p, 1) (.cons (.t, 2) (.cons (.p, 3) (.cons (.p, 4) (.cons (.p, 5) (.cons (.p, 6) (.cons (.t, 7) (.cons (.p, 8) (.cons (.p, 9) (.cons (.p, 10) (.cons (.p, 11) (.cons (.p, 12) (.cons (.p, 15) (.cons (.p, 16) (.cons (.t, 13) (.cons (.t, 14) (.cons (.t, 17) (.cons (.t, 18) (.cons (.p, 19) (.cons (.p, 20) (.cons (.p, 21) (.nil))))))))))))))))))))))) mo (by kernel_rfl) ?_   -- region 13 ref.go:86
            refine TR.p rfl rfl wt0 (op_move rfl) ?_
            refine TR.p rfl rfl wt0 (op_move rfl) ?_
            refine TR.t rfl rfl wt0 (op_lenV rfl un_sl_int32 rfl rw4) (fun _ h => h) ?_
            refine TR.p rfl rfl wt0 (op_lss rfl rfl) ?_
            refine TR.p rfl rfl wt0 (op_move rfl) ?_
            first | refine TR.splitD (fun c5 => ?_) (fun c5 => ?_) | refine TR.splitB (fun c5 => ?_) (fun c5 => ?_)
            · refine TR.p rfl rfl (by exact wtT rfl rfl) (op_move rfl) ?_
              refine TR.p rfl rfl (by exact wtT rfl rfl) (op_move rfl) ?_
              refine TR.t rfl rfl (by exact wtT rfl rfl) (op_lenV rfl un_sl_int32 rfl rw3) (fun _ h => h) ?_
              refine TR.p rfl rfl (by exact wtT rfl rfl) (op_lss rfl rfl) ?_
              refine TR.p rfl rfl wt0 (op_pickT rfl rfl) ?_
              refine TR.p rfl rfl wt0 (op_move rfl) ?_
              first | refine TR.splitD (fun c6 => ?_) (fun c6 => ?_) | refine TR.splitB (fun c6 => ?_) (fun c6 => ?_)
              · refine TR.p rfl rfl (by exact wtT rfl rfl) (op_move rfl) ?_
                refine TR.p rfl rfl (by exact wtT rfl rfl) (op_move rfl) ?_
                refine TR.p rfl rfl (by exact wtT rfl rfl) (op_move rfl) ?_
                refine TR.p rfl rfl (by exact wtT rfl rfl) (op_move rfl) ?_
                refine TR.t rfl rfl (by exact wtT rfl rfl) (op_index tsl_int32 rfl rw4 rfl (by omega) (by omega)) (fun _ h => h) ?_
                refine TR.t rfl rfl (by exact wtT rfl rfl) (op_loadR ts_int32 rfl rw4 (lkM (i := i) (d := 0) (by omega) rfl (by omega))) (fun _ h => h) ?_
                refine TR.t rfl rfl (by exact wtT rfl rfl) (op_index tsl_int32 rfl rw3 rfl (by omega) (by omega)) (fun _ h => h) ?_
                refine TR.t rfl rfl (by exact wtT rfl rfl) (op_loadR ts_int32 rfl rw3 (lkM (i := k) (d := 0) (by omega) rfl (by omega))) (fun _ h => h) ?_
                refine TR.p rfl rfl (by exact wtT rfl rfl) (op_eql rfl rfl) ?_
                refine TR.p rfl rfl wt0 (op_pickT rfl rfl) ?_
                refine TR.p rfl rfl wt0 (op_assign rfl) ?_
                refine TR.nil ?_
                exact TQ.join1 ⟨rfl, rfl, rfl, rfl, rfl, rfl, rfl, rfl, gb rfl (by first | exact (decide_eq_true (by omega)).symm | exact (decide_eq_false (by omega)).symm | exact decide_eq_decide.2 (by omega) | exact decide_eq_decide.2 ⟨fun h => ⟨by omega, by omega, h⟩, fun h => h.2.2⟩), trivial⟩ (fun _ h => h)
              · refine TR.off rfl rfl (by exact wtFf rfl rfl) ?_
                refine TR.off rfl rfl (by exact wtFf rfl rfl) ?_
                refine TR.off rfl rfl (by exact wtFf rfl rfl) ?_
                refine TR.off rfl rfl (by exact wtFf rfl rfl) ?_
                refine TR.offT rfl rfl (by exact wtFf rfl rfl) (fun _ h => h) ?_
                refine TR.offT rfl rfl (by exact wtFf rfl rfl) (fun _ h => h) ?_
                refine TR.offT rfl rfl (by exact wtFf rfl rfl) (fun _ h => h) ?_
                refine TR.offT rfl rfl (by exact wtFf rfl rfl) (fun _ h => h) ?_
                refine TR.off rfl rfl (by exact wtFf rfl rfl) ?_
                refine TR.p rfl rfl wt0 (op_pickF rfl rfl) ?_
                refine TR.p rfl rfl wt0 (op_assign rfl) ?_
                refine TR.nil ?_
                exact TQ.join1 ⟨rfl, rfl, rfl, rfl, rfl, rfl, rfl, rfl, gb rfl (by first | exact (decide_eq_true (by omega)).symm | exact (decide_eq_false (by omega)).symm | exact decide_eq_decide.2 (by omega) | exact decide_eq_decide.2 ⟨fun h => ⟨by omega, by omega, h⟩, fun h => h.2.2⟩), trivial⟩ (fun _ h => h)
            · refine TR.off rfl rfl (by exact wtFf rfl rfl) ?_
              refine TR.off rfl rfl (by exact wtFf rfl rfl) ?_
              refine TR.offT rfl rfl (by exact wtFf rfl rfl) (fun _ h => h) ?_
              refine TR.off rfl rfl (by exact wtFf rfl rfl) ?_
              refine TR.p rfl rfl wt0 (op_pickF rfl rfl) ?_
              refine TR.p rfl rfl wt0 (op_move rfl) ?_
              refine TR.off rfl rfl (by exact wtFf rfl rfl) ?_
              refine TR.off rfl rfl (by exact wtFf rfl rfl) ?_
              refine TR.off rfl rfl (by exact wtFf rfl rfl) ?_
              refine TR.off rfl rfl (by exact wtFf rfl rfl) ?_
              refine TR.offT rfl rfl (by exact wtFf rfl rfl) (fun _ h => h) ?_
              refine TR.offT rfl rfl (by exact wtFf rfl rfl) (fun _ h => h) ?_
              refine TR.offT rfl rfl (by exact wtFf rfl rfl) (fun _ h => h) ?_
              refine TR.offT rfl rfl (by exact wtFf rfl rfl) (fun _ h => h) ?_
              refine TR.off rfl rfl (by exact wtFf rfl rfl) ?_
              refine TR.p rfl rfl wt0 (op_pickF rfl rfl) ?_
              refine TR.p rfl rfl wt0 (op_assign rfl) ?_
              refine TR.nil ?_
              exact TQ.join1 ⟨rfl, rfl, rfl, rfl, rfl, rfl, rfl, rfl, gb rfl (by first | exact (decide_eq_true (by omega)).symm | exact (decide_eq_false (by omega)).symm | exact decide_eq_decide.2 (by omega) | exact decide_eq_decide.2 ⟨fun h => ⟨by omega, by omega, h⟩, fun h => h.2.2⟩), trivial⟩ (fun _ h => h)
          · first | refine TC.condD rfl (fun c7 => ?_) (fun c7 => ?_) | refine TC.condB rfl (fun c7 => ?_) (fun c7 => ?_)
            · refine TC.seq ?_
              refine TC.region ?_   -- region 14 ref.go:87
              refine TL.opP rfl (op_move rfl) ?_
              refine TL.opP rfl (op_build (ps := #[(0, _), (1, _)]) rfl (bl_api_Part_01 _ _)) ?_
              refine TL.opX rfl (OpX.buildSlice (ps := #[(0, _)]) rfl (bs_api_Part_1 keep1)) ?_; rintro _ _ ⟨g80, rfl, rfl⟩
              refine TL.hp (fun _ h => blk_row (k := 3) (m := 1) h rfl (by decide)) ?_
              refine TL.hp (fun _ h => h.pick1) ?_
              refine TL.opX rfl (OpX.append (bytes := 32) tsl_api_Part (by decide) (by decide) rfl rw1 (encs_one _) (by omega) (zs := encs (ps ++ [keep1])) (encs_append _ _).symm) ?_; rintro v5 _ rfl
              refine TL.know (fun _ h => row1 h) (fun o5 => ?_)
              refine TL.hp (fun _ h => row_len3 h) ?_
              refine TL.opP rfl (op_assign rfl) ?_
              refine TL.nil ?_
              refine TQ.then ?_
              refine TC.seq ?_
              refine TC.region ?_   -- region 15 ref.go:88
              refine TL.opP rfl (op_move rfl) ?_
              refine TL.opP rfl (op_add rfl rfl rfl (by omega) (by omega)) ?_
              refine TL.opP rfl (op_assign rfl) ?_
              refine TL.nil ?_
              refine TQ.then ?_
              refine TC.region ?_   -- region 16 ref.go:89
              refine TL.opP rfl (op_move rfl) ?_
              refine TL.opP rfl (op_add rfl rfl rfl (by omega) (by omega)) ?_
              refine TL.opP rfl (op_assign rfl) ?_
              refine TL.nil ?_
              refine TQ.block_normal ?_
              refine TQ.block_normal ?_
              refine TQ.then ?_
              refine TC.region ?_   -- region 20 ref.go:83
              refine TL.opP rfl (op_add rfl rfl rfl (by omega) (by omega)) ?_
              refine TL.opP rfl (op_move rfl) ?_
              refine TL.nil ?_
              exact TQ.round (c + 1, i + 1, k + 1, ps ++ [keep1], v5) (⟨hI.keep c7.1 c7.2.1 c7.2.2, by rcases hcc with h | h; exact .inl (by omega); exact absurd h c4⟩) (by dsimp only; omega) ⟨rfl, rfl, rfl, rfl, rfl, rfl, rfl, rfl, trivial⟩ (fun _ h => h.drop1)
            · refine TC.join1 [(7, w2), (8, w3), (9, w4), (10, pv), (11, .int .i64 (i : Int)), (12, .int .i64 (k : Int)), (31, .int .i64 (((dec s).length : Int) + ((dec t).length : Int))), (32, .int .i64 (c : Int)), (86, .bool (decide ((dec t).length ≤ k ∨ (i < (dec s).length ∧ lc (dec s) (dec t) i (k + 1) ≤ lc (dec s) (dec t) (i + 1) k))))] (.row (pv) 36 3 (ps).length (encs (ps)) :: .row w4 97 1 vals.length vals :: col 1 es :: .row w3 21 1 (dec t).length ((dec t).map (Value.int .i32)) :: .row w2 21 1 (dec s).length ((dec s).map (Value.int .i32)) :: L) ?_ ?_
              · refine TC.draw [] (.cons (.p, 0) (.cons (.p, 1) (.cons (.t, 2) (.cons (.p, 3) (.cons (.p, 4) (.cons (.p, 5) (.cons (.p, 6) (.cons (.t, 7) (.cons (.p, 8) (.cons (.p, 9) (.cons (.p, 10) (.cons (.p, 11) (.cons (.p, 12) (.cons (.p, 15) (.cons (.p, 18) (.cons (.p, 19) (.cons (.p, 22) (.cons (.p, 23) (.cons (.t, 13) (.cons (.t, 14) (.cons (.t, 16) (.cons (.t, 17) (.cons (.t, 20) (.cons (.t, 21) (.cons (.t, 24) (.cons (.t, 25) (.cons (.p, 26) (.cons (.p, 27) (.cons (.p, 28) (.cons (.p, 29) (.nil))))))))))))))))))))))))))))))) mo (by kernel_rfl) ?_   -- region 17 ref.go:90
                refine TR.p rfl rfl wt0 (op_move rfl) ?_
                refine TR.p rfl rfl wt0 (op_move rfl) ?_
                refine TR.t rfl rfl wt0 (op_lenV rfl un_sl_int32 rfl rw3) (fun _ h => h) ?_
                refine TR.p rfl rfl wt0 (op_eql rfl rfl) ?_
                refine TR.p rfl rfl wt0 (op_move rfl) ?_
                first | refine TR.splitD (fun c8 => ?_) (fun c8 => ?_) | refine TR.splitB (fun c8 => ?_) (fun c8 => ?_)
                · refine TR.off rfl rfl (by exact wtFt rfl rfl) ?_
                  refine TR.off rfl rfl (by exact wtFt rfl rfl) ?_
                  refine TR.offT rfl rfl (by exact wtFt rfl rfl) (fun _ h => h) ?_
                  refine TR.off rfl rfl (by exact wtFt rfl rfl) ?_
                  refine TR.off rfl rfl (by exact wtFt rfl rfl) ?_
                  refine TR.off rfl rfl (by exact wtU rfl rfl) ?_
                  refine TR.off rfl rfl (by exact wtU rfl rfl) ?_
                  refine TR.off rfl rfl (by exact wtU rfl rfl) ?_
                  refine TR.off rfl rfl (by exact wtU rfl rfl) ?_
                  refine TR.off rfl rfl (by exact wtU rfl rfl) ?_
                  refine TR.off rfl rfl (by exact wtU rfl rfl) ?_
                  refine TR.off rfl rfl (by exact wtU rfl rfl) ?_
                  refine TR.off rfl rfl (by exact wtU rfl rfl) ?_
                  refine TR.offT rfl rfl (by exact wtU rfl rfl) (fun _ h => h) ?_
                  refine TR.offT rfl rfl (by exact wtU rfl rfl) (fun _ h => h) ?_
                  refine TR.offT rfl rfl (by exact wtU rfl rfl) (fun _ h => h) ?_
                  refine TR.offT rfl rfl (by exact wtU rfl rfl) (fun _ h => h) ?_
                  refine TR.offT rfl rfl (by exact wtU rfl rfl) (fun _ h => h) ?_
                  refine TR.offT rfl rfl (by exact wtU rfl rfl) (fun _ h => h) ?_
                  refine TR.offT rfl rfl (by exact wtU rfl rfl) (fun _ h => h) ?_
                  refine TR.offT rfl rfl (by exact wtU rfl rfl) (fun _ h => h) ?_
                  refine TR.off rfl rfl (by exact wtU rfl rfl) ?_
                  refine TR.off rfl rfl (by exact wtFt rfl rfl) ?_
                  refine TR.p rfl rfl wt0 (op_pickT rfl rfl) ?_
                  refine TR.p rfl rfl wt0 (op_assign rfl) ?_
                  refine TR.nil ?_
                  exact TQ.join1 ⟨rfl, rfl, rfl, rfl, rfl, rfl, rfl, rfl, gb rfl (by first | exact (decide_eq_true (by omega)).symm | exact (decide_eq_false (by omega)).symm | exact decide_eq_decide.2 (by omega) | exact decide_eq_decide.2 ⟨fun h => ⟨by omega, by omega, h⟩, fun h => h.2.2⟩), trivial⟩ (fun _ h => h)
                · refine TR.p rfl rfl (by exact wtT rfl rfl) (op_move rfl) ?_
                  refine TR.p rfl rfl (by exact wtT rfl rfl) (op_move rfl) ?_
                  refine TR.t rfl rfl (by exact wtT rfl rfl) (op_lenV rfl un_sl_int32 rfl rw4) (fun _ h => h) ?_
                  refine TR.p rfl rfl (by exact wtT rfl rfl) (op_lss rfl rfl) ?_
                  refine TR.p rfl rfl (by exact wtT rfl rfl) (op_move rfl) ?_
                  first | refine TR.splitD (fun c9 => ?_) (fun c9 => ?_) | refine TR.splitB (fun c9 => ?_) (fun c9 => ?_)
                  · have hb1 := hro.2 (i + 1) (by omega)
                    have hb2 := hro.2 i (by omega)
                    refine TR.p rfl rfl (by exact wtT rfl rfl) (op_move rfl) ?_
                    refine TR.p rfl rfl (by exact wtT rfl rfl) (op_move rfl) ?_
                    refine TR.p rfl rfl (by exact wtT rfl rfl) (op_add rfl rfl rfl (by omega) (by omega)) ?_
                    refine TR.p rfl rfl (by exact wtT rfl rfl) (op_move rfl) ?_
                    refine TR.p rfl rfl (by exact wtT rfl rfl) (op_move rfl) ?_
                    refine TR.p rfl rfl (by exact wtT rfl rfl) (op_move rfl) ?_
                    refine TR.p rfl rfl (by exact wtT rfl rfl) (op_move rfl) ?_
                    refine TR.p rfl rfl (by exact wtT rfl rfl) (op_add rfl rfl rfl (by omega) (by omega)) ?_
                    refine TR.t rfl rfl (by exact wtT rfl rfl) (op_index tsl_sl_int rfl rw1 rfl (by omega) (by omega)) (fun _ h => h) ?_
                    refine TR.t rfl rfl (by exact wtT rfl rfl) (op_loadR ts_sl_int rfl rw1 (lkVal (i := i + 1) (d := .nilFunc) (by omega) (by omega))) (fun _ h => h) ?_
                    refine TR.t rfl rfl (by exact wtT rfl rfl) (op_index tsl_int rfl (Rdb.col m2 hb1) rfl (by first | omega | (simp only [lrow_len]; omega)) (by first | omega | (simp only [lrow_len]; omega))) (fun _ h => h) ?_
                    refine TR.t rfl rfl (by exact wtT rfl rfl) (op_loadR ts_int rfl (Rdb.col m2 hb1) (lkM (i := k) (d := 0) (by rw [lrow_len]; omega) (lrow_get (by omega)) (by omega))) (fun _ h => h) ?_
                    refine TR.t rfl rfl (by exact wtT rfl rfl) (op_index tsl_sl_int rfl rw1 rfl (by omega) (by omega)) (fun _ h => h) ?_
                    refine TR.t rfl rfl (by exact wtT rfl rfl) (op_loadR ts_sl_int rfl rw1 (lkVal (i := i) (d := .nilFunc) (by omega) (by omega))) (fun _ h => h) ?_
                    refine TR.t rfl rfl (by exact wtT rfl rfl) (op_index tsl_int rfl (Rdb.col m2 hb2) rfl (by first | omega | (simp only [lrow_len]; omega)) (by first | omega | (simp only [lrow_len]; omega))) (fun _ h => h) ?_
                    refine TR.t rfl rfl (by exact wtT rfl rfl) (op_loadR ts_int rfl (Rdb.col m2 hb2) (lkM (i := k + 1) (d := 0) (by rw [lrow_len]; omega) (lrow_get (by omega)) (by omega))) (fun _ h => h) ?_
                    refine TR.p rfl rfl (by exact wtT rfl rfl) (op_geq rfl rfl) ?_
                    refine TR.p rfl rfl (by exact wtT rfl rfl) (op_pickT rfl rfl) ?_
                    refine TR.p rfl rfl wt0 (op_pickF rfl rfl) ?_
                    refine TR.p rfl rfl wt0 (op_assign rfl) ?_
                    refine TR.nil ?_
                    exact TQ.join1 ⟨rfl, rfl, rfl, rfl, rfl, rfl, rfl, rfl, gb rfl (by first | exact (decide_eq_true (by omega)).symm | exact (decide_eq_false (by omega)).symm | exact decide_eq_decide.2 (by omega) | exact decide_eq_decide.2 ⟨fun h => ⟨by omega, by omega, h⟩, fun h => h.2.2⟩), trivial⟩ (fun _ h => h)
                  · refine TR.off rfl rfl (by exact wtFf rfl rfl) ?_
                    refine TR.off rfl rfl (by exact wtFf rfl rfl) ?_
                    refine TR.off rfl rfl (by exact wtFf rfl rfl) ?_
                    refine TR.off rfl rfl (by exact wtFf rfl rfl) ?_
                    refine TR.off rfl rfl (by exact wtFf rfl rfl) ?_
                    refine TR.off rfl rfl (by exact wtFf rfl rfl) ?_
                    refine TR.off rfl rfl (by exact wtFf rfl rfl) ?_
                    refine TR.off rfl rfl (by exact wtFf rfl rfl) ?_
                    refine TR.offT rfl rfl (by exact wtFf rfl rfl) (fun _ h => h) ?_
                    refine TR.offT rfl rfl (by exact wtFf rfl rfl) (fun _ h => h) ?_
                    refine TR.offT rfl rfl (by exact wtFf rfl rfl) (fun _ h => h) ?_
                    refine TR.offT rfl rfl (by exact wtFf rfl rfl) (fun _ h => h) ?_
                    refine TR.offT rfl rfl (by exact wtFf rfl rfl) (fun _ h => h) ?_
                    refine TR.offT rfl rfl (by exact wtFf rfl rfl) (fun _ h => h) ?_
                    refine TR.offT rfl rfl (by exact wtFf rfl rfl) (fun _ h => h) ?_
                    refine TR.offT rfl rfl (by exact wtFf rfl rfl) (fun _ h => h) ?_
                    refine TR.off rfl rfl (by exact wtFf rfl rfl) ?_
                    refine TR.p rfl rfl (by exact wtT rfl rfl) (op_pickF rfl rfl) ?_
                    refine TR.p rfl rfl wt0 (op_pickF rfl rfl) ?_
                    refine TR.p rfl rfl wt0 (op_assign rfl) ?_
                    refine TR.nil ?_
                    exact TQ.join1 ⟨rfl, rfl, rfl, rfl, rfl, rfl, rfl, rfl, gb rfl (by first | exact (decide_eq_true (by omega)).symm | exact (decide_eq_false (by omega)).symm | exact decide_eq_decide.2 (by omega) | exact decide_eq_decide.2 ⟨fun h => ⟨by omega, by omega, h⟩, fun h => h.2.2⟩), trivial⟩ (fun _ h => h)
              · first | refine TC.condD rfl (fun c10 => ?_) (fun c10 => ?_) | refine TC.condB rfl (fun c10 => ?_) (fun c10 => ?_)
                · refine TC.seq ?_
                  refine TC.region ?_   -- region 18 ref.go:91
                  refine TL.opP rfl (op_move rfl) ?_
                  refine TL.opP rfl (op_build (ps := #[(0, _), (1, _)]) rfl (bl_api_Part_01 _ _)) ?_
                  refine TL.opX rfl (OpX.buildSlice (ps := #[(0, _)]) rfl (bs_api_Part_1 drop1)) ?_; rintro _ _ ⟨g118, rfl, rfl⟩
                  refine TL.hp (fun _ h => blk_row (k := 3) (m := 1) h rfl (by decide)) ?_
                  refine TL.hp (fun _ h => h.pick1) ?_
                  refine TL.opX rfl (OpX.append (bytes := 32) tsl_api_Part (by decide) (by decide) rfl rw1 (encs_one _) (by omega) (zs := encs (ps ++ [drop1])) (encs_append _ _).symm) ?_; rintro v6 _ rfl
                  refine TL.know (fun _ h => row1 h) (fun o6 => ?_)
                  refine TL.hp (fun _ h => row_len3 h) ?_
                  refine TL.opP rfl (op_assign rfl) ?_
                  refine TL.nil ?_
                  refine TQ.then ?_
                  refine TC.region ?_   -- region 19 ref.go:92
                  refine TL.opP rfl (op_move rfl) ?_
                  refine TL.opP rfl (op_add rfl rfl rfl (by omega) (by omega)) ?_
                  refine TL.opP rfl (op_assign rfl) ?_
                  refine TL.nil ?_
                  refine TQ.block_normal ?_
                  refine TQ.block_normal ?_
                  refine TQ.then ?_
                  refine TC.region ?_   -- region 20 ref.go:83
                  refine TL.opP rfl (op_add rfl rfl rfl (by omega) (by omega)) ?_
                  refine TL.opP rfl (op_move rfl) ?_
                  refine TL.nil ?_
                  exact TQ.round (c + 1, i + 1, k, ps ++ [drop1], v6) (⟨hI.drop (by omega) (by rcases c10 with h | h; exact .inl h; exact .inr ⟨fun w => c7 ⟨h.1, w.1, w.2⟩, h.2⟩), by rcases hcc with h | h; exact .inl (by omega); exact absurd h c4⟩) (by dsimp only; omega) ⟨rfl, rfl, rfl, rfl, rfl, rfl, rfl, rfl, trivial⟩ (fun _ h => h.drop1)
                · refine TC.seq ?_
                  refine TC.region ?_   -- region 10 ref.go:94
                  refine TL.opP rfl (op_move rfl) ?_
                  refine TL.opP rfl (op_move rfl) ?_
                  refine TL.opP rfl (op_move rfl) ?_
                  refine TL.opV rfl (op_index tsl_int32 rfl rw3 rfl (by omega) (by omega)) ?_
                  refine TL.opV rfl (op_loadR ts_int32 rfl rw3 (lkM (i := k) (d := 0) (by omega) rfl (by omega))) ?_
                  refine TL.opP rfl (op_unrune1 rfl un_string rfl) ?_
                  refine TL.opP rfl (op_build (ps := #[(0, _), (1, _), (2, _)]) rfl (bl_api_Part_012 _ _ _)) ?_
                  refine TL.opX rfl (OpX.buildSlice (ps := #[(0, _)]) rfl (bs_api_Part_1 (put1 ((dec t).getD k 0)))) ?_; rintro _ _ ⟨g41, rfl, rfl⟩
                  refine TL.hp (fun _ h => blk_row (k := 3) (m := 1) h rfl (by decide)) ?_
                  refine TL.hp (fun _ h => h.pick1) ?_
                  refine TL.opX rfl (OpX.append (bytes := 32) tsl_api_Part (by decide) (by decide) rfl rw1 (encs_one _) (by omega) (zs := encs (ps ++ [put1 ((dec t).getD k 0)])) (encs_append _ _).symm) ?_; rintro v7 _ rfl
                  refine TL.know (fun _ h => row1 h) (fun o7 => ?_)
                  refine TL.hp (fun _ h => row_len3 h) ?_
                  refine TL.opP rfl (op_assign rfl) ?_
                  refine TL.nil ?_
                  refine TQ.then ?_
                  refine TC.region ?_   -- region 11 ref.go:95
                  refine TL.opP rfl (op_move rfl) ?_
                  refine TL.opP rfl (op_add rfl rfl rfl (by omega) (by omega)) ?_
                  refine TL.opP rfl (op_assign rfl) ?_
                  refine TL.nil ?_
                  refine TQ.block_normal ?_
                  refine TQ.block_normal ?_
                  refine TQ.then ?_
                  refine TC.region ?_   -- region 20 ref.go:83
                  refine TL.opP rfl (op_add rfl rfl rfl (by omega) (by omega)) ?_
                  refine TL.opP rfl (op_move rfl) ?_
                  refine TL.nil ?_
                  exact TQ.round (c + 1, i, k + 1, ps ++ [put1 ((dec t).getD k 0)], v7) (⟨hI.put (by omega) (by rcases Nat.lt_or_ge i (dec s).length with h | h; exact .inr ⟨fun w => c7 ⟨h, by omega, w⟩, fun w => c10 (.inr ⟨h, w⟩)⟩; exact .inl h), by rcases hcc with h | h; exact .inl (by omega); exact absurd h c4⟩) (by dsimp only; omega) ⟨rfl, rfl, rfl, rfl, rfl, rfl, rfl, rfl, trivial⟩ (fun _ h => h.drop1)
    · have hps := hI.stop (by omega) (by omega)
      have hres : normRef ps = diffF s t := by rw [hps, ← norm_same]; exact (if_pos hz).symm
      refine TC.exit ?_
      refine TQ.then_exit ?_
      refine TQ.loop_exit ?_
      refine TQ.block_hit ?_
      refine TQ.then ?_
      refine TC.seq ?_
      refine TC.region ?_   -- region 21 ref.go:98
      refine TL.opP rfl (op_move rfl) ?_
      refine TL.opX rfl (OpX.callX en_63 rfl (rnorm_x ps _ (small_of (hI.fits hbs0)) (by omega) rw0)) ?_; rintro w8 _ ⟨_, rfl, rfl⟩
      refine TL.opP rfl (op_assign rfl) ?_
      refine TL.opP rfl (op_assign rfl) ?_
      refine TL.nil ?_
      refine TQ.then ?_
      refine TC.ret ?_
      refine ret2 rfl rfl rfl (fun w' hp => ?_)
      first
        | exact ⟨_, _, rfl, ⟨.slice none 0 0, rfl, by rw [diffF_nz c1]; rfl⟩, new_nil _ 3 (hp.drop5.drop4.drop3.drop2.drop1)⟩
        | exact ⟨_, _, rfl, ⟨_, by rw [show diffE s t = 0 from hz], by rw [hres]⟩, (hp.drop5.drop4.drop3.drop2.drop1)⟩

end Go.SK
