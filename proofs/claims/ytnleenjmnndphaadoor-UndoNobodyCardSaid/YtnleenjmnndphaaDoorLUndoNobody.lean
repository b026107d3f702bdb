/- The law UndoNobody answers true. -/
import Derived.Test.YtnleenjmnndphaaDoorE42
set_option linter.unusedVariables false
set_option linter.unusedSimpArgs false
set_option maxRecDepth 100000
namespace Go.SK
open Go Go.RowKit Go.Proofs
variable {S : Nat → Prop} {w0 : World} {F L : List Res}
theorem undoNobody_law (s : ByteArray) (e : List Part) (v : Value) (n : Int) {w : World} (hss : s.size ≤ 140737488351232) (he : EditIn w v e) (hT : Tabs w) :
    Calls Tryd.prog 16 (List.toArray [.string s, v, .int .i64 n]) w fun e' w' => e' = .returned (.bool true) ∧ Kp NoB w w' := by
  have he1 := he.rd.one
  have hes := he.small
  have hel := he.len
  refine calls_start Tryd.func16 rfl rfl rfl (Hp.i2 (r := tabs) (s := .rd v 3 e.length (encs e)) hT he.rd) ?_
  refine TC.seq ?_
  refine TC.region ?_   -- region 0 law.go:276
  refine TL.opP rfl (op_assign rfl) ?_
  refine TL.nil ?_
  refine TQ.then ?_
  refine TC.seq ?_
  refine TC.seq ?_
  refine TC.region ?_   -- region 1 law.go:277
  refine TL.opP rfl (op_move rfl) ?_
  refine TL.opP rfl (op_move rfl) ?_
  refine TL.opP rfl (op_build (ps := #[(2, _)]) rfl (bl_sealskinlaw17_Do_2 _)) ?_
  refine TL.opX rfl (OpX.buildSlice (ps := #[(0, _)]) rfl (bs_sealskinlaw17_Do_1 ⟨0, 0, v, e, he1⟩)) ?_; rintro _ _ ⟨g22, rfl, rfl⟩
  refine TL.hp (fun _ h => blk_row (k := 3) (m := 1) h rfl (by decide)) ?_
  refine TL.opX rfl (OpX.callX en_31 rfl (ushort_x s [⟨0, 0, v, e, he1⟩] _ (by omega) rw0 (by intro d hd; rw [List.mem_singleton.1 hd]; exact rd2))) ?_; rintro _ _ ⟨b1, rfl, hb1, rfl⟩
  refine TL.opP rfl (op_not rfl rfl) ?_
  refine TL.nil ?_
  refine TQ.then ?_
  first | refine TC.condD rfl (fun c1 => ?_) (fun c1 => ?_) | refine TC.condB rfl (fun c1 => ?_) (fun c1 => ?_)
  · refine TC.seq ?_
    refine TC.region ?_   -- region 2 law.go:278
    refine TL.callq rfl en_33 rfl (fun w2 hp => uawake_calls w2 (tabs_at hp m1)) ?_
    refine TL.opP rfl (op_assign rfl) ?_
    refine TL.nil ?_
    refine TQ.then ?_
    refine TC.ret ?_
    refine TQ.then_ret ?_
    refine ret1 rfl rfl (fun w' hp => ?_)
    exact ⟨rfl, hp.kp⟩
  · refine TC.skip ?_
    refine TQ.then ?_
    refine TC.seq ?_
    refine TC.seq ?_
    refine TC.region ?_   -- region 3 law.go:280
    refine TL.opP rfl (op_build (ps := #[]) rfl (bl_undo_History_ )) ?_
    refine TL.opX rfl (OpX.box (cs := [.slice none 0 0, .slice none 0 0, .int .i64 0, .bool false]) rfl rfl) ?_; rintro _ _ ⟨g27, rfl, rfl⟩
    refine TL.opX rfl (OpX.buildSlice (ps := #[(0, _), (1, _)]) rfl (bs_p_undo_History_2 _ _)) ?_; rintro _ _ ⟨g28, rfl, rfl⟩
    refine TL.hp (fun _ h => blk_row (k := 1) (m := 2) h rfl (by decide)) ?_
    refine TL.opV rfl (op_lenV rfl un_sl_p_undo_History rfl rw0) ?_
    refine TL.opP rfl (op_move rfl) ?_
    refine TL.nil ?_
    refine TQ.then ?_
    refine TC.block ?_
    refine TC.loop (ι := Nat) (fun i => [(0, .string s), (1, v), (2, .int .i64 n), (28, .slice (some ⟨g28, 0, none⟩) 2 2), (29, .int .i64 2), (30, .int .i64 (i : Int))]) (fun i => [.blk g27 (.cells [.slice none 0 0, .slice none 0 0, .int .i64 0, .bool false].toArray 78 (0, 0)), .row (.slice (some ⟨g28, 0, none⟩) 2 2) 52 1 2 [.pointer none, .pointer (some ⟨g27, 0, none⟩)], tabs, .rd v 3 e.length (encs e)]) (fun i => i ≤ 2) (fun i => 2 - i) (0) (Nat.zero_le _) ⟨rfl, rfl, rfl, rfl, rfl, rfl, trivial⟩ (fun _ h => h.drop2.pick3.pick3.pick2.pick3) ?_
    rintro i hi
    refine TC.seq ?_
    refine TC.region ?_   -- region 4 law.go:280
    refine TL.opP rfl (op_lss rfl rfl) ?_
    refine TL.nil ?_
    refine TQ.then ?_
    refine TC.seq ?_
    first | refine TC.condD rfl (fun c2 => ?_) (fun c2 => ?_) | refine TC.condB rfl (fun c2 => ?_) (fun c2 => ?_)
    · have hi2 : i < 2 := by omega
      obtain ⟨x, hx⟩ : ∃ x, ([.pointer none, .pointer (some ⟨g27, 0, none⟩)] : List Value).getD i .nilFunc = x := ⟨_, rfl⟩
      refine TC.skip ?_
      refine TQ.then ?_
      refine TC.seq ?_
      refine TC.block ?_
      refine TC.seq ?_
      refine TC.region ?_   -- region 5 law.go:280
      refine TL.opV rfl (op_index tsl_p_undo_History rfl rw1 rfl (by omega) (by omega)) ?_
      refine TL.opV rfl (op_loadR ts_p_undo_History rfl rw1 (lkVal' (by omega) hx (by omega))) ?_
      refine TL.opP rfl (op_assign rfl) ?_
      refine TL.nil ?_
      refine TQ.then ?_
      refine TC.seq ?_
      refine TC.region ?_   -- region 6 law.go:281
      refine TL.opP rfl (op_move rfl) ?_
      refine TL.opP rfl (op_move rfl) ?_
      refine TL.opX rfl (OpX.callX en_37 rfl (xundo_x x s (dead_each hi2 hx))) ?_; rintro _ _ ⟨rfl, rfl⟩
      refine TL.opP rfl (op_move rfl) ?_
      refine TL.opP rfl (op_extract rfl rfl) ?_
      refine TL.opP rfl (op_extract rfl rfl) ?_
      refine TL.opP rfl (op_assign rfl) ?_
      refine TL.opP rfl (op_assign rfl) ?_
      refine TL.nil ?_
      refine TQ.then ?_
      refine TC.seq ?_
      refine TC.region ?_   -- region 7 law.go:282
      refine TL.opP rfl (op_move rfl) ?_
      refine TL.opP rfl (op_move rfl) ?_
      refine TL.opX rfl (OpX.callX en_38 rfl (xredo_x x s (dead_each hi2 hx))) ?_; rintro _ _ ⟨rfl, rfl⟩
      refine TL.opP rfl (op_move rfl) ?_
      refine TL.opP rfl (op_extract rfl rfl) ?_
      refine TL.opP rfl (op_extract rfl rfl) ?_
      refine TL.opP rfl (op_assign rfl) ?_
      refine TL.opP rfl (op_assign rfl) ?_
      refine TL.nil ?_
      refine TQ.then ?_
      refine TC.seq ?_
      refine TC.region ?_   -- region 8 law.go:283
      refine TL.opP rfl (op_move rfl) ?_
      refine TL.opX rfl (OpX.callX en_44 rfl (xlen_x x (dead_each hi2 hx))) ?_; rintro _ _ ⟨rfl, rfl⟩
      refine TL.opP rfl (op_move rfl) ?_
      refine TL.opP rfl (op_extract rfl rfl) ?_
      refine TL.opP rfl (op_extract rfl rfl) ?_
      refine TL.opP rfl (op_assign rfl) ?_
      refine TL.opP rfl (op_assign rfl) ?_
      refine TL.nil ?_
      refine TQ.then ?_
      refine TC.seq ?_
      refine TC.region ?_   -- region 9 law.go:284
      refine TL.opP rfl (op_move rfl) ?_
      refine TL.opP rfl (op_neq rfl rfl) ?_
      refine TL.opP rfl (op_move rfl) ?_
      first | refine TL.splitD (fun c3 => ?_) (fun c3 => ?_) | refine TL.splitB (fun c3 => ?_) (fun c3 => ?_)
      · exact absurd (by first | rfl | decide | omega) c3
      · refine TL.gT rfl rfl ?_
        refine TL.opP rfl (op_move rfl) ?_
        refine TL.gT rfl rfl ?_
        refine TL.opP rfl (op_neq rfl rfl) ?_
        refine TL.opP rfl (op_pickF rfl rfl) ?_
        refine TL.opP rfl (op_move rfl) ?_
        first | refine TL.splitD (fun c4 => ?_) (fun c4 => ?_) | refine TL.splitB (fun c4 => ?_) (fun c4 => ?_)
        · exact absurd (by first | rfl | decide | omega) c4
        · refine TL.gT rfl rfl ?_
          refine TL.opP rfl (op_move rfl) ?_
          refine TL.gT rfl rfl ?_
          refine TL.opV rfl (op_lenV rfl un_sl_api_Part rfl (rdb_nil [] 3).cons.cons.cons.cons) ?_
          refine TL.gT rfl rfl ?_
          refine TL.opP rfl (op_move rfl) ?_
          refine TL.gT rfl rfl ?_
          refine TL.opV rfl (op_lenV rfl un_sl_api_Part rfl (rdb_nil [] 3).cons.cons.cons.cons) ?_
          refine TL.gT rfl rfl ?_
          refine TL.opP rfl (op_add rfl rfl rfl (by omega) (by omega)) ?_
          refine TL.gT rfl rfl ?_
          refine TL.opP rfl (op_move rfl) ?_
          refine TL.gT rfl rfl ?_
          refine TL.opP rfl (op_add rfl rfl rfl (by omega) (by omega)) ?_
          refine TL.gT rfl rfl ?_
          refine TL.opP rfl (op_move rfl) ?_
          refine TL.gT rfl rfl ?_
          refine TL.opP rfl (op_add rfl rfl rfl (by omega) (by omega)) ?_
          refine TL.gT rfl rfl ?_
          refine TL.opP rfl (op_move rfl) ?_
          refine TL.gT rfl rfl ?_
          refine TL.opX rfl (OpX.callX en_42 rfl (xsize_x x (dead_each hi2 hx))) ?_; rintro _ _ ⟨rfl, rfl⟩
          refine TL.gT rfl rfl ?_
          refine TL.opP rfl (op_add rfl rfl rfl (by omega) (by omega)) ?_
          refine TL.gT rfl rfl ?_
          refine TL.opP rfl (op_neq rfl rfl) ?_
          refine TL.opP rfl (op_pickF rfl rfl) ?_
          refine TL.opP rfl (op_move rfl) ?_
          first | refine TL.splitD (fun c5 => ?_) (fun c5 => ?_) | refine TL.splitB (fun c5 => ?_) (fun c5 => ?_)
          · exact absurd (by first | rfl | decide | omega) c5
          · refine TL.gT rfl rfl ?_
            refine TL.opP rfl (op_move rfl) ?_
            refine TL.gT rfl rfl ?_
            refine TL.opP rfl (op_move rfl) ?_
            refine TL.gT rfl rfl ?_
            refine TL.opP rfl (op_move rfl) ?_
            refine TL.gT rfl rfl ?_
            refine TL.opX rfl (OpX.callX en_35 rfl (xmine_x x v s (dead_each hi2 hx))) ?_; rintro _ _ ⟨rfl, rfl⟩
            refine TL.gT rfl rfl ?_
            refine TL.opP rfl (op_neq rfl rfl) ?_
            refine TL.opP rfl (op_pickF rfl rfl) ?_
            refine TL.opP rfl (op_move rfl) ?_
            first | refine TL.splitD (fun c6 => ?_) (fun c6 => ?_) | refine TL.splitB (fun c6 => ?_) (fun c6 => ?_)
            · exact absurd (by first | rfl | decide | omega) c6
            · refine TL.gT rfl rfl ?_
              refine TL.opP rfl (op_move rfl) ?_
              refine TL.gT rfl rfl ?_
              refine TL.opP rfl (op_move rfl) ?_
              refine TL.gT rfl rfl ?_
              refine TL.opX rfl (OpX.callX en_36 rfl (xtheirs_x x v (dead_each hi2 hx))) ?_; rintro _ _ ⟨rfl, rfl⟩
              refine TL.gT rfl rfl ?_
              refine TL.opP rfl (op_neq rfl rfl) ?_
              refine TL.opP rfl (op_pickF rfl rfl) ?_
              refine TL.opP rfl (op_move rfl) ?_
              first | refine TL.splitD (fun c7 => ?_) (fun c7 => ?_) | refine TL.splitB (fun c7 => ?_) (fun c7 => ?_)
              · exact absurd (by first | rfl | decide | omega) c7
              · refine TL.gT rfl rfl ?_
                refine TL.opP rfl (op_move rfl) ?_
                refine TL.gT rfl rfl ?_
                refine TL.opP rfl (op_move rfl) ?_
                refine TL.gT rfl rfl ?_
                refine TL.opX rfl (OpX.callX en_50 rfl (xclear_x x n (dead_each hi2 hx))) ?_; rintro _ _ ⟨rfl, rfl⟩
                refine TL.gT rfl rfl ?_
                refine TL.opP rfl (op_neq rfl rfl) ?_
                refine TL.opP rfl (op_pickF rfl rfl) ?_
                refine TL.nil ?_
                refine TQ.then ?_
                first | refine TC.condD rfl (fun c8 => ?_) (fun c8 => ?_) | refine TC.condB rfl (fun c8 => ?_) (fun c8 => ?_)
                · exact absurd (by first | rfl | decide | omega) c8
                · refine TC.skip ?_
                  refine TQ.block_normal ?_
                  refine TQ.then ?_
                  refine TC.region ?_   -- region 11 law.go:280
                  refine TL.opP rfl (op_add rfl rfl rfl (by omega) (by omega)) ?_
                  refine TL.opP rfl (op_move rfl) ?_
                  refine TL.nil ?_
                  exact TQ.round (i + 1) (by show i + 1 ≤ 2; omega) (by show 2 - (i + 1) < 2 - i; omega) ⟨rfl, rfl, rfl, rfl, rfl, rfl, trivial⟩ (fun _ h => h)
    · refine TC.exit ?_
      refine TQ.then_exit ?_
      refine TQ.loop_exit ?_
      refine TQ.block_hit ?_
      refine TQ.then ?_
      refine TC.seq ?_
      refine TC.region ?_   -- region 12 law.go:288
      refine TL.opP rfl (op_move rfl) ?_
      refine TL.opX rfl (OpX.callX en_52 rfl (xnew_x n)) ?_; rintro _ _ ⟨o9, rfl, ho9, rfl⟩
      refine TL.opP rfl (op_move rfl) ?_
      refine TL.opP rfl (op_extract rfl rfl) ?_
      refine TL.opP rfl (op_extract rfl rfl) ?_
      refine TL.opP rfl (op_assign rfl) ?_
      refine TL.opP rfl (op_assign rfl) ?_
      refine TL.nil ?_
      refine TQ.then ?_
      refine TC.seq ?_
      refine TC.region ?_   -- region 13 law.go:289
      refine TL.opP rfl (op_move rfl) ?_
      refine TL.opX rfl (OpX.callX en_51 rfl (xrnew_x n)) ?_; rintro _ _ ⟨o10, rfl, hq10, rfl⟩
      refine TL.opP rfl (op_move rfl) ?_
      refine TL.opP rfl (op_extract rfl rfl) ?_
      refine TL.opP rfl (op_extract rfl rfl) ?_
      refine TL.opP rfl (op_assign rfl) ?_
      refine TL.opP rfl (op_assign rfl) ?_
      refine TL.nil ?_
      refine TQ.then ?_
      refine TC.seq ?_
      refine TC.region ?_   -- region 14 law.go:290
      refine TL.opP rfl (op_move rfl) ?_
      refine TL.opP rfl (op_move rfl) ?_
      refine TL.opP rfl (op_eql rfl rfl) ?_
      refine TL.opP rfl (op_move rfl) ?_
      first | refine TL.splitD (fun c9 => ?_) (fun c9 => ?_) | refine TL.splitB (fun c9 => ?_) (fun c9 => ?_)
      · refine TL.gT rfl rfl ?_
        refine TL.opP rfl (op_move rfl) ?_
        refine TL.gT rfl rfl ?_
        refine TL.opP rfl (op_eqPtr rfl (hist_eqo _)) ?_
        refine TL.gT rfl rfl ?_
        refine TL.opP rfl (op_move rfl) ?_
        refine TL.gT rfl rfl ?_
        refine TL.opP rfl (op_eqPtr rfl (rhist_eqo _)) ?_
        refine TL.gT rfl rfl ?_
        refine TL.opP rfl (op_beql un_bool rfl rfl) ?_
        refine TL.opP rfl (op_pickT rfl rfl) ?_
        refine TL.opP rfl (op_move rfl) ?_
        first | refine TL.splitD (fun c10 => ?_) (fun c10 => ?_) | refine TL.splitB (fun c10 => ?_) (fun c10 => ?_)
        · refine TL.gT rfl rfl ?_
          refine TL.callq rfl en_33 rfl (fun w2 hp => uawake_calls w2 (tabs_at hp m2)) ?_
          refine TL.opP rfl (op_pickT rfl rfl) ?_
          refine TL.opP rfl (op_assign rfl) ?_
          refine TL.nil ?_
          refine TQ.then ?_
          refine TC.ret ?_
          refine ret1 rfl rfl (fun w' hp => ?_)
          exact ⟨rfl, hp.kp⟩
        · exact absurd (by rw [decide_eq_decide, ho9, hq10]) c10
      · exact absurd rfl c9

end Go.SK
