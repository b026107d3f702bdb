/- Walks: layer 11, an index made; where a pattern stands. -/
import Derived.Test.YtpomdenbgdgbhaaDoorE50
set_option linter.unusedVariables false
set_option linter.unusedSimpArgs false
set_option maxRecDepth 100000
namespace Go.SK
open Go Go.RowKit Go.Proofs
variable {S : Nat → Prop} {w0 : World} {F L : List Res}
theorem getI {l : List Int} {i : Nat} {c : Int} (h : l.getD i 0 = c) : l.getD i 0 = c := h
theorem mem_getD' {l : List Int} {i : Nat} (h : i < l.length) : l.getD i 0 ∈ l := by rw [List.getD_eq_getElem?_getD, List.getElem?_eq_getElem h]; exact List.getElem_mem h
theorem begs_map {l : List Int} {i : Nat} (h : i < l.length) (hc : l.getD i 0 = 10) : (begs (l.take i)).map nv ++ [Value.int .i64 ((i : Int) + 1)] = (begs (l.take (i + 1))).map nv := by
  rw [begs_take_succ h hc, if_pos rfl, List.map_append]; rfl
theorem begs_nom {l : List Int} {i : Nat} (h : i < l.length) (hc : ¬ l.getD i 0 = 10) : begs (l.take (i + 1)) = begs (l.take i) := by
  rw [begs_take_succ h rfl, if_neg hc]
theorem lnew_x (s : ByteArray) (hv : valid s = true) (hs : s.size ≤ 1048576) (hT : tabs ∈ L) :
    CallX Tryd.prog 33 [.string s] S w0 (L) (fun u L' => ∃ g tv bv, u = .tuple #[.pointer (some ⟨g, 0, none⟩), .int .i64 0] ∧ L' = .blk g (.cells [tv, bv, .bool true].toArray 58 (0, 0)) :: .rd tv 1 (dec s).length ((dec s).map (Value.int .i32)) :: .rd bv 1 (begs (dec s)).length ((begs (dec s)).map nv) :: L) := by
 intro w hp
 have hdl := dec_len s
 refine calls_start Tryd.func33 rfl rfl rfl (hp) ?_
 refine TC.seq (TC.region (TL.opP rfl (op_assign rfl) (TL.opP rfl (op_assign rfl) (TL.nil (TQ.then (TC.seq (TC.seq (TC.region (TL.opP rfl (op_move rfl) (TL.callq rfl en_18 rfl (fun w2 hp => valid_calls s w2 (tabs_at hp hT) (by omega)) (TL.opP rfl (op_not rfl rfl) (TL.nil (TQ.then ?_)))))))))))))
 first | refine TC.condD rfl (fun c1 => ?_) (fun c1 => ?_) | refine TC.condB rfl (fun c1 => ?_) (fun c1 => ?_)
 ·exact absurd c1 (by rw [hv]; decide)
 ·refine TC.skip (TQ.then (TC.seq (TC.region (TL.opP rfl (op_move rfl) ?_))))
  refine TL.opX rfl (OpX.runes un_string tsl_int32 un_int32 rfl (by omega)) ?_; rintro v1 _ rfl
  refine TL.know (fun _ h => row1 h) (fun o1 => (TL.hp (fun _ h => row_rd h) ?_))
  refine TL.opX rfl (OpX.buildSlice (ps := #[(0, _)]) rfl (bs_int_1 _)) ?_; rintro _ _ ⟨g12, rfl, rfl⟩
  refine TL.hp (fun _ h => blk_row (k := 1) (m := 1) h rfl (by decide)) (TL.opP rfl (op_build (ps := #[(0, _), (1, _), (2, _)]) rfl (bl_lines_Index_012 _ _ _)) ?_)
  refine TL.opX rfl (OpX.box (cs := [v1, .slice (some ⟨g12, 0, none⟩) 1 1, .bool true]) rfl rfl) ?_; rintro _ _ ⟨g14, rfl, rfl⟩
  refine TL.opP rfl (op_assign rfl) (TL.nil (TQ.then (TC.seq (TC.seq (TC.region (TL.opP rfl (op_move rfl) (TL.opP rfl (op_nilCheck rfl) (TL.opP rfl (op_field fld_lines_Index_text rfl) (TL.opV rfl (op_load ts_sl_int32 rfl m0 rfl) (TL.opV rfl (op_lenV rfl un_sl_int32 rfl rd2) (TL.opP rfl (op_move rfl) (TL.nil (TQ.then (TC.block (TC.loop (ι := Nat × Value) (fun (i, bv) => [(4, .pointer (some ⟨g14, 0, none⟩)), (18, v1), (19, .int .i64 ((dec s).length : Int)), (20, .int .i64 (i : Int))]) (fun (i, bv) => .blk g14 (.cells [v1, bv, .bool true].toArray 58 (0, 0)) :: .rd v1 1 (dec s).length ((dec s).map (Value.int .i32)) :: .row bv 3 1 (begs ((dec s).take i)).length ((begs ((dec s).take i)).map nv) :: L) (fun (i, bv) => i ≤ (dec s).length ∧ bv.oneCell' = true) (fun (i, bv) => (dec s).length - i) ((0, .slice (some ⟨g12, 0, none⟩) 1 1)) (⟨Nat.zero_le _, rfl⟩) ⟨rfl, rfl, rfl, rfl, trivial⟩ (fun _ h => h.pick1.pick2.pick2) ?_)))))))))))))))
  rintro ⟨i, bv⟩ ⟨hi, hb1⟩
  have hbl := begs_len ((dec s).take i)
  rw [List.length_take] at hbl
  show TC _ _ _ _ [(4, .pointer (some ⟨g14, 0, none⟩)), (18, v1), (19, .int .i64 ((dec s).length : Int)), (20, .int .i64 (i : Int))] _ _ (.blk g14 (.cells [v1, bv, .bool true].toArray 58 (0, 0)) :: .rd v1 1 (dec s).length ((dec s).map (Value.int .i32)) :: .row bv 3 1 (begs ((dec s).take i)).length ((begs ((dec s).take i)).map nv) :: L)
  refine TC.seq (TC.region (TL.opP rfl (op_lss rfl rfl) (TL.nil (TQ.then (TC.seq ?_)))))
  first | refine TC.condD rfl (fun c2 => ?_) (fun c2 => ?_) | refine TC.condB rfl (fun c2 => ?_) (fun c2 => ?_)
  ·refine TC.skip (TQ.then (TC.seq (TC.block (TC.seq (TC.region (TL.opP rfl (op_move rfl) (TL.opV rfl (op_index tsl_int32 rfl rd1 rfl (by omega) (by omega)) (TL.opV rfl (op_loadR ts_int32 rfl rd1 (lkM (i := i) (d := 0) (by omega) rfl (by omega))) (TL.opP rfl (op_assign rfl) (TL.opP rfl (op_assign rfl) (TL.nil (TQ.then (TC.seq (TC.region (TL.opP rfl (op_move rfl) (TL.opP rfl (op_eql rfl rfl) (TL.nil (TQ.then ?_))))))))))))))))))
   first | refine TC.condD rfl (fun c3 => ?_) (fun c3 => ?_) | refine TC.condB rfl (fun c3 => ?_) (fun c3 => ?_)
   ·refine TC.region (TL.opP rfl (op_move rfl) (TL.opP rfl (op_move rfl) (TL.opP rfl (op_nilCheck rfl) (TL.opP rfl (op_field fld_lines_Index_begin rfl) (TL.opV rfl (op_load ts_sl_int rfl m0 rfl) (TL.opP rfl (op_move rfl) (TL.opP rfl (op_add rfl rfl rfl (by omega) (by omega)) ?_)))))))
    refine TL.opX rfl (OpX.buildSlice (ps := #[(0, _)]) rfl (bs_int_1 _)) ?_; rintro _ _ ⟨g34, rfl, rfl⟩
    refine TL.hp (fun _ h => blk_row (k := 1) (m := 1) h rfl (by decide)) (TL.hp (fun _ h => h.pick3) ?_)
    refine TL.opX rfl (OpX.append (bytes := 8) tsl_int (by decide) (by decide) rfl rw1 (fun u hu => by rw [List.mem_singleton.1 hu]; rfl) (by omega) (zs := (begs ((dec s).take (i + 1))).map nv) (begs_map (by omega) c3)) ?_; rintro v2 _ rfl
    refine TL.know (fun _ h => row1 h) (fun o2 => (TL.hp (fun _ h => row_lenM h) (TL.opP rfl (op_nilCheck rfl) (TL.opP rfl (op_field fld_lines_Index_begin rfl) (TL.hp (fun _ h => h.pick2) ?_)))))
    refine TL.opX0 (OpX.store1 ts_sl_int rfl rfl (by first | rfl | assumption) rfl rfl) ?_; rintro _ _ rfl
    refine TL.nil (TQ.block_normal (TQ.then (TC.region (TL.opP rfl (op_add rfl rfl rfl (by omega) (by omega)) (TL.opP rfl (op_move rfl) (TL.nil ?_))))))
    exact TQ.round (i + 1, v2) (⟨by omega, by assumption⟩) (by show _ - (i + 1) < _ - i; omega) ⟨rfl, rfl, rfl, rfl, trivial⟩ (fun _ h => by dsimp only; first | exact h.drop2.pick1.pick2.pick2 | (rw [begs_nom (by omega) c3]; exact h.drop2.pick1.pick2.pick2))
   ·refine TC.skip (TQ.block_normal (TQ.then (TC.region (TL.opP rfl (op_add rfl rfl rfl (by omega) (by omega)) (TL.opP rfl (op_move rfl) (TL.nil ?_))))))
    exact TQ.round (i + 1, bv) (⟨by omega, by assumption⟩) (by show _ - (i + 1) < _ - i; omega) ⟨rfl, rfl, rfl, rfl, trivial⟩ (fun _ h => by dsimp only; first | exact h | (rw [begs_nom (by omega) c3]; exact h))
  ·refine TC.exit (TQ.then_exit (TQ.loop_exit (TQ.block_hit (TQ.then (TC.seq (TC.region (TL.opP rfl (op_move rfl) (TL.opP rfl (op_assign rfl) (TL.opP rfl (op_assign rfl) (TL.nil (TQ.then (TC.ret ?_))))))))))))
   refine ret2 rfl rfl rfl (fun w' hp => ?_)
   exact ⟨_, _, rfl, ⟨_, _, _, rfl, rfl⟩, by have hq := (hp); rw [List.take_of_length_le (by omega)] at hq; have h2 := hq.pick2; exact (row_rd h2).pick2.pick2⟩

theorem lnewb_x (s : ByteArray) (hv : valid s = false) (hs : s.size ≤ 70368744177664) (hT : tabs ∈ L) :
    CallX Tryd.prog 33 [.string s] S w0 (L) (fun u L' => u = .tuple #[.pointer none, .int .i64 21] ∧ L' = L) := by
 intro w hp
 refine calls_start Tryd.func33 rfl rfl rfl (hp) ?_
 refine TC.seq (TC.region (TL.opP rfl (op_assign rfl) (TL.opP rfl (op_assign rfl) (TL.nil (TQ.then (TC.seq (TC.seq (TC.region (TL.opP rfl (op_move rfl) (TL.callq rfl en_18 rfl (fun w2 hp => valid_calls s w2 (tabs_at hp hT) (by omega)) (TL.opP rfl (op_not rfl rfl) (TL.nil (TQ.then ?_)))))))))))))
 first | refine TC.condD rfl (fun c1 => ?_) (fun c1 => ?_) | refine TC.condB rfl (fun c1 => ?_) (fun c1 => ?_)
 ·refine TC.seq (TC.region (TL.opP rfl (op_assign rfl) (TL.opP rfl (op_assign rfl) (TL.nil (TQ.then (TC.ret (TQ.then_ret ?_)))))))
  refine ret2 rfl rfl rfl (fun w' hp => ?_)
  exact ⟨_, _, rfl, ⟨rfl, rfl⟩, (hp)⟩
 ·exact absurd c1 (by rw [hv]; decide)

theorem made_nv (n : Nat) : (madeCells (Value.int .i64 0).cells (n * 1)).toList = (List.replicate n 0).map nv := by
  rw [Nat.mul_one, List.map_replicate]
  exact toList_madeCells_one _ n
theorem lborders_x (p : List Int) (pv : Value) (hne : p ≠ []) (hl : p.length ≤ 1048576) (hpv : Rdb L pv 1 p.length (p.map (Value.int .i32))) :
    CallX Tryd.prog 97 [pv] S w0 (L) (fun u L' => ∃ v' b, u = v' ∧ Tab p b p.length ∧ b.length = p.length + 1 ∧ L' = .row v' 3 1 b.length (b.map nv) :: L) := by
 intro w hp
 have h0 : 0 < p.length := List.length_pos_iff.2 hne
 refine calls_start Tryd.func97 rfl rfl rfl (hp) ?_
 refine TC.seq (TC.region (TL.opP rfl (op_assign rfl) (TL.nil (TQ.then (TC.seq (TC.region (TL.opP rfl (op_move rfl) (TL.opV rfl (op_lenV rfl un_sl_int32 rfl hpv) (TL.opP rfl (op_add rfl rfl rfl (by omega) (by omega)) ?_)))))))))
 refine TL.opX rfl (OpX.make (m := (p.length + 1)) (zs := ((List.replicate (p.length + 1) 0).map nv)) tsl_int rfl rfl (by omega) (by decide) (by omega) (made_nv _)) ?_; rintro v1 _ rfl
 refine TL.know (fun _ h => row1 h) (fun o1 => (TL.hp (fun _ h => row_lenM h) (TL.opP rfl (op_assign rfl) (TL.nil (TQ.then (TC.seq (TC.region (TL.opP rfl (op_assign rfl) (TL.nil (TQ.then (TC.seq (TC.seq (TC.region (TL.opP rfl (op_assign rfl) (TL.nil (TQ.then (TC.block (TC.loop (ι := Nat × Nat × List Nat) (fun (i, k, b) => [(0, pv), (3, v1), (4, .int .i64 (k : Int)), (5, .int .i64 (i : Int))]) (fun (i, k, b) => .row v1 3 1 (b).length ((b).map nv) :: L) (fun (i, k, b) => BT p i k b) (fun (i, k, b) => p.length - i) ((1, 0, List.replicate (p.length + 1) 0)) ((BT.start hne)) ⟨rfl, rfl, rfl, rfl, trivial⟩ (fun _ h => h) ?_))))))))))))))))))
 rintro ⟨i, k, b⟩ (hB : BT p i k b)
 have hbl := hB.len
 have hi1 := hB.i1
 have him := hB.im
 show TC _ _ _ _ [(0, pv), (3, v1), (4, .int .i64 (k : Int)), (5, .int .i64 (i : Int))] _ _ (.row v1 3 1 (b).length ((b).map nv) :: L)
 refine TC.seq (TC.seq (TC.region (TL.opP rfl (op_move rfl) (TL.opP rfl (op_move rfl) (TL.opV rfl (op_lenV rfl un_sl_int32 rfl hpv.cons) (TL.opP rfl (op_lss rfl rfl) (TL.nil (TQ.then ?_))))))))
 first | refine TC.condD rfl (fun c1 => ?_) (fun c1 => ?_) | refine TC.condB rfl (fun c1 => ?_) (fun c1 => ?_)
 ·refine TC.skip (TQ.then (TC.seq (TC.block ?_)))
  refine TC.join (ι := Nat) (fun k' => [(0, pv), (3, v1), (4, .int .i64 (k' : Int)), (5, .int .i64 (i : Int))]) (fun k' => .row v1 3 1 (b).length ((b).map nv) :: L) (fun k' => Wh p ((p.take i).drop 1) (p.getD i 0) k' ∧ k' < i ∧ (k' = 0 ∨ p.getD i 0 = p.getD k' 0)) ?_ ?_
  ·refine TC.block (TC.loop (ι := Nat) (fun k' => [(0, pv), (3, v1), (4, .int .i64 (k' : Int)), (5, .int .i64 (i : Int))]) (fun k' => .row v1 3 1 (b).length ((b).map nv) :: L) (fun k' => Wh p ((p.take i).drop 1) (p.getD i 0) k' ∧ k' < i) (fun k' => k') (k) (⟨hB.sta.wh, hB.small⟩) ⟨rfl, rfl, rfl, rfl, trivial⟩ (fun _ h => h) ?_)
   rintro k' ⟨hw, hki⟩
   refine TC.seq (TC.seq (TC.draw [] (.cons (.p, 0) (.cons (.p, 1) (.cons (.p, 2) (.cons (.p, 3) (.cons (.p, 4) (.cons (.p, 7) (.cons (.p, 8) (.cons (.t, 5) (.cons (.t, 6) (.cons (.t, 9) (.cons (.t, 10) (.cons (.p, 11) (.cons (.p, 12) (.nil)))))))))))))) mo (by kernel_rfl) (TR.p rfl rfl wt0 (op_move rfl) (TR.p rfl rfl wt0 (op_gtr rfl rfl) (TR.p rfl rfl wt0 (op_move rfl) ?_)))))
   first | refine TR.splitD (fun c2 => ?_) (fun c2 => ?_) | refine TR.splitB (fun c2 => ?_) (fun c2 => ?_)
   ·refine TR.p rfl rfl (by exact wtT rfl rfl) (op_move rfl) (TR.p rfl rfl (by exact wtT rfl rfl) (op_move rfl) (TR.p rfl rfl (by exact wtT rfl rfl) (op_move rfl) (TR.p rfl rfl (by exact wtT rfl rfl) (op_move rfl) (TR.t rfl rfl (by exact wtT rfl rfl) (op_index tsl_int32 rfl hpv.cons rfl (by omega) (by omega)) (fun _ h => h) (TR.t rfl rfl (by exact wtT rfl rfl) (op_loadR ts_int32 rfl hpv.cons (lkM (i := i) (d := 0) (by omega) rfl (by omega))) (fun _ h => h) (TR.t rfl rfl (by exact wtT rfl rfl) (op_index tsl_int32 rfl hpv.cons rfl (by omega) (by omega)) (fun _ h => h) (TR.t rfl rfl (by exact wtT rfl rfl) (op_loadR ts_int32 rfl hpv.cons (lkM (i := k') (d := 0) (by omega) rfl (by omega))) (fun _ h => h) (TR.p rfl rfl (by exact wtT rfl rfl) (op_neq rfl rfl) ?_))))))))
    refine TR.p rfl rfl wt0 (op_pickT rfl rfl) (TR.nil (TQ.then ?_))
    first | refine TC.condD rfl (fun c3 => ?_) (fun c3 => ?_) | refine TC.condB rfl (fun c3 => ?_) (fun c3 => ?_)
    ·have hbk := hw.back hB.tab (by omega) (by omega) (.inr (fun e => c3 e.symm))
     refine TC.skip (TQ.then (TC.block (TC.region (TL.opP rfl (op_move rfl) (TL.opP rfl (op_move rfl) (TL.opV rfl (op_index tsl_int rfl rw0 rfl (by omega) (by omega)) (TL.opV rfl (op_loadR ts_int rfl rw0 (lkM (f := nv) (i := k') (d := 0) (by omega) rfl (by omega))) (TL.opP rfl (op_assign rfl) (TL.nil (TQ.block_normal ?_))))))))))
     exact TQ.round (b.getD k' 0) (⟨hbk.1, by omega⟩) (hbk.2) ⟨rfl, rfl, rfl, rfl, trivial⟩ (fun _ h => h)
    ·refine TC.exit (TQ.then_exit (TQ.loop_exit (TQ.block_hit ?_)))
     exact TQ.join (k') (⟨hw, hki, by first | exact .inl (by omega) | exact .inr (by simpa using c3)⟩) ⟨rfl, rfl, rfl, rfl, trivial⟩ (fun _ h => h)
   ·refine TR.off rfl rfl (by exact wtFf rfl rfl) (TR.off rfl rfl (by exact wtFf rfl rfl) (TR.off rfl rfl (by exact wtFf rfl rfl) (TR.off rfl rfl (by exact wtFf rfl rfl) (TR.offT rfl rfl (by exact wtFf rfl rfl) (fun _ h => h) (TR.offT rfl rfl (by exact wtFf rfl rfl) (fun _ h => h) (TR.offT rfl rfl (by exact wtFf rfl rfl) (fun _ h => h) (TR.offT rfl rfl (by exact wtFf rfl rfl) (fun _ h => h) (TR.off rfl rfl (by exact wtFf rfl rfl) (TR.p rfl rfl wt0 (op_pickF rfl rfl) (TR.nil (TQ.then (TC.condF rfl (TC.exit (TQ.then_exit (TQ.loop_exit (TQ.block_hit ?_))))))))))))))))
    exact TQ.join (k') (⟨hw, hki, by first | exact .inl (by omega) | exact .inr (by simpa using c3)⟩) ⟨rfl, rfl, rfl, rfl, trivial⟩ (fun _ h => h)
  ·rintro k' ⟨hw, hki, hor⟩
   refine TC.seq (TC.seq (TC.draw [] (.cons (.p, 0) (.cons (.p, 1) (.cons (.p, 4) (.cons (.p, 5) (.cons (.t, 2) (.cons (.t, 3) (.cons (.t, 6) (.cons (.t, 7) (.cons (.p, 8) (.nil)))))))))) mo (by kernel_rfl) (TR.p rfl rfl wt0 (op_move rfl) (TR.p rfl rfl wt0 (op_move rfl) (TR.p rfl rfl wt0 (op_move rfl) (TR.p rfl rfl wt0 (op_move rfl) (TR.t rfl rfl wt0 (op_index tsl_int32 rfl hpv.cons rfl (by omega) (by omega)) (fun _ h => h) (TR.t rfl rfl wt0 (op_loadR ts_int32 rfl hpv.cons (lkM (i := i) (d := 0) (by omega) rfl (by omega))) (fun _ h => h) (TR.t rfl rfl wt0 (op_index tsl_int32 rfl hpv.cons rfl (by omega) (by omega)) (fun _ h => h) (TR.t rfl rfl wt0 (op_loadR ts_int32 rfl hpv.cons (lkM (i := k') (d := 0) (by omega) rfl (by omega))) (fun _ h => h) ?_))))))))))
   refine TR.p rfl rfl wt0 (op_eql rfl rfl) (TR.nil (TQ.then ?_))
   first | refine TC.condD rfl (fun c4 => ?_) (fun c4 => ?_) | refine TC.condB rfl (fun c4 => ?_) (fun c4 => ?_)
   ·refine TC.region (TL.opP rfl (op_move rfl) (TL.opP rfl (op_add (r := ((k' + 1 : Nat) : Int)) rfl rfl (by omega) (by omega) (by omega)) (TL.opP rfl (op_assign rfl) (TL.nil (TQ.then (TC.region (TL.opP rfl (op_move rfl) (TL.opP rfl (op_move rfl) (TL.opP rfl (op_add rfl rfl rfl (by omega) (by omega)) (TL.opP rfl (op_move rfl) (TL.opV rfl (op_index tsl_int rfl rw0 rfl (by omega) (by omega)) ?_)))))))))))
    refine TL.opX0 (OpX.storeRow (k := 1) (fun w => by kernel_rfl) rfl rfl rfl (ys := [nv (k' + 1)]) rfl (by decide) (List.all_eq_true.1 rfl) (by omega) (stM (i := i + 1) (by omega) (by omega))) ?_; rintro _ _ rfl
    refine TL.hp (fun _ h => row_lenM h) (TL.nil (TQ.block_normal (TQ.then (TC.region (TL.opP rfl (op_move rfl) (TL.opP rfl (op_add rfl rfl rfl (by omega) (by omega)) (TL.opP rfl (op_assign rfl) (TL.nil ?_))))))))
    exact TQ.round (i + 1, (k' + 1), b.set (i + 1) (k' + 1)) (hB.step (by omega) (hw.hit (by omega) c4.symm)) (by show _ - (i + 1) < _ - i; omega) ⟨rfl, rfl, rfl, rfl, trivial⟩ (fun _ h => h)
   ·have hz : k' = 0 := hor.resolve_right c4
    subst hz
    refine TC.skip (TQ.then (TC.region (TL.opP rfl (op_move rfl) (TL.opP rfl (op_move rfl) (TL.opP rfl (op_add rfl rfl rfl (by omega) (by omega)) (TL.opP rfl (op_move rfl) (TL.opV rfl (op_index tsl_int rfl rw0 rfl (by omega) (by omega)) ?_)))))))
    refine TL.opX0 (OpX.storeRow (k := 1) (fun w => by kernel_rfl) rfl rfl rfl (ys := [nv 0]) rfl (by decide) (List.all_eq_true.1 rfl) (by omega) (stM (i := i + 1) (by omega) (by omega))) ?_; rintro _ _ rfl
    refine TL.hp (fun _ h => row_lenM h) (TL.nil (TQ.block_normal (TQ.then (TC.region (TL.opP rfl (op_move rfl) (TL.opP rfl (op_add rfl rfl rfl (by omega) (by omega)) (TL.opP rfl (op_assign rfl) (TL.nil ?_))))))))
    exact TQ.round (i + 1, 0, b.set (i + 1) 0) (hB.step (by omega) (hw.miss (fun e => c4 e.symm))) (by show _ - (i + 1) < _ - i; omega) ⟨rfl, rfl, rfl, rfl, trivial⟩ (fun _ h => h)
 ·refine TC.exit (TQ.then_exit (TQ.loop_exit (TQ.block_hit (TQ.then (TC.seq (TC.region (TL.opP rfl (op_move rfl) (TL.opP rfl (op_assign rfl) (TL.nil (TQ.then (TC.ret ?_)))))))))))
  refine ret1 rfl rfl (fun w' hp => ?_)
  exact ⟨_, _, rfl, ⟨_, _, rfl, by have := hB.tab; rw [show i = p.length by omega] at this; exact this, hB.len, rfl⟩, (hp)⟩

theorem fi_done {p l : List Int} {apart : Bool} {i k e : Nat} {out : List Nat} (hi : i = l.length) (h : FI p l apart i k e out) : out = if apart = true then apartF p l else findF p l := by
  subst hi
  cases apart with
  | true => rw [if_pos rfl]; exact h.done1
  | false => rw [if_neg (by decide)]; exact h.done0
theorem gs_len (p t : List Int) : ∀ (f i s : Nat), (gsGo p t f i s).length ≤ f
  | 0, _, _ => Nat.le_refl _
  | f + 1, i, s => by
    rw [gsGo]
    have h1 := gs_len p t f (i + 1) s
    have h2 := gs_len p t f (i + 1) (i + p.length)
    split
    · omega
    · split
      · rw [List.length_cons]; omega
      · omega
theorem fi_len {p l : List Int} {apart : Bool} {i k e : Nat} {out : List Nat} (h : FI p l apart i k e out) : out.length ≤ l.length := by
  have h0 : 0 < p.length := List.length_pos_iff.2 h.ne
  have hi := h.ile
  cases apart with
  | false =>
    rw [(h.e0 rfl).2]
    have := List.length_filter_le (stands p l) (List.range (i + 1 - p.length))
    rw [List.length_range] at this
    unfold foundTo; omega
  | true =>
    have h1 := congrArg List.length (h.e1 rfl).2.1
    have h2 := gs_len p l l.length 0 0
    rw [List.length_append] at h1
    have : (apartF p l).length ≤ l.length := h2
    omega
theorem lfind_x (l : List Int) (tv bv : Value) (g : Nat) (hxt : Rdb F tv 1 l.length (l.map (Value.int .i32))) (hxb : Rdb F bv 1 (begs l).length ((begs l).map nv)) (p : List Int) (pv : Value) (apart : Bool) (hne : p ≠ []) (hl : p.length ≤ 1048576) (hln : l.length ≤ 1048576) (hpv : Rdb F pv 1 p.length (p.map (Value.int .i32))) :
    CallX Tryd.prog 66 [.pointer (some ⟨g, 0, none⟩), pv, .bool apart] S w0 (.blk g (.cells [tv, bv, .bool true].toArray 58 (0, 0)) :: F) (fun u L' => ∃ v' out, u = v' ∧ out = (if apart = true then apartF p l else findF p l) ∧ L' = .row v' 3 1 out.length (out.map nv) :: .blk g (.cells [tv, bv, .bool true].toArray 58 (0, 0)) :: F) := by
 intro w hp
 have h0 : 0 < p.length := List.length_pos_iff.2 hne
 refine calls_start Tryd.func66 rfl rfl rfl (hp) ?_
 refine TC.seq (TC.region (TL.opP rfl (op_assign rfl) (TL.nil (TQ.then (TC.seq (TC.region (TL.opP rfl (op_assign rfl) (TL.nil (TQ.then (TC.seq (TC.seq (TC.region (TL.opP rfl (op_move rfl) (TL.opV rfl (op_lenV rfl un_sl_int32 rfl hpv.cons) (TL.opP rfl (op_eql rfl rfl) (TL.nil (TQ.then ?_)))))))))))))))))
 first | refine TC.condD rfl (fun c1 => ?_) (fun c1 => ?_) | refine TC.condB rfl (fun c1 => ?_) (fun c1 => ?_)
 ·exact absurd c1 (by omega)
 ·refine TC.skip (TQ.then (TC.seq (TC.region (TL.opP rfl (op_move rfl) ?_))))
  refine TL.opX rfl (OpX.callX en_97 rfl (lborders_x p pv hne hl hpv.cons)) ?_; rintro w1 _ ⟨_, b1, rfl, ht1, hbl1, rfl⟩
  refine TL.opP rfl (op_assign rfl) (TL.nil (TQ.then (TC.seq (TC.region (TL.opP rfl (op_assign rfl) (TL.nil (TQ.then (TC.seq (TC.seq (TC.region (TL.opP rfl (op_move rfl) (TL.opP rfl (op_nilCheck rfl) (TL.opP rfl (op_field fld_lines_Index_text rfl) (TL.opV rfl (op_load ts_sl_int32 rfl m1 rfl) (TL.opV rfl (op_lenV rfl un_sl_int32 rfl hxt.cons.cons) (TL.opP rfl (op_move rfl) (TL.nil (TQ.then (TC.block (TC.hp (fun _ h => new_nil 3 1 h) (TC.loop (ι := Nat × Nat × Nat × List Nat × Value) (fun (i, k, e, out, ov) => [(0, .pointer (some ⟨g, 0, none⟩)), (1, pv), (2, .bool apart), (7, ov), (8, w1), (9, .int .i64 (k : Int)), (21, tv), (22, .int .i64 (l.length : Int)), (23, .int .i64 (i : Int))]) (fun (i, k, e, out, ov) => .row ov 3 1 out.length (out.map nv) :: .row w1 3 1 b1.length (b1.map nv) :: .blk g (.cells [tv, bv, .bool true].toArray 58 (0, 0)) :: F) (fun (i, k, e, out, ov) => FI p l apart i k e out) (fun (i, k, e, out, ov) => l.length - i) ((0, 0, 0, [], .slice none 0 0)) ((FI.start hne)) ⟨rfl, rfl, rfl, rfl, rfl, rfl, rfl, rfl, rfl, trivial⟩ (fun _ h => h) ?_)))))))))))))))))))))
  rintro ⟨i, k, e, out, ov⟩ (hF : FI p l apart i k e out)
  have hil := hF.ile
  have hol := fi_len hF
  show TC _ _ _ _ [(0, .pointer (some ⟨g, 0, none⟩)), (1, pv), (2, .bool apart), (7, ov), (8, w1), (9, .int .i64 (k : Int)), (21, tv), (22, .int .i64 (l.length : Int)), (23, .int .i64 (i : Int))] _ _ (.row ov 3 1 out.length (out.map nv) :: .row w1 3 1 b1.length (b1.map nv) :: .blk g (.cells [tv, bv, .bool true].toArray 58 (0, 0)) :: F)
  refine TC.seq (TC.region (TL.opP rfl (op_lss rfl rfl) (TL.nil (TQ.then (TC.seq ?_)))))
  first | refine TC.condD rfl (fun c2 => ?_) (fun c2 => ?_) | refine TC.condB rfl (fun c2 => ?_) (fun c2 => ?_)
  ·refine TC.skip (TQ.then (TC.seq (TC.block (TC.seq (TC.region (TL.opP rfl (op_move rfl) (TL.opV rfl (op_index tsl_int32 rfl hxt.cons.cons.cons rfl (by omega) (by omega)) (TL.opV rfl (op_loadR ts_int32 rfl hxt.cons.cons.cons (lkM (i := i) (d := 0) (by omega) rfl (by omega))) (TL.opP rfl (op_assign rfl) (TL.opP rfl (op_assign rfl) (TL.nil (TQ.then ?_))))))))))))
   refine TC.join (ι := Nat) (fun k' => [(0, .pointer (some ⟨g, 0, none⟩)), (1, pv), (2, .bool apart), (7, ov), (8, w1), (9, .int .i64 (k' : Int)), (21, tv), (22, .int .i64 (l.length : Int)), (23, .int .i64 (i : Int)), (10, .int .i64 (i : Int)), (11, .int .i32 (l.getD i 0))]) (fun k' => .row ov 3 1 out.length (out.map nv) :: .row w1 3 1 b1.length (b1.map nv) :: .blk g (.cells [tv, bv, .bool true].toArray 58 (0, 0)) :: F) (fun k' => Wh p ((l.take i).drop e) (l.getD i 0) k' ∧ (k' = 0 ∨ (k' ≠ p.length ∧ l.getD i 0 = p.getD k' 0))) ?_ ?_
   ·refine TC.block (TC.loop (ι := Nat) (fun k' => [(0, .pointer (some ⟨g, 0, none⟩)), (1, pv), (2, .bool apart), (7, ov), (8, w1), (9, .int .i64 (k' : Int)), (21, tv), (22, .int .i64 (l.length : Int)), (23, .int .i64 (i : Int)), (10, .int .i64 (i : Int)), (11, .int .i32 (l.getD i 0))]) (fun k' => .row ov 3 1 out.length (out.map nv) :: .row w1 3 1 b1.length (b1.map nv) :: .blk g (.cells [tv, bv, .bool true].toArray 58 (0, 0)) :: F) (fun k' => Wh p ((l.take i).drop e) (l.getD i 0) k') (fun k' => k') (k) (hF.sta.wh) ⟨rfl, rfl, rfl, rfl, rfl, rfl, rfl, rfl, rfl, rfl, rfl, trivial⟩ (fun _ h => h) ?_)
    rintro k' hw
    have hkl := hw.1.1
    refine TC.seq (TC.seq (TC.region (TL.opP rfl (op_move rfl) (TL.opP rfl (op_gtr rfl rfl) (TL.opP rfl (op_move rfl) ?_)))))
    first | refine TL.splitD (fun c3 => ?_) (fun c3 => ?_) | refine TL.splitB (fun c3 => ?_) (fun c3 => ?_)
    ·refine TL.gT rfl rfl (TL.opP rfl (op_move rfl) (TL.gT rfl rfl (TL.opP rfl (op_move rfl) (TL.gT rfl rfl (TL.opV rfl (op_lenV rfl un_sl_int32 rfl hpv.cons.cons.cons) (TL.gT rfl rfl (TL.opP rfl (op_eql rfl rfl) (TL.gT rfl rfl (TL.opP rfl (op_move rfl) ?_)))))))))
     first | refine TL.splitD (fun c4 => ?_) (fun c4 => ?_) | refine TL.splitB (fun c4 => ?_) (fun c4 => ?_)
     ·have hbk := hw.back ht1 (by omega) (by omega) (.inl (by omega))
      refine TL.gFt rfl rfl rfl (TL.gFt rfl rfl rfl (TL.gFt rfl rfl rfl (TL.gFt rfl rfl rfl (TL.gFt rfl rfl rfl (TL.gFt rfl rfl rfl (TL.gT rfl rfl (TL.opP rfl (op_pickT rfl rfl) (TL.opP rfl (op_pickT rfl rfl) (TL.nil (TQ.then (TC.condT rfl (TC.skip (TQ.then (TC.block (TC.region (TL.opP rfl (op_move rfl) (TL.opP rfl (op_move rfl) (TL.opV rfl (op_index tsl_int rfl rw1 rfl (by omega) (by omega)) (TL.opV rfl (op_loadR ts_int rfl rw1 (lkM (f := nv) (i := k') (d := 0) (by omega) rfl (by omega))) (TL.opP rfl (op_assign rfl) (TL.nil (TQ.block_normal ?_))))))))))))))))))))))
      exact TQ.round (b1.getD k' 0) (hbk.1) (hbk.2) ⟨rfl, rfl, rfl, rfl, rfl, rfl, rfl, rfl, rfl, rfl, rfl, trivial⟩ (fun _ h => h)
     ·refine TL.gT rfl rfl (TL.opP rfl (op_move rfl) (TL.gT rfl rfl (TL.opP rfl (op_move rfl) (TL.gT rfl rfl (TL.opP rfl (op_move rfl) (TL.gT rfl rfl (TL.opV rfl (op_index tsl_int32 rfl hpv.cons.cons.cons rfl (by omega) (by omega)) (TL.gT rfl rfl (TL.opV rfl (op_loadR ts_int32 rfl hpv.cons.cons.cons (lkM (i := k') (d := 0) (by omega) rfl (by omega))) (TL.gT rfl rfl (TL.opP rfl (op_neq rfl rfl) (TL.gT rfl rfl (TL.opP rfl (op_pickF rfl rfl) (TL.opP rfl (op_pickT rfl rfl) (TL.nil (TQ.then ?_))))))))))))))))
      first | refine TC.condD rfl (fun c5 => ?_) (fun c5 => ?_) | refine TC.condB rfl (fun c5 => ?_) (fun c5 => ?_)
      ·have hbk := hw.back ht1 (by omega) (by omega) (.inr (fun e => c5 e.symm))
       refine TC.skip (TQ.then (TC.block (TC.region (TL.opP rfl (op_move rfl) (TL.opP rfl (op_move rfl) (TL.opV rfl (op_index tsl_int rfl rw1 rfl (by omega) (by omega)) (TL.opV rfl (op_loadR ts_int rfl rw1 (lkM (f := nv) (i := k') (d := 0) (by omega) rfl (by omega))) (TL.opP rfl (op_assign rfl) (TL.nil (TQ.block_normal ?_))))))))))
       exact TQ.round (b1.getD k' 0) (hbk.1) (hbk.2) ⟨rfl, rfl, rfl, rfl, rfl, rfl, rfl, rfl, rfl, rfl, rfl, trivial⟩ (fun _ h => h)
      ·refine TC.exit (TQ.then_exit (TQ.loop_exit (TQ.block_hit ?_)))
       exact TQ.join (k') (⟨hw, by first | exact .inl (by omega) | exact .inr ⟨by omega, by simpa using c5⟩⟩) ⟨rfl, rfl, rfl, rfl, rfl, rfl, rfl, rfl, rfl, rfl, rfl, trivial⟩ (fun _ h => h)
    ·refine TL.gFf rfl rfl rfl (TL.gFf rfl rfl rfl (TL.gFf rfl rfl rfl (TL.gFf rfl rfl rfl (TL.gFf rfl rfl rfl (TL.gU rfl rfl rfl (TL.gU rfl rfl rfl (TL.gU rfl rfl rfl (TL.gU rfl rfl rfl (TL.gU rfl rfl rfl (TL.gU rfl rfl rfl (TL.gFf rfl rfl rfl (TL.opP rfl (op_pickF rfl rfl) (TL.nil (TQ.then (TC.condF rfl (TC.exit (TQ.then_exit (TQ.loop_exit (TQ.block_hit ?_)))))))))))))))))))
     exact TQ.join (k') (⟨hw, by first | exact .inl (by omega) | exact .inr ⟨by omega, by simpa using c5⟩⟩) ⟨rfl, rfl, rfl, rfl, rfl, rfl, rfl, rfl, rfl, rfl, rfl, trivial⟩ (fun _ h => h)
   ·rintro k' ⟨hw, hor⟩
    have hkl := hw.1.1
    have hkl2 : k' < p.length := by omega
    refine TC.seq (TC.seq (TC.region (TL.opP rfl (op_move rfl) (TL.opP rfl (op_move rfl) (TL.opP rfl (op_move rfl) (TL.opV rfl (op_index tsl_int32 rfl hpv.cons.cons.cons rfl (by omega) (by omega)) (TL.opV rfl (op_loadR ts_int32 rfl hpv.cons.cons.cons (lkM (i := k') (d := 0) (by omega) rfl (by omega))) (TL.opP rfl (op_eql rfl rfl) (TL.nil (TQ.then ?_))))))))))
    first | refine TC.condD rfl (fun c6 => ?_) (fun c6 => ?_) | refine TC.condB rfl (fun c6 => ?_) (fun c6 => ?_)
    ·have hst := hw.hit hkl2 c6.symm
     refine TC.region (TL.opP rfl (op_move rfl) (TL.opP rfl (op_add (r := ((k' + 1 : Nat) : Int)) rfl rfl (by omega) (by omega) (by omega)) (TL.opP rfl (op_assign rfl) (TL.nil (TQ.then (TC.seq (TC.region (TL.opP rfl (op_move rfl) (TL.opP rfl (op_move rfl) (TL.opV rfl (op_lenV rfl un_sl_int32 rfl hpv.cons.cons.cons) (TL.opP rfl (op_eql rfl rfl) (TL.nil (TQ.then ?_)))))))))))))
     first | refine TC.condD rfl (fun c7 => ?_) (fun c7 => ?_) | refine TC.condB rfl (fun c7 => ?_) (fun c7 => ?_)
     ·have hkp : k' + 1 = p.length := by omega
      rw [hkp] at hst
      obtain ⟨hpi, hh⟩ := hF.hit (by omega) rfl hst
      refine TC.seq (TC.region (TL.opP rfl (op_move rfl) (TL.opP rfl (op_move rfl) (TL.opP rfl (op_add rfl rfl rfl (by omega) (by omega)) (TL.opP rfl (op_move rfl) (TL.opV rfl (op_lenV rfl un_sl_int32 rfl hpv.cons.cons.cons) (TL.opP rfl (op_sub (r := ((i + 1 - p.length : Nat) : Int)) rfl rfl (by omega) (by omega) (by omega)) ?_)))))))
      refine TL.opX rfl (OpX.buildSlice (ps := #[(0, _)]) rfl (bs_int_1 _)) ?_; rintro _ _ ⟨g66, rfl, rfl⟩
      refine TL.hp (fun _ h => blk_row (k := 1) (m := 1) h rfl (by decide)) (TL.hp (fun _ h => h.pick1) ?_)
      refine TL.opX rfl (OpX.append (bytes := 8) tsl_int (by decide) (by decide) rfl rw1 (fun u hu => by rw [List.mem_singleton.1 hu]; rfl) (by omega) (zs := (out ++ [i + 1 - p.length]).map nv) (by simp)) ?_; rintro v2 _ rfl
      refine TL.know (fun _ h => row1 h) (fun o2 => (TL.hp (fun _ h => row_lenM h) (TL.opP rfl (op_assign rfl) (TL.nil (TQ.then (TC.seq (TC.region (TL.opP rfl (op_move rfl) (TL.nil (TQ.then ?_))))))))))
      first | refine TC.condD rfl (fun c8 => ?_) (fun c8 => ?_) | refine TC.condB rfl (fun c8 => ?_) (fun c8 => ?_)
      ·refine TC.region (TL.opP rfl (op_assign rfl) (TL.nil (TQ.block_normal (TQ.then (TC.region (TL.opP rfl (op_add rfl rfl rfl (by omega) (by omega)) (TL.opP rfl (op_move rfl) (TL.nil ?_))))))))
       exact TQ.round (i + 1, 0, i + 1, out ++ [i + 1 - p.length], v2) ((by rw [if_pos c8, if_pos c8] at hh; exact hh)) (by show _ - (i + 1) < _ - i; omega) ⟨rfl, rfl, rfl, rfl, rfl, rfl, rfl, rfl, rfl, trivial⟩ (fun _ h => h.drop1)
      ·refine TC.skip (TQ.block_normal (TQ.then (TC.region (TL.opP rfl (op_add rfl rfl rfl (by omega) (by omega)) (TL.opP rfl (op_move rfl) (TL.nil ?_))))))
       exact TQ.round (i + 1, k' + 1, e, out ++ [i + 1 - p.length], v2) ((by rw [if_neg (by rw [c8]; decide), if_neg (by rw [c8]; decide)] at hh; rw [hkp]; exact hh)) (by show _ - (i + 1) < _ - i; omega) ⟨rfl, rfl, rfl, rfl, rfl, rfl, rfl, rfl, rfl, trivial⟩ (fun _ h => h.drop1)
     ·refine TC.skip (TQ.block_normal (TQ.then (TC.region (TL.opP rfl (op_add rfl rfl rfl (by omega) (by omega)) (TL.opP rfl (op_move rfl) (TL.nil ?_))))))
      exact TQ.round (i + 1, k' + 1, e, out, ov) (hF.miss (by omega) rfl hst (by omega)) (by show _ - (i + 1) < _ - i; omega) ⟨rfl, rfl, rfl, rfl, rfl, rfl, rfl, rfl, rfl, trivial⟩ (fun _ h => h)
    ·have hz : k' = 0 := by rcases hor with h | h; exact h; exact absurd h.2 c6
     subst hz
     have hst := hw.miss (fun e => c6 e.symm)
     refine TC.skip (TQ.then (TC.seq (TC.region (TL.opP rfl (op_move rfl) (TL.opP rfl (op_move rfl) (TL.opV rfl (op_lenV rfl un_sl_int32 rfl hpv.cons.cons.cons) (TL.opP rfl (op_eql rfl rfl) (TL.nil (TQ.then ?_)))))))))
     first | refine TC.condD rfl (fun c9 => ?_) (fun c9 => ?_) | refine TC.condB rfl (fun c9 => ?_) (fun c9 => ?_)
     ·exact absurd c9 (by omega)
     ·refine TC.skip (TQ.block_normal (TQ.then (TC.region (TL.opP rfl (op_add rfl rfl rfl (by omega) (by omega)) (TL.opP rfl (op_move rfl) (TL.nil ?_))))))
      exact TQ.round (i + 1, 0, e, out, ov) (hF.miss (by omega) rfl hst (by omega)) (by show _ - (i + 1) < _ - i; omega) ⟨rfl, rfl, rfl, rfl, rfl, rfl, rfl, rfl, rfl, trivial⟩ (fun _ h => h)
  ·refine TC.exit (TQ.then_exit (TQ.loop_exit (TQ.block_hit (TQ.then (TC.seq (TC.region (TL.opP rfl (op_move rfl) (TL.opP rfl (op_assign rfl) (TL.nil (TQ.then (TC.ret ?_)))))))))))
   refine ret1 rfl rfl (fun w' hp => ?_)
   exact ⟨_, _, rfl, ⟨_, out, rfl, fi_done (by omega) hF, rfl⟩, (hp.drop1)⟩

end Go.SK
