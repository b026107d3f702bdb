/- Walks: the document's own application, cursor, inverse and composition. -/
import Derived.Test.YtlbaebaimhbbfaaDoorE43
import Derived.Test.YtlbaebaimhbbfaaDoorMG
set_option linter.unusedVariables false
set_option linter.unusedSimpArgs false
set_option maxRecDepth 100000
namespace Go.SK
open Go Go.RowKit Go.Proofs
variable {S : Nat → Prop} {w0 : World} {F L : List Res}
theorem charsE_x (t : List Int) (ht : ∀ x ∈ t, scalar x) (hs : (enc t).size ≤ 4398046511104) :
    CallX Tryd.prog 50 [.string (enc t)] S w0 L (fun u L' => ∃ v', u = v' ∧ L' = .row v' 9 1 t.length (t.map chv) :: L) := by
  have := chars_x (S := S) (w0 := w0) (L := L) (enc t) hs
  rw [dec_enc ht] at this
  exact this


theorem rinvert_x (e : List Part) (s : ByteArray) (v : Value) (hss : s.size ≤ 1073741824) (hs : ∀ p ∈ e, p.text.size < 9223372036854775807) (hle : e.length ≤ 4398046511104) (hr : Rdb L v 3 e.length (encs e)) :
    CallX Tryd.prog 31 [v, .string s] S w0 (L) (fun u L' => ∃ v', u = .tuple #[v', .int .i64 (invE e s)] ∧ L' = .row v' 38 3 (invF e s).length (encs (invF e s)) :: L) := by
 intro w hp
 have hdl := dec_len s
 refine calls_start Tryd.func31 rfl rfl rfl (hp) ?_
 refine TC.seq (TC.region (TL.opP rfl (op_assign rfl) (TL.opP rfl (op_assign rfl) (TL.nil (TQ.then (TC.seq (TC.region (TL.opP rfl (op_move rfl) ?_))))))))
 refine TL.opX rfl (OpX.bytes un_string tsl_uint8 un_uint8 rfl (by simp only [maxLen]; omega)) ?_; rintro v1 _ rfl
 refine TL.know (fun _ h => rd1' h) (fun o1 => ?_)
 refine TL.callq rfl en_47 rfl (fun w2 hp => runes_calls s.data.toList _ w2 (by rw [size_len]; exact rd0 _ _ _ hp)) ?_
 refine TL.opP rfl (op_assign rfl) (TL.nil (TQ.then ?_))
 refine TC.join (ι := Unit) (fun _u => [(0, v), (1, .string s), (6, .int .i64 ((dec s).length : Int))]) (fun _u => L) (fun _u => valid s = true ∧ Ok e ∧ fromS e = ((dec s).length : Nat)) ?_ ?_
 ·refine TC.seq (TC.region (TL.opP rfl (op_move rfl) (TL.opP rfl (op_lss rfl rfl) (TL.opP rfl (op_move rfl) ?_))))
  first | refine TL.splitD (fun c1 => ?_) (fun c1 => ?_) | refine TL.splitB (fun c1 => ?_) (fun c1 => ?_)
  ·refine TL.gFt rfl rfl rfl (TL.gFt rfl rfl rfl (TL.gFt rfl rfl rfl (TL.gFt rfl rfl rfl (TL.opP rfl (op_pickT rfl rfl) (TL.nil (TQ.then (TC.condT rfl (TC.seq (TC.region (TL.opP rfl (op_assign rfl) (TL.opP rfl (op_assign rfl) (TL.nil (TQ.then (TC.ret (TQ.join_ret ?_)))))))))))))))
   refine ret2 rfl rfl rfl (fun w' hp => ?_)
   first
     | (have hbad : applyBad e s := applyBad_of (by first | exact .inl c1 | exact .inr c2)
        exact ⟨_, _, rfl, ⟨.slice none 0 0, by rw [(inv_bad hbad).1], by rw [(inv_bad hbad).2]; rfl⟩, new_nil _ 3 (hp.tail)⟩)
     | exact ⟨_, _, rfl, ⟨_, by rw [lE], by rw [← hlaw]⟩, (hp.tail)⟩
  ·refine TL.gT rfl rfl (TL.opP rfl (op_move rfl) (TL.gT rfl rfl (TL.opP rfl (op_move rfl) (TL.gT rfl rfl (TL.callq rfl en_48 rfl (fun w2 hp => rcheck_calls e _ v w2 hs (hr.cons _ _ _ hp)) (TL.gT rfl rfl (TL.opP rfl (op_neq rfl rfl) (TL.opP rfl (op_pickF rfl rfl) (TL.nil (TQ.then ?_))))))))))
   first | refine TC.condD rfl (fun c2 => ?_) (fun c2 => ?_) | refine TC.condB rfl (fun c2 => ?_) (fun c2 => ?_)
   ·refine TC.seq (TC.region (TL.opP rfl (op_assign rfl) (TL.opP rfl (op_assign rfl) (TL.nil (TQ.then (TC.ret (TQ.join_ret ?_)))))))
    refine ret2 rfl rfl rfl (fun w' hp => ?_)
    first
      | (have hbad : applyBad e s := applyBad_of (by first | exact .inl c1 | exact .inr c2)
         exact ⟨_, _, rfl, ⟨.slice none 0 0, by rw [(inv_bad hbad).1], by rw [(inv_bad hbad).2]; rfl⟩, new_nil _ 3 (hp.tail)⟩)
      | exact ⟨_, _, rfl, ⟨_, by rw [lE], by rw [← hlaw]⟩, (hp.tail)⟩
   ·obtain ⟨hr0, hv0, oe0, hn0⟩ := applyOk_of c1 c2
    refine TC.skip ?_
    exact TQ.join (()) (⟨hv0, oe0, hn0⟩) ⟨rfl, rfl, gi rfl (by omega), trivial⟩ (fun _ h => h.tail)
 ·rintro _ ⟨hv', oe, hn⟩
  have hlaw := iv_law hv' oe hn
  have hclb := iv_clb hv' oe hn hss
  have lE := (inv_law hv' oe hn).1
  have hPl := spP_len oe.1
  have hDl := dv_len oe.1
  have hto := oe.2.2.2
  have hZn := hclb.n
  have hZl := hclb.len
  have hZp := psum_pos (iv (spP e) (dv e) (dec s) []).1
  refine TC.seq (TC.region (TL.opP rfl (op_move rfl) (TL.opP rfl (op_move rfl) ?_)))
  refine TL.opX rfl (OpX.callX en_49 rfl (spread_x e ((dec s).length) v oe hn (by omega) hr)) ?_; rintro _ _ ⟨vp2, vd2, rfl, rfl⟩
  refine TL.know (fun _ h => row1 h) (fun op1 => ?_)
  refine TL.know (fun _ h => row1 h.pick1) (fun op2 => ?_)
  refine TL.opX rfl (OpX.alloc tz_sealskinref03_Wide rfl) ?_; rintro _ _ ⟨g7, rfl, rfl⟩
  refine TL.opX0 (OpX.storeS tst_sealskinref03_Wide rfl rfl rfl rfl rfl (by first | exact (List.all_eq_true.1 rfl) | (intro u hu; simp only [List.mem_cons, List.not_mem_nil, or_false] at hu; rcases hu with rfl | rfl <;> assumption))) ?_; rintro _ _ rfl
  refine TL.nil (TQ.then (TC.seq (TC.region (TL.opP rfl (op_move rfl) ?_))))
  refine TL.opX rfl (OpX.callX en_50 rfl (chars_x s (by omega))) ?_; rintro w3 _ ⟨_, rfl, rfl⟩
  refine TL.opP rfl (op_assign rfl) (TL.nil (TQ.then (TC.seq (TC.region ?_))))
  refine TL.opX rfl (OpX.buildSlice (ps := #[(0, _)]) rfl (bs_string_1 _)) ?_; rintro _ _ ⟨g27, rfl, rfl⟩
  refine TL.hp (fun _ h => blk_row (k := 1) (m := 1) h rfl (by decide)) (TL.opP rfl (op_build (ps := #[(0, _)]) rfl (bl_sealskinref03_Wide_0 _)) ?_)
  refine TL.opX rfl (OpX.alloc tz_sealskinref03_Wide rfl) ?_; rintro _ _ ⟨g9, rfl, rfl⟩
  refine TL.opX0 (OpX.storeS tst_sealskinref03_Wide rfl rfl rfl rfl rfl (by first | exact (List.all_eq_true.1 rfl) | (intro u hu; simp only [List.mem_cons, List.not_mem_nil, or_false] at hu; rcases hu with rfl | rfl <;> assumption))) ?_; rintro _ _ rfl
  refine TL.hp (fun _ h => new_nil 4 1 h) (TL.nil (TQ.then (TC.seq (TC.seq (TC.region (TL.opP rfl (op_move rfl) (TL.opP rfl (op_add rfl rfl rfl (by omega) (by omega)) (TL.opP rfl (op_move rfl) (TL.nil (TQ.then (TC.block (TC.loop (ι := Nat × List (List Int) × List Bool × Value × Value) (fun (i, P, D, xv, xw) => [(6, .int .i64 ((dec s).length : Int)), (7, .pointer (some ⟨g7, 0, none⟩)), (8, w3), (9, .pointer (some ⟨g9, 0, none⟩)), (30, .int .i64 (((dec s).length : Int) + 1)), (31, .int .i64 (i : Int))]) (fun (i, P, D, xv, xw) => .blk g9 (.cells [xv, xw].toArray 93 (0, 0)) :: .row xv 9 1 (P).length ((P).map sv) :: .row xw 4 1 (D).length ((D).map bv) :: .blk g7 (.cells [vp2, vd2].toArray 93 (0, 0)) :: .row vp2 9 1 (spP e).length ((spP e).map sv) :: .row vd2 4 1 (dv e).length ((dv e).map bv) :: .row w3 9 1 (dec s).length ((dec s).map chv) :: L) (fun (i, P, D, xv, xw) => VInv (spP e) (dv e) (dec s) (iv (spP e) (dv e) (dec s) []) i P D ∧ xv.oneCell' = true ∧ xw.oneCell' = true) (fun (i, P, D, xv, xw) => (dec s).length + 1 - i) ((0, [[]], [], .slice (some ⟨g27, 0, none⟩) 1 1, .slice none 0 0)) (⟨VInv.start _ _ _, rfl, rfl⟩) ⟨rfl, rfl, rfl, rfl, rfl, rfl, trivial⟩ (fun _ h => h.pick3.pick6.pick6.pick6.pick4.pick6.pick6) ?_))))))))))))
  rintro ⟨i, P, D, xv, xw⟩ ⟨hI, ox, oy⟩
  have hil := hI.ile
  show TC _ _ _ _ [(6, .int .i64 ((dec s).length : Int)), (7, .pointer (some ⟨g7, 0, none⟩)), (8, w3), (9, .pointer (some ⟨g9, 0, none⟩)), (30, .int .i64 (((dec s).length : Int) + 1)), (31, .int .i64 (i : Int))] _ _ (.blk g9 (.cells [xv, xw].toArray 93 (0, 0)) :: .row xv 9 1 (P).length ((P).map sv) :: .row xw 4 1 (D).length ((D).map bv) :: .blk g7 (.cells [vp2, vd2].toArray 93 (0, 0)) :: .row vp2 9 1 (spP e).length ((spP e).map sv) :: .row vd2 4 1 (dv e).length ((dv e).map bv) :: .row w3 9 1 (dec s).length ((dec s).map chv) :: L)
  refine TC.seq (TC.region (TL.opP rfl (op_lss rfl rfl) (TL.nil (TQ.then (TC.seq ?_)))))
  first | refine TC.condD rfl (fun c3 => ?_) (fun c3 => ?_) | refine TC.condB rfl (fun c3 => ?_) (fun c3 => ?_)
  ·obtain ⟨t, ht⟩ : ∃ t, (spP e).getD i [] = t := ⟨_, rfl⟩
   obtain ⟨hts, htn, htz⟩ := sp_get oe ht
   have hh : ((spP e).drop i).headD [] = t := headD_drop (by omega) ht
   refine TC.skip (TQ.then (TC.seq (TC.block (TC.seq (TC.region (TL.opP rfl (op_move rfl) (TL.opP rfl (op_assign rfl) (TL.nil (TQ.then (TC.seq (TC.seq (TC.region (TL.opP rfl (op_field fld_sealskinref03_Wide_Puts rfl) (TL.opV rfl (op_load ts_sl_string rfl m3 rfl) (TL.opP rfl (op_move rfl) (TL.opV rfl (op_index tsl_string rfl rw4 rfl (by omega) (by omega)) (TL.opV rfl (op_loadR ts_string rfl rw4 (lkM (d := []) (by omega) ht (by omega))) ?_)))))))))))))))))
   refine TL.opX rfl (OpX.callX en_50 rfl (charsE_x t hts (by omega))) ?_; rintro w4 _ ⟨_, rfl, rfl⟩
   refine TL.opV rfl (op_lenV rfl un_sl_string rfl rw0) (TL.opP rfl (op_move rfl) (TL.nil (TQ.then (TC.block (TC.loop (ι := Nat × List (List Int) × List Bool × Value × Value) (fun (j, P', D', yv, yw) => [(6, .int .i64 ((dec s).length : Int)), (7, .pointer (some ⟨g7, 0, none⟩)), (8, w3), (9, .pointer (some ⟨g9, 0, none⟩)), (30, .int .i64 (((dec s).length : Int) + 1)), (31, .int .i64 (i : Int)), (10, .int .i64 (i : Int)), (40, .int .i64 (t.length : Int)), (41, .int .i64 (j : Int))]) (fun (j, P', D', yv, yw) => .blk g9 (.cells [yv, yw].toArray 93 (0, 0)) :: .row yv 9 1 (P').length ((P').map sv) :: .row yw 4 1 (D').length ((D').map bv) :: .blk g7 (.cells [vp2, vd2].toArray 93 (0, 0)) :: .row vp2 9 1 (spP e).length ((spP e).map sv) :: .row vd2 4 1 (dv e).length ((dv e).map bv) :: .row w3 9 1 (dec s).length ((dec s).map chv) :: L) (fun (j, P', D', yv, yw) => VIn (spP e) (dv e) (dec s) (iv (spP e) (dv e) (dec s) []) i j P' D' ∧ yv.oneCell' = true ∧ yw.oneCell' = true) (fun (j, P', D', yv, yw) => t.length - j) ((0, P, D, xv, xw)) (⟨hI.inner (by omega), ox, oy⟩) ⟨rfl, rfl, rfl, rfl, rfl, rfl, rfl, rfl, rfl, trivial⟩ (fun _ h => h.tail) ?_)))))
   rintro ⟨j, P', D', yv, yw⟩ ⟨hJ, oyv, oyw⟩
   have hjl := hJ.jle
   have hJl := hJ.lens
   show TC _ _ _ _ [(6, .int .i64 ((dec s).length : Int)), (7, .pointer (some ⟨g7, 0, none⟩)), (8, w3), (9, .pointer (some ⟨g9, 0, none⟩)), (30, .int .i64 (((dec s).length : Int) + 1)), (31, .int .i64 (i : Int)), (10, .int .i64 (i : Int)), (40, .int .i64 (t.length : Int)), (41, .int .i64 (j : Int))] _ _ (.blk g9 (.cells [yv, yw].toArray 93 (0, 0)) :: .row yv 9 1 (P').length ((P').map sv) :: .row yw 4 1 (D').length ((D').map bv) :: .blk g7 (.cells [vp2, vd2].toArray 93 (0, 0)) :: .row vp2 9 1 (spP e).length ((spP e).map sv) :: .row vd2 4 1 (dv e).length ((dv e).map bv) :: .row w3 9 1 (dec s).length ((dec s).map chv) :: L)
   refine TC.seq (TC.region (TL.opP rfl (op_lss rfl rfl) (TL.nil (TQ.then (TC.seq ?_)))))
   first | refine TC.condD rfl (fun c4 => ?_) (fun c4 => ?_) | refine TC.condB rfl (fun c4 => ?_) (fun c4 => ?_)
   ·have hj4 : j < (((spP e).drop i).headD []).length := by rw [hh]; omega
    refine TC.skip (TQ.then (TC.seq (TC.block (TC.seq (TC.region (TL.opP rfl (op_field fld_sealskinref03_Wide_Drop rfl) (TL.opV rfl (op_load ts_sl_bool rfl m0 rfl) ?_)))))))
    refine TL.opX rfl (OpX.buildSlice (ps := #[(0, _)]) rfl (bs_bool_1 _)) ?_; rintro _ _ ⟨g45, rfl, rfl⟩
    refine TL.hp (fun _ h => blk_row (k := 1) (m := 1) h rfl (by decide)) (TL.hp (fun _ h => h.pick3) ?_)
    refine TL.opX rfl (OpX.append (bytes := 1) tsl_bool (by decide) (by decide) rfl rw1 (one1 rfl) (by omega) (zs := (D' ++ [true]).map bv) (by simp)) ?_; rintro v5 _ rfl
    refine TL.know (fun _ h => row1 h) (fun o5 => (TL.hp (fun _ h => row_lenM h) (TL.opP rfl (op_field fld_sealskinref03_Wide_Drop rfl) (TL.hp (fun _ h => h.pick2) ?_))))
    refine TL.opX0 (OpX.store1 ts_sl_bool rfl rfl (by first | rfl | assumption) rfl rfl) ?_; rintro _ _ rfl
    refine TL.nil (TQ.then (TC.region (TL.opP rfl (op_field fld_sealskinref03_Wide_Puts rfl) (TL.opV rfl (op_load ts_sl_string rfl m0 rfl) ?_))))
    refine TL.opX rfl (OpX.buildSlice (ps := #[(0, _)]) rfl (bs_string_1 _)) ?_; rintro _ _ ⟨g50, rfl, rfl⟩
    refine TL.hp (fun _ h => blk_row (k := 1) (m := 1) h rfl (by decide)) (TL.hp (fun _ h => h.pick4) ?_)
    refine TL.opX rfl (OpX.append (bytes := 16) tsl_string (by decide) (by decide) rfl rw1 (one1 rfl) (by omega) (zs := (P' ++ [[]]).map sv) (by simp [enc_nil])) ?_; rintro v6 _ rfl
    refine TL.know (fun _ h => row1 h) (fun o6 => (TL.hp (fun _ h => row_lenM h) (TL.opP rfl (op_field fld_sealskinref03_Wide_Puts rfl) (TL.hp (fun _ h => h.pick2) ?_))))
    refine TL.opX0 (OpX.store1 ts_sl_string rfl rfl (by first | rfl | assumption) rfl rfl) ?_; rintro _ _ rfl
    refine TL.nil (TQ.block_normal (TQ.then (TC.region (TL.opP rfl (op_add rfl rfl rfl (by omega) (by omega)) (TL.opP rfl (op_move rfl) (TL.nil ?_))))))
    exact TQ.round (j + 1, P' ++ [[]], D' ++ [true], v6, v5) (⟨hJ.step (by omega), by assumption, by assumption⟩) (by show _ - (j + 1) < _ - j; omega) ⟨rfl, rfl, rfl, rfl, rfl, rfl, rfl, rfl, rfl, trivial⟩ (fun _ h => h.drop4.drop2)
   ·obtain rfl : j = t.length := by rw [hh] at hjl; omega
    refine TC.exit (TQ.then_exit (TQ.loop_exit (TQ.block_hit (TQ.then (TC.seq (TC.region (TL.opP rfl (op_move rfl) (TL.opP rfl (op_move rfl) (TL.opP rfl (op_lss rfl rfl) (TL.opP rfl (op_move rfl) ?_))))))))))
    first | refine TL.splitD (fun c5 => ?_) (fun c5 => ?_) | refine TL.splitB (fun c5 => ?_) (fun c5 => ?_)
    ·obtain ⟨c, hc⟩ : ∃ c, (dec s).getD i 0 = c := ⟨_, rfl⟩
     have hc1 := (enc_size [c]).2
     simp only [List.length_singleton] at hc1
     refine TL.gT rfl rfl (TL.opP rfl (op_field fld_sealskinref03_Wide_Drop rfl) (TL.gT rfl rfl (TL.opV rfl (op_load ts_sl_bool rfl m3 rfl) (TL.gT rfl rfl (TL.opP rfl (op_move rfl) (TL.gT rfl rfl (TL.opV rfl (op_index tsl_bool rfl rw5 rfl (by omega) (by omega)) (TL.gT rfl rfl (TL.opV rfl (op_loadR ts_bool rfl rw5 (lkM (i := i) (d := false) (by omega) rfl (by omega))) (TL.opP rfl (op_pickT rfl rfl) (TL.nil (TQ.then ?_))))))))))))
     first | refine TC.condD rfl (fun c6 => ?_) (fun c6 => ?_) | refine TC.condB rfl (fun c6 => ?_) (fun c6 => ?_)
     ·refine TC.draw [20] (.cons (.p, 0) (.cons (.p, 2) (.cons (.p, 6) (.cons (.p, 8) (.cons (.p, 14) (.cons (.p, 15) (.cons (.t, 1) (.cons (.t, 3) (.cons (.t, 4) (.cons (.p, 5) (.cons (.t, 7) (.cons (.t, 9) (.cons (.t, 10) (.cons (.p, 11) (.cons (.t, 12) (.cons (.t, 13) (.cons (.t, 16) (.cons (.t, 17) (.cons (.p, 18) (.cons (.t, 19) (.cons (.z, 20) (.nil)))))))))))))))))))))) mo (by kernel_rfl) (TR.p rfl rfl wt0 (op_field fld_sealskinref03_Wide_Puts rfl) (TR.p rfl rfl wt0 (op_field fld_sealskinref03_Wide_Puts rfl) (TR.p rfl rfl wt0 (op_field fld_sealskinref03_Wide_Puts rfl) (TR.p rfl rfl wt0 (op_field fld_sealskinref03_Wide_Puts rfl) (TR.p rfl rfl wt0 (op_move rfl) (TR.p rfl rfl wt0 (op_move rfl) (TR.t rfl rfl wt0 (op_load ts_sl_string rfl m0 rfl) (fun _ h => h) ?_)))))))
      refine TR.t rfl rfl wt0 (op_load ts_sl_string rfl m0 rfl) (fun _ h => h) (TR.t rfl rfl wt0 (op_lenV rfl un_sl_string rfl rw1) (fun _ h => h) (TR.p rfl rfl wt0 (op_sub rfl rfl rfl (by omega) (by omega)) (TR.t rfl rfl wt0 (op_load ts_sl_string rfl m0 rfl) (fun _ h => h) (TR.t rfl rfl wt0 (op_load ts_sl_string rfl m0 rfl) (fun _ h => h) (TR.t rfl rfl wt0 (op_lenV rfl un_sl_string rfl rw1) (fun _ h => h) (TR.p rfl rfl wt0 (op_sub rfl rfl rfl (by omega) (by omega)) (TR.t rfl rfl wt0 (op_index tsl_string rfl rw1 rfl (by omega) (by omega)) (fun _ h => h) (TR.t rfl rfl wt0 (op_loadR ts_string rfl rw1 (lkM (i := P'.length - 1) (d := []) (by omega) rfl (by omega))) (fun _ h => h) (TR.t rfl rfl wt0 (op_index tsl_string rfl rw6 rfl (by omega) (by omega)) (fun _ h => h) ?_)))))))))
      refine TR.t rfl rfl wt0 (op_loadR ts_string rfl rw6 (lkM (d := (0 : Int)) (by omega) hc (by omega))) (fun _ h => h) ?_
      refine TR.p rfl rfl wt0 (op_sadde rfl rfl (by have := hJ.lastLe hclb; omega)) ?_
      refine TR.t rfl rfl wt0 (op_index tsl_string rfl rw1 rfl (by omega) (by omega)) (fun _ h => h) (TR.hp (fun _ h => h.pick1) ?_)
      refine TR.z0 rfl wt0 (OpX.storeRow (k := 1) (fun w => by kernel_rfl) rfl rfl rfl (ys := [sv (P'.getD (P'.length - 1) [] ++ [c])]) rfl (by decide) (by first | exact (List.all_eq_true.1 rfl) | (intro u hu; simp only [List.mem_cons, List.not_mem_nil, or_false] at hu; rcases hu with rfl | rfl <;> assumption)) (by omega) (stM (i := P'.length - 1) (by omega) (by omega))) ?_; rintro _ _ rfl
      refine TR.hp (fun _ h => row_lenM h) (TR.nil (TQ.block_normal (TQ.then (TC.region (TL.opP rfl (op_add rfl rfl rfl (by omega) (by omega)) (TL.opP rfl (op_move rfl) (TL.nil ?_)))))))
      exact TQ.round (i + 1, P'.set (P'.length - 1) (P'.getD (P'.length - 1) [] ++ [c]), D', yv, yw) (⟨hJ.drop (by omega) ht (by omega) c6 (by omega) hc, by assumption, by assumption⟩) (by show _ - (i + 1) < _ - i; omega) ⟨rfl, rfl, rfl, rfl, rfl, rfl, trivial⟩ (fun _ h => h.pick6.pick6.pick6.pick6.pick6.pick5.pick6)
     ·refine TC.seq (TC.region (TL.opP rfl (op_move rfl) (TL.opP rfl (op_move rfl) (TL.opP rfl (op_lss rfl rfl) (TL.nil (TQ.then ?_))))))
      first | refine TC.condD rfl (fun c7 => ?_) (fun c7 => ?_) | refine TC.condB rfl (fun c7 => ?_) (fun c7 => ?_)
      ·refine TC.seq (TC.region (TL.opP rfl (op_field fld_sealskinref03_Wide_Drop rfl) (TL.opV rfl (op_load ts_sl_bool rfl m0 rfl) ?_)))
       refine TL.opX rfl (OpX.buildSlice (ps := #[(0, _)]) rfl (bs_bool_1 _)) ?_; rintro _ _ ⟨g89, rfl, rfl⟩
       refine TL.hp (fun _ h => blk_row (k := 1) (m := 1) h rfl (by decide)) (TL.hp (fun _ h => h.pick3) ?_)
       refine TL.opX rfl (OpX.append (bytes := 1) tsl_bool (by decide) (by decide) rfl rw1 (one1 rfl) (by omega) (zs := (D' ++ [false]).map bv) (by simp)) ?_; rintro v7 _ rfl
       refine TL.know (fun _ h => row1 h) (fun o7 => (TL.hp (fun _ h => row_lenM h) (TL.opP rfl (op_field fld_sealskinref03_Wide_Drop rfl) (TL.hp (fun _ h => h.pick2) ?_))))
       refine TL.opX0 (OpX.store1 ts_sl_bool rfl rfl (by first | rfl | assumption) rfl rfl) ?_; rintro _ _ rfl
       refine TL.nil (TQ.then (TC.region (TL.opP rfl (op_field fld_sealskinref03_Wide_Puts rfl) (TL.opV rfl (op_load ts_sl_string rfl m0 rfl) ?_))))
       refine TL.opX rfl (OpX.buildSlice (ps := #[(0, _)]) rfl (bs_string_1 _)) ?_; rintro _ _ ⟨g94, rfl, rfl⟩
       refine TL.hp (fun _ h => blk_row (k := 1) (m := 1) h rfl (by decide)) (TL.hp (fun _ h => h.pick4) ?_)
       refine TL.opX rfl (OpX.append (bytes := 16) tsl_string (by decide) (by decide) rfl rw1 (one1 rfl) (by omega) (zs := (P' ++ [[]]).map sv) (by simp [enc_nil])) ?_; rintro v8 _ rfl
       refine TL.know (fun _ h => row1 h) (fun o8 => (TL.hp (fun _ h => row_lenM h) (TL.opP rfl (op_field fld_sealskinref03_Wide_Puts rfl) (TL.hp (fun _ h => h.pick2) ?_))))
       refine TL.opX0 (OpX.store1 ts_sl_string rfl rfl (by first | rfl | assumption) rfl rfl) ?_; rintro _ _ rfl
       refine TL.nil (TQ.block_normal (TQ.then (TC.region (TL.opP rfl (op_add rfl rfl rfl (by omega) (by omega)) (TL.opP rfl (op_move rfl) (TL.nil ?_))))))
       exact TQ.round (i + 1, P' ++ [[]], D' ++ [false], v8, v7) (⟨hJ.keep (by omega) ht (by omega) c6 (by omega) hc, by assumption, by assumption⟩) (by show _ - (i + 1) < _ - i; omega) ⟨rfl, rfl, rfl, rfl, rfl, rfl, trivial⟩ (fun _ h => h.drop4.drop2)
      ·exact absurd c5 c7
    ·refine TL.gFf rfl rfl rfl (TL.gFf rfl rfl rfl (TL.gFf rfl rfl rfl (TL.gFf rfl rfl rfl (TL.gFf rfl rfl rfl (TL.opP rfl (op_pickF rfl rfl) (TL.nil (TQ.then (TC.condF rfl (TC.seq (TC.region (TL.opP rfl (op_move rfl) (TL.opP rfl (op_move rfl) (TL.opP rfl (op_lss rfl rfl) (TL.nil (TQ.then ?_)))))))))))))))
     first | refine TC.condD rfl (fun c8 => ?_) (fun c8 => ?_) | refine TC.condB rfl (fun c8 => ?_) (fun c8 => ?_)
     ·exact absurd c8 c5
     ·refine TC.skip (TQ.block_normal (TQ.then (TC.region (TL.opP rfl (op_add rfl rfl rfl (by omega) (by omega)) (TL.opP rfl (op_move rfl) (TL.nil ?_))))))
      exact TQ.round (i + 1, P', D', yv, yw) (⟨hJ.fin (by omega) ht (by omega), by assumption, by assumption⟩) (by show _ - (i + 1) < _ - i; omega) ⟨rfl, rfl, rfl, rfl, rfl, rfl, trivial⟩ (fun _ h => h)
  ·obtain ⟨rfl, rfl⟩ := hI.fin (by omega)
   refine TC.exit (TQ.then_exit (TQ.loop_exit (TQ.block_hit (TQ.then (TC.seq (TC.region (TL.opV rfl (op_loadS tst_sealskinref03_Wide rfl m0 rfl) ?_)))))))
   refine TL.opX rfl (OpX.callX en_51 rfl (close_x _ _ _ _ hclb rw1 rw2)) ?_; rintro _ _ ⟨w9, rfl, rfl⟩
   refine TL.opP rfl (op_assign rfl) (TL.opP rfl (op_assign rfl) (TL.nil (TQ.then (TC.ret ?_))))
   refine ret2 rfl rfl rfl (fun w' hp => ?_)
   first
     | (have hbad : applyBad e s := applyBad_of (by first | exact .inl c1 | exact .inr c2)
        exact ⟨_, _, rfl, ⟨.slice none 0 0, by rw [(inv_bad hbad).1], by rw [(inv_bad hbad).2]; rfl⟩, new_nil _ 3 (hp.drop7.drop6.drop5.drop4.drop3.drop2.drop1)⟩)
     | exact ⟨_, _, rfl, ⟨_, by rw [lE], by rw [← hlaw]⟩, (hp.drop7.drop6.drop5.drop4.drop3.drop2.drop1)⟩


end Go.SK
