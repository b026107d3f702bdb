/- Walks: layer 12, texts, and what is put. -/
import Derived.Test.YtpomdenbgdgbhaaDoorE68
import Derived.Test.YtpomdenbgdgbhaaDoorML
set_option linter.unusedVariables false
set_option linter.unusedSimpArgs false
set_option maxRecDepth 100000
namespace Go.SK
open Go Go.RowKit Go.Proofs
variable {S : Nat → Prop} {w0 : World} {F L : List Res}
def txE (s : ByteArray) : Int := if valid s = false then 21 else if 4096 < (dec s).length then 4 else 0
def txF (s : ByteArray) : List Int := if txE s = 0 then dec s else []
theorem txE_a {s : ByteArray} (h : valid s = false) : txE s = 21 := if_pos h
theorem txE_b {s : ByteArray} (h : valid s = true) (h2 : 4096 < (dec s).length) : txE s = 4 := (if_neg (by rw [h]; decide)).trans (if_pos h2)
theorem txE_c {s : ByteArray} (h : valid s = true) (h2 : ¬ 4096 < (dec s).length) : txE s = 0 := (if_neg (by rw [h]; decide)).trans (if_neg h2)
theorem txF_no {s : ByteArray} (h : txE s ≠ 0) : txF s = [] := if_neg h
theorem txF_is {s : ByteArray} (h : txE s = 0) : txF s = dec s := if_pos h
theorem mrunes_x (s : ByteArray) (hs : s.size ≤ 70368744177664) (hT : tabs ∈ L) :
    CallX Tryd.prog 88 [.string s] S w0 (L) (fun u L' => ∃ v, u = .tuple #[v, .int .i64 (txE s)] ∧ L' = .rd v 1 (txF s).length ((txF s).map (Value.int .i32)) :: L) := by
 intro w hp
 have hdl := dec_len s
 refine calls_start Tryd.func88 rfl rfl rfl (hp) ?_
 refine TC.seq (TC.region (TL.as rfl rfl (TL.as rfl rfl (TL.nil (TQ.then (TC.seq (TC.block (TC.seq (TC.region (TL.mv rfl rfl (TL.callq rfl en_18 rfl (fun w2 hp => valid_calls s w2 (tabs_at hp hT) (by omega)) (TL.opP rfl (op_not rfl rfl) (TL.as rfl rfl (TL.nil (TQ.then ?_)))))))))))))))
 refine TC.sp rfl (fun c1 => ?_) (fun c1 => ?_)
 ·have hv : valid s = false := by simpa using c1
  refine TC.seq (TC.region (TL.as rfl rfl (TL.as rfl rfl (TL.nil (TQ.then (TC.ret (TQ.block_ret (TQ.then_ret ?_))))))))
  refine ret2 rfl rfl rfl (fun w' hp => ?_)
  exact ⟨_, _, rfl, ⟨nilS, by rw [txE_a hv], rfl⟩, by (rw [txF_no (by rw [txE_a hv]; decide)]; exact rd_nil 0 1 (hp))⟩
 ·have hv : valid s = true := by simpa using c1
  refine TC.seq (TC.region (TL.mv rfl rfl (TL.callq rfl en_32 rfl (fun w2 hp => rcount_calls s w2 (by omega)) ?_)))
  rw [rcount_dec]
  refine TL.opP rfl (op_gtr rfl rfl) (TL.as rfl rfl (TL.nil (TQ.then ?_)))
  refine TC.sp rfl (fun c2 => ?_) (fun c2 => ?_)
  ·refine TC.seq (TC.region (TL.as rfl rfl (TL.as rfl rfl (TL.nil (TQ.then (TC.ret (TQ.block_ret (TQ.then_ret ?_))))))))
   refine ret2 rfl rfl rfl (fun w' hp => ?_)
   exact ⟨_, _, rfl, ⟨nilS, by rw [txE_b hv (by omega)], rfl⟩, by (rw [txF_no (by rw [txE_b hv (by omega)]; decide)]; exact rd_nil 0 1 (hp))⟩
  ·refine TC.skip (TQ.block_normal (TQ.then (TC.seq (TC.region (TL.opP rfl (op_move rfl) ?_)))))
   refine TL.opX rfl (OpX.runes un_string tsl_int32 un_int32 rfl (by omega)) ?_; rintro v1 _ rfl
   refine TL.know (fun _ h => row1 h) (fun o1 => (TL.as rfl rfl (TL.as rfl rfl (TL.nil (TQ.then (TC.ret ?_))))))
   refine ret2 rfl rfl rfl (fun w' hp => ?_)
   exact ⟨_, _, rfl, ⟨_, by rw [txE_c hv (by omega)], rfl⟩, by (rw [txF_is (txE_c hv (by omega))]; exact row_rd (hp))⟩

theorem pat_eqo (o : Option Addr) (w : World) : (binOp .eql 66 (.pointer o) (.pointer none)).run Tryd.prog w = .ok (.bool (decide (o = none))) w := by cases o <;> kernel_rfl
theorem mgroups_x (lv : Value) (a G : Nat) (hpat : Bkb L a (.cells [lv, .int .i64 (G : Int), .bool true].toArray 81 (0, 0))) :
    CallX Tryd.prog 56 [ptrV a] S w0 (L) (fun u L' => u = .int .i64 (G : Int) ∧ L' = L) := by
 intro w hp
 refine calls_start Tryd.func56 rfl rfl rfl (hp) ?_
 refine TC.seq (TC.region (TL.as rfl rfl (TL.nil (TQ.then (TC.seq (TC.seq (TC.region (TL.mv rfl rfl (TL.opP rfl (op_eqPtr rfl (pat_eqo _)) (TL.nil (TQ.then ?_)))))))))))
 refine TC.sp rfl (fun c1 => ?_) (fun c1 => ?_)
 ·cases c1
 ·refine TC.skip (TQ.then (TC.seq (TC.region (TL.mv rfl rfl (TL.opP rfl (op_nilCheck rfl) (TL.opP rfl (op_field fld_match_Pattern_groups rfl) (TL.opV rfl (op_loadB ts_int rfl hpat rfl) (TL.as rfl rfl (TL.nil (TQ.then (TC.ret ?_)))))))))))
  refine ret1 rfl rfl (fun w' hp => ?_)
  exact ⟨_, _, rfl, ⟨rfl, rfl⟩, (hp)⟩

theorem fill_c {tx f w : List Int} {i : Nat} (hi : i < w.length) (h : w.getD i 0 ≠ 36 ∨ i + 1 = w.length) : fillGo tx f (w.drop i) = w.getD i 0 :: fillGo tx f (w.drop (i + 1)) := by
  by_cases h1 : i + 1 = w.length
  · rw [fill_end h1, List.drop_of_length_le (by omega), fillGo]
  · rw [fill_two (by omega), if_neg (h.resolve_right h1)]
theorem fill_on {tx f w out : List Int} {i j : Nat} {x : List Int} (h : out ++ fillGo tx f (w.drop i) = fillGo tx f w) (e : fillGo tx f (w.drop i) = x ++ fillGo tx f (w.drop j)) : (out ++ x) ++ fillGo tx f (w.drop j) = fillGo tx f w := by rw [← h, e, List.append_assoc]
theorem ints_oneK {kd : IntKind} (ns : List Int) : ∀ u ∈ ns.map (Value.int kd), u.oneCell' = true := ints_one ns
theorem i32_one1 (c : Int) : ∀ u ∈ [Value.int .i32 c], u.oneCell' = true := ints_one [c]
theorem i32_one2 (c d : Int) : ∀ u ∈ [Value.int .i32 c, Value.int .i32 d], u.oneCell' = true := ints_one [c, d]
theorem mfill_x (wt tx f : List Int) (wv tv fv : Value) (g p0 : Nat) (hw : Rdb L wv 1 wt.length (wt.map (Value.int .i32))) (ht : Rdb L tv 1 tx.length (tx.map (Value.int .i32))) (hf : Rdb L fv 1 f.length (ints f)) (hF : Fnd tx.length g p0 f) (hg : g ≤ 200) (hwl : wt.length ≤ 4096) (htl : tx.length ≤ 4096) :
    CallX Tryd.prog 91 [wv, tv, fv] S w0 (L) (fun u L' => u = .string (enc (fillGo tx f wt)) ∧ L' = L) := by
 intro w hp
 have hfl := hF.len
 have hbd := fillGo_len tx f wt
 have hbd2 : (fillGo tx f wt).length ≤ 4096 * 4097 := Nat.le_trans hbd (Nat.mul_le_mul hwl (by omega))
 refine calls_start Tryd.func91 rfl rfl rfl (hp) ?_
 refine TC.seq (TC.region (TL.as rfl rfl (TL.nil (TQ.then (TC.seq (TC.region (TL.as rfl rfl (TL.nil (TQ.then (TC.seq (TC.seq (TC.region (TL.as rfl rfl (TL.nil (TQ.then (TC.block (TC.hp (fun _ h => new_nil 21 1 h) (TC.loop (ι := Nat × List Int × Value) (fun (i, out, ov) => [(0, wv), (1, tv), (2, fv), (7, ov), (8, .int .i64 (i : Int))]) (fun (i, out, ov) => .row ov 21 1 (out).length ((out).map (Value.int .i32)) :: L) (fun (i, out, ov) => i ≤ wt.length ∧ ov.oneCell' = true ∧ out ++ fillGo tx f (wt.drop i) = fillGo tx f wt) (fun (i, out, ov) => wt.length - i) ((0, [], .slice none 0 0)) (⟨Nat.zero_le _, rfl, rfl⟩) ⟨rfl, rfl, rfl, rfl, rfl, trivial⟩ (fun _ h => h) ?_))))))))))))))))))
 rintro ⟨i, out, ov⟩ ⟨hi, hov, hout⟩
 have hol : out.length ≤ 4096 * 4097 := by have := congrArg List.length hout; rw [List.length_append] at this; omega
 show TC _ _ _ _ [(0, wv), (1, tv), (2, fv), (7, ov), (8, .int .i64 (i : Int))] _ _ (.row ov 21 1 (out).length ((out).map (Value.int .i32)) :: L)
 refine TC.seq (TC.seq (TC.region (TL.mv rfl rfl (TL.mv rfl rfl (TL.opV rfl (op_lenV rfl un_sl_int32 rfl hw.cons) (TL.opP rfl (op_lss rfl rfl) (TL.nil (TQ.then ?_))))))))
 refine TC.sp rfl (fun c1 => ?_) (fun c1 => ?_)
 ·refine TC.skip (TQ.then (TC.seq (TC.block (TC.seq (TC.region (TL.mv rfl rfl (TL.mv rfl rfl (TL.opV rfl (op_index tsl_int32 rfl hw.cons rfl (by omega) (by omega)) (TL.opV rfl (op_loadR ts_int32 rfl hw.cons (lkM (i := i) (d := 0) (by omega) rfl (by omega))) (TL.as rfl rfl (TL.nil (TQ.then (TC.seq (TC.seq (TC.region (TL.mv rfl rfl (TL.opP rfl (op_neq rfl rfl) (TL.opP rfl (op_move rfl) ?_))))))))))))))))))
  refine TL.sp (fun c2 => ?_) (fun c2 => ?_)
  ·refine TL.gFt rfl rfl rfl (TL.gFt rfl rfl rfl (TL.gFt rfl rfl rfl (TL.gFt rfl rfl rfl (TL.gFt rfl rfl rfl (TL.opP rfl (op_pickT rfl rfl) (TL.nil (TQ.then (TC.condT rfl (TC.seq (TC.region (TL.mv rfl rfl (TL.opP rfl (op_move rfl) ?_))))))))))))
   refine TL.opX rfl (OpX.buildSlice (ps := #[(0, _)]) rfl (bs_int32_1 _)) ?_; rintro _ _ ⟨g33, rfl, rfl⟩
   refine TL.hp (fun _ h => blk_row (k := 1) (m := 1) h rfl (by decide)) (TL.hp (fun _ h => h.pick1) ?_)
   refine TL.opX rfl (OpX.append (bytes := 4) tsl_int32 (by decide) (by decide) rfl rw1 (i32_one1 _) (by omega) (zs := (out ++ [wt.getD i 0]).map (Value.int .i32)) (by rw [List.map_append]; rfl)) ?_; rintro v1 _ rfl
   refine TL.know (fun _ h => row1 h) (fun o1 => (TL.hp (fun _ h => row_lenM h) (TL.as rfl rfl (TL.nil (TQ.then (TC.exit (TQ.then_exit (TQ.block_hit (TQ.then (TC.region (TL.mv rfl rfl (TL.opP rfl (op_add rfl rfl rfl (by omega) (by omega)) (TL.as rfl rfl (TL.nil ?_))))))))))))))
   exact TQ.round (i + 1, out ++ [wt.getD i 0], v1) (⟨by omega, by assumption, fill_on hout (fill_c (by omega) (.inl c2))⟩) (by show _ - _ < _ - i; omega) ⟨rfl, rfl, rfl, rfl, rfl, trivial⟩ (fun _ h => h.drop1)
  ·have c2' : wt.getD i 0 = 36 := by omega
   refine TL.gT rfl rfl (TL.mv rfl rfl (TL.gT rfl rfl (TL.opP rfl (op_add rfl rfl rfl (by omega) (by omega)) (TL.gT rfl rfl (TL.mv rfl rfl (TL.gT rfl rfl (TL.opV rfl (op_lenV rfl un_sl_int32 rfl hw.cons) (TL.gT rfl rfl (TL.opP rfl (op_eql rfl rfl) (TL.opP rfl (op_pickF rfl rfl) (TL.nil (TQ.then ?_))))))))))))
   refine TC.sp rfl (fun c3 => ?_) (fun c3 => ?_)
   ·refine TC.seq (TC.region (TL.mv rfl rfl (TL.opP rfl (op_move rfl) ?_)))
    refine TL.opX rfl (OpX.buildSlice (ps := #[(0, _)]) rfl (bs_int32_1 _)) ?_; rintro _ _ ⟨g33, rfl, rfl⟩
    refine TL.hp (fun _ h => blk_row (k := 1) (m := 1) h rfl (by decide)) (TL.hp (fun _ h => h.pick1) ?_)
    refine TL.opX rfl (OpX.append (bytes := 4) tsl_int32 (by decide) (by decide) rfl rw1 (i32_one1 _) (by omega) (zs := (out ++ [wt.getD i 0]).map (Value.int .i32)) (by rw [List.map_append]; rfl)) ?_; rintro v2 _ rfl
    refine TL.know (fun _ h => row1 h) (fun o2 => (TL.hp (fun _ h => row_lenM h) (TL.as rfl rfl (TL.nil (TQ.then (TC.exit (TQ.then_exit (TQ.block_hit (TQ.then (TC.region (TL.mv rfl rfl (TL.opP rfl (op_add rfl rfl rfl (by omega) (by omega)) (TL.as rfl rfl (TL.nil ?_))))))))))))))
    exact TQ.round (i + 1, out ++ [wt.getD i 0], v2) (⟨by omega, by assumption, fill_on hout (fill_c (by omega) (.inr (by omega)))⟩) (by show _ - _ < _ - i; omega) ⟨rfl, rfl, rfl, rfl, rfl, trivial⟩ (fun _ h => h.drop1)
   ·refine TC.skip (TQ.then (TC.seq (TC.region (TL.mv rfl rfl (TL.opP rfl (op_add (r := ((i + 1 : Nat) : Int)) rfl rfl (by omega) (by omega) (by omega)) (TL.as rfl rfl (TL.nil (TQ.then (TC.seq (TC.region (TL.mv rfl rfl (TL.mv rfl rfl (TL.opV rfl (op_index tsl_int32 rfl hw.cons rfl (by omega) (by omega)) (TL.opV rfl (op_loadR ts_int32 rfl hw.cons (lkM (i := i + 1) (d := 0) (by omega) rfl (by omega))) (TL.as rfl rfl (TL.nil (TQ.then (TC.block (TC.seq (TC.region (TL.mv rfl rfl (TL.opP rfl (op_eql rfl rfl) (TL.as rfl rfl (TL.nil (TQ.then ?_)))))))))))))))))))))))))
    refine TC.sp rfl (fun c4 => ?_) (fun c4 => ?_)
    ·refine TC.region (TL.mv rfl rfl (TL.opP rfl (op_move rfl) ?_))
     refine TL.opX rfl (OpX.buildSlice (ps := #[(0, _)]) rfl (bs_int32_1 _)) ?_; rintro _ _ ⟨g51, rfl, rfl⟩
     refine TL.hp (fun _ h => blk_row (k := 1) (m := 1) h rfl (by decide)) (TL.hp (fun _ h => h.pick1) ?_)
     refine TL.opX rfl (OpX.append (bytes := 4) tsl_int32 (by decide) (by decide) rfl rw1 (i32_one1 _) (by omega) (zs := (out ++ [(wt.getD (i + 1) 0)]).map (Value.int .i32)) (by rw [List.map_append]; rfl)) ?_; rintro v3 _ rfl
     refine TL.know (fun _ h => row1 h) (fun o3 => (TL.hp (fun _ h => row_lenM h) (TL.as rfl rfl (TL.nil (TQ.block_normal (TQ.block_normal (TQ.then (TC.region (TL.mv rfl rfl (TL.opP rfl (op_add rfl rfl rfl (by omega) (by omega)) (TL.as rfl rfl (TL.nil ?_))))))))))))
     exact TQ.round (i + 1 + 1, out ++ [(wt.getD (i + 1) 0)], v3) (⟨by omega, by assumption, fill_on hout (by rw [fill_two (by omega), if_pos c2', if_pos c4, c4]; rfl)⟩) (by show _ - _ < _ - i; omega) ⟨rfl, rfl, rfl, rfl, rfl, trivial⟩ (fun _ h => h.drop1)
    ·refine TC.seq (TC.region (TL.mv rfl rfl (TL.opP rfl (op_geq rfl rfl) (TL.opP rfl (op_move rfl) ?_))))
     refine TL.sp (fun c5 => ?_) (fun c5 => ?_)
     ·refine TL.gT rfl rfl (TL.mv rfl rfl (TL.gT rfl rfl (TL.opP rfl (op_leq rfl rfl) (TL.opP rfl (op_pickT rfl rfl) (TL.as rfl rfl (TL.nil (TQ.then ?_)))))))
      refine TC.sp rfl (fun c6 => ?_) (fun c6 => ?_)
      ·obtain ⟨q, hq⟩ : ∃ q : Nat, (wt.getD (i + 1) 0) = q + 48 := ⟨((wt.getD (i + 1) 0) - 48).toNat, by omega⟩
       have hq2 : ((wt.getD (i + 1) 0) - 48).toNat = q := by omega
       have hft : fillGo tx f (wt.drop i) = grpT tx f q ++ fillGo tx f (wt.drop (i + 1 + 1)) := by rw [fill_two (by omega), if_pos c2', if_neg c4, if_pos ⟨by omega, by omega⟩, hq2]
       refine TC.seq (TC.region (TL.mv rfl rfl (TL.opP rfl (op_subK rfl rfl) (TL.opP rfl (op_int un_int rfl rfl) ?_))))
       rw [wrap_rune (by omega) (by omega)]
       refine TL.opP rfl (op_mul (r := ((2 * q : Nat) : Int)) rfl rfl (by omega) (by omega) (by omega)) (TL.as rfl rfl (TL.nil (TQ.then (TC.seq (TC.region (TL.mv rfl rfl (TL.mv rfl rfl (TL.opV rfl (op_lenV rfl un_sl_int rfl hf.cons) (TL.opP rfl (op_lss rfl rfl) (TL.opP rfl (op_move rfl) ?_))))))))))
       refine TL.sp (fun c7 => ?_) (fun c7 => ?_)
       ·refine TL.gT rfl rfl (TL.mv rfl rfl (TL.gT rfl rfl (TL.mv rfl rfl (TL.gT rfl rfl (TL.opV rfl (op_index tsl_int rfl hf.cons rfl (by omega) (by omega)) (TL.gT rfl rfl (TL.opV rfl (op_loadR ts_int rfl hf.cons (lkM (f := Value.int .i64) (i := 2 * q) (d := 0) (by omega) rfl (by omega))) (TL.gT rfl rfl (TL.opP rfl (op_geq rfl rfl) (TL.opP rfl (op_pickT rfl rfl) (TL.opP rfl (op_move rfl) ?_)))))))))))
        refine TL.sp (fun c8 => ?_) (fun c8 => ?_)
        ·refine TL.gT rfl rfl (TL.mv rfl rfl (TL.gT rfl rfl (TL.mv rfl rfl (TL.gT rfl rfl (TL.opP rfl (op_add (r := ((2 * q + 1 : Nat) : Int)) rfl rfl (by omega) (by omega) (by omega)) (TL.gT rfl rfl (TL.opV rfl (op_index tsl_int rfl hf.cons rfl (by omega) (by omega)) (TL.gT rfl rfl (TL.opV rfl (op_loadR ts_int rfl hf.cons (lkM (f := Value.int .i64) (i := 2 * q + 1) (d := 0) (by omega) rfl (by omega))) (TL.gT rfl rfl (TL.opP rfl (op_geq rfl rfl) (TL.opP rfl (op_pickT rfl rfl) (TL.nil (TQ.then ?_))))))))))))))
         refine TC.sp rfl (fun c9 => ?_) (fun c9 => ?_)
         ·have hok := hF.grp q (by omega)
          have hv1 := hF.val _ (getD_mem' (l := f) (i := 2 * q) (by omega))
          have hv2 := hF.val _ (getD_mem' (l := f) (i := 2 * q + 1) (by omega))
          unfold okG at hok
          obtain ⟨x, hx⟩ : ∃ x : Nat, f.getD (2 * q) 0 = x := ⟨(f.getD (2 * q) 0).toNat, by omega⟩
          obtain ⟨y, hy⟩ : ∃ y : Nat, f.getD (2 * q + 1) 0 = y := ⟨(f.getD (2 * q + 1) 0).toNat, by omega⟩
          have hgt : grpT tx f q = (tx.drop x).take (y - x) := by unfold grpT; rw [if_pos ⟨by omega, by omega, by omega⟩, hx, hy]; rfl
          refine TC.draw [12] (.cons (.p, 0) (.cons (.p, 1) (.cons (.p, 2) (.cons (.p, 3) (.cons (.p, 6) (.cons (.p, 7) (.cons (.p, 8) (.cons (.t, 4) (.cons (.t, 5) (.cons (.t, 9) (.cons (.t, 10) (.cons (.t, 11) (.cons (.z, 12) (.cons (.p, 13) (.nil))))))))))))))) mo (by kernel_rfl) (TR.p rfl rfl wt0 (op_move rfl) (TR.p rfl rfl wt0 (op_move rfl) (TR.p rfl rfl wt0 (op_move rfl) (TR.p rfl rfl wt0 (op_move rfl) (TR.p rfl rfl wt0 (op_move rfl) (TR.p rfl rfl wt0 (op_move rfl) (TR.p rfl rfl wt0 (op_add (r := ((2 * q + 1 : Nat) : Int)) rfl rfl (by omega) (by omega) (by omega)) (TR.t rfl rfl wt0 (op_index tsl_int rfl hf.cons rfl (by omega) (by omega)) (fun _ h => h) (TR.t rfl rfl wt0 (op_loadR ts_int rfl hf.cons (lkM (f := Value.int .i64) (i := 2 * q) (d := 0) (by omega) rfl (by omega))) (fun _ h => h) ?_)))))))))
          refine TR.t rfl rfl wt0 (op_index tsl_int rfl hf.cons rfl (by omega) (by omega)) (fun _ h => h) (TR.t rfl rfl wt0 (op_loadR ts_int rfl hf.cons (lkM (f := Value.int .i64) (i := 2 * q + 1) (d := 0) (by omega) rfl (by omega))) (fun _ h => h) (TR.t rfl rfl wt0 (op_cut x y tsl_int32 rfl ht.cons (vlo := (some _)) (vhi := (some _)) rfl rfl (.inr ⟨_, _, rfl, by omega⟩) (.inr ⟨_, _, rfl, by omega⟩) (by omega) (by omega)) (fun _ h => h) ?_))
          refine TR.z rfl rfl wt0 (OpX.append (bytes := 4) tsl_int32 (by decide) (by decide) rfl (ints_cut ht.cons x y (by omega) (by omega)) (ints_oneK _) (by omega) (zs := (out ++ grpT tx f q).map (Value.int .i32)) (by rw [List.map_append, hgt])) ?_; rintro v4 _ rfl
          refine TR.know (fun _ h => row1 h) (fun o4 => (TR.hp (fun _ h => row_lenM h) (TR.p rfl rfl wt0 (op_assign rfl) (TR.nil (TQ.block_normal (TQ.block_normal (TQ.then (TC.region (TL.mv rfl rfl (TL.opP rfl (op_add rfl rfl rfl (by omega) (by omega)) (TL.as rfl rfl (TL.nil ?_))))))))))))
          exact TQ.round (i + 1 + 1, out ++ grpT tx f q, v4) (⟨by omega, by assumption, fill_on hout hft⟩) (by show _ - _ < _ - i; omega) ⟨rfl, rfl, rfl, rfl, rfl, trivial⟩ (fun _ h => h)
         ·refine TC.skip (TQ.block_normal (TQ.block_normal (TQ.then (TC.region (TL.mv rfl rfl (TL.opP rfl (op_add rfl rfl rfl (by omega) (by omega)) (TL.as rfl rfl (TL.nil ?_))))))))
          exact TQ.round (i + 1 + 1, out, ov) (⟨by omega, by assumption, by rw [← hout, hft, show grpT tx f q = [] from if_neg (by omega)]; rfl⟩) (by show _ - _ < _ - i; omega) ⟨rfl, rfl, rfl, rfl, rfl, trivial⟩ (fun _ h => h)
        ·refine TL.gFf rfl rfl rfl (TL.gFf rfl rfl rfl (TL.gFf rfl rfl rfl (TL.gFf rfl rfl rfl (TL.gFf rfl rfl rfl (TL.gFf rfl rfl rfl (TL.opP rfl (op_pickF rfl rfl) (TL.nil (TQ.then (TC.condF rfl (TC.skip (TQ.block_normal (TQ.block_normal (TQ.then (TC.region (TL.mv rfl rfl (TL.opP rfl (op_add rfl rfl rfl (by omega) (by omega)) (TL.as rfl rfl (TL.nil ?_))))))))))))))))))
         exact TQ.round (i + 1 + 1, out, ov) (⟨by omega, by assumption, by rw [← hout, hft, show grpT tx f q = [] from if_neg (by omega)]; rfl⟩) (by show _ - _ < _ - i; omega) ⟨rfl, rfl, rfl, rfl, rfl, trivial⟩ (fun _ h => h)
       ·refine TL.gFf rfl rfl rfl (TL.gFf rfl rfl rfl (TL.gFf rfl rfl rfl (TL.gFf rfl rfl rfl (TL.gFf rfl rfl rfl (TL.opP rfl (op_pickF rfl rfl) (TL.mv rfl rfl (TL.gFf rfl rfl rfl (TL.gFf rfl rfl rfl (TL.gFf rfl rfl rfl (TL.gFf rfl rfl rfl (TL.gFf rfl rfl rfl (TL.gFf rfl rfl rfl (TL.opP rfl (op_pickF rfl rfl) (TL.nil (TQ.then (TC.condF rfl (TC.skip (TQ.block_normal (TQ.block_normal (TQ.then (TC.region (TL.mv rfl rfl (TL.opP rfl (op_add rfl rfl rfl (by omega) (by omega)) (TL.as rfl rfl (TL.nil ?_)))))))))))))))))))))))))
        exact TQ.round (i + 1 + 1, out, ov) (⟨by omega, by assumption, by rw [← hout, hft, show grpT tx f q = [] from if_neg (by omega)]; rfl⟩) (by show _ - _ < _ - i; omega) ⟨rfl, rfl, rfl, rfl, rfl, trivial⟩ (fun _ h => h)
      ·refine TC.region (TL.mv rfl rfl (TL.mv rfl rfl (TL.opP rfl (op_move rfl) ?_)))
       refine TL.opX rfl (OpX.buildSlice (ps := #[(0, _), (1, _)]) rfl (bs_int32_2 _ _)) ?_; rintro _ _ ⟨g44, rfl, rfl⟩
       refine TL.hp (fun _ h => blk_row (k := 1) (m := 2) h rfl (by decide)) (TL.hp (fun _ h => h.pick1) ?_)
       refine TL.opX rfl (OpX.append (bytes := 4) tsl_int32 (by decide) (by decide) rfl rw1 (i32_one2 _ _) (by omega) (zs := (out ++ [wt.getD i 0, (wt.getD (i + 1) 0)]).map (Value.int .i32)) (by rw [List.map_append]; rfl)) ?_; rintro v5 _ rfl
       refine TL.know (fun _ h => row1 h) (fun o5 => (TL.hp (fun _ h => row_lenM h) (TL.as rfl rfl (TL.nil (TQ.block_normal (TQ.block_normal (TQ.then (TC.region (TL.mv rfl rfl (TL.opP rfl (op_add rfl rfl rfl (by omega) (by omega)) (TL.as rfl rfl (TL.nil ?_))))))))))))
       exact TQ.round (i + 1 + 1, out ++ [wt.getD i 0, (wt.getD (i + 1) 0)], v5) (⟨by omega, by assumption, fill_on hout (by rw [fill_two (by omega), if_pos c2', if_neg c4, if_neg (by omega)]; rfl)⟩) (by show _ - _ < _ - i; omega) ⟨rfl, rfl, rfl, rfl, rfl, trivial⟩ (fun _ h => h.drop1)
     ·refine TL.gFf rfl rfl rfl (TL.gFf rfl rfl rfl (TL.opP rfl (op_pickF rfl rfl) (TL.as rfl rfl (TL.nil (TQ.then (TC.condF rfl (TC.region (TL.mv rfl rfl (TL.mv rfl rfl (TL.opP rfl (op_move rfl) ?_))))))))))
      refine TL.opX rfl (OpX.buildSlice (ps := #[(0, _), (1, _)]) rfl (bs_int32_2 _ _)) ?_; rintro _ _ ⟨g44, rfl, rfl⟩
      refine TL.hp (fun _ h => blk_row (k := 1) (m := 2) h rfl (by decide)) (TL.hp (fun _ h => h.pick1) ?_)
      refine TL.opX rfl (OpX.append (bytes := 4) tsl_int32 (by decide) (by decide) rfl rw1 (i32_one2 _ _) (by omega) (zs := (out ++ [wt.getD i 0, (wt.getD (i + 1) 0)]).map (Value.int .i32)) (by rw [List.map_append]; rfl)) ?_; rintro v6 _ rfl
      refine TL.know (fun _ h => row1 h) (fun o6 => (TL.hp (fun _ h => row_lenM h) (TL.as rfl rfl (TL.nil (TQ.block_normal (TQ.block_normal (TQ.then (TC.region (TL.mv rfl rfl (TL.opP rfl (op_add rfl rfl rfl (by omega) (by omega)) (TL.as rfl rfl (TL.nil ?_))))))))))))
      exact TQ.round (i + 1 + 1, out ++ [wt.getD i 0, (wt.getD (i + 1) 0)], v6) (⟨by omega, by assumption, fill_on hout (by rw [fill_two (by omega), if_pos c2', if_neg c4, if_neg (by omega)]; rfl)⟩) (by show _ - _ < _ - i; omega) ⟨rfl, rfl, rfl, rfl, rfl, trivial⟩ (fun _ h => h.drop1)
 ·refine TC.exit (TQ.then_exit (TQ.loop_exit (TQ.block_hit (TQ.then (TC.seq (TC.region (TL.mv rfl rfl (TL.opV rfl (op_unrunes tsl_int32 un_int32 un_string rfl rw0) (TL.as rfl rfl (TL.nil (TQ.then (TC.ret ?_))))))))))))
  refine ret1 rfl rfl (fun w' hp => ?_)
  exact ⟨_, _, rfl, ⟨by (rw [List.drop_of_length_le (by omega), fillGo, List.append_nil] at hout; rw [hout]), rfl⟩, (hp.tail)⟩

end Go.SK
