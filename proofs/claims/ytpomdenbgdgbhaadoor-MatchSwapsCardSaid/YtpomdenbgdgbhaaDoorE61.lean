/- Walks: layer 12, the program's reader. -/
import Derived.Test.YtpomdenbgdgbhaaDoorE60
set_option linter.unusedVariables false
set_option linter.unusedSimpArgs false
set_option maxRecDepth 100000
namespace Go.SK
open Go Go.RowKit Go.Proofs
variable {S : Nat → Prop} {w0 : World} {F L : List Res}
theorem bl_ar2_int32_01 (a0 a1 : Value) (h0 : a0.oneCell' = true := by first | rfl | assumption) (h1 : a1.oneCell' = true := by first | rfl | assumption) : ∀ w, (Instr.build 212 #[(0, a0), (1, a1)]).run Tryd.prog w = .ok (.agg #[a0, a1]) w := by
  (cases a0 <;> first | (cases h0; done) | skip) <;> (cases a1 <;> first | (cases h1; done) | skip) <;> (intro w; kernel_rfl)
abbrev spV (a : Int × Int) : Value := .agg #[.int .i32 a.1, .int .i32 a.2]
theorem bs_match_span_1 (a : Int × Int) : ∀ w : World, (Instr.buildSlice 154 1 #[(0, spV a)]).run Tryd.prog w = .ok (.slice (some ⟨w.heap.size, 0, none⟩) 1 1) (w.alloc (.cells (spC [a]).toArray 210 (0, 0))) := by
  intro w; kernel_rfl
theorem bs_match_span_2 (a b : Int × Int) : ∀ w : World, (Instr.buildSlice 154 2 #[(0, spV a), (1, spV b)]).run Tryd.prog w = .ok (.slice (some ⟨w.heap.size, 0, none⟩) 2 2) (w.alloc (.cells (spC [a, b]).toArray 210 (0, 0))) := by
  intro w; kernel_rfl
theorem bs_match_span_4 (a b c d : Int × Int) : ∀ w : World, (Instr.buildSlice 154 4 #[(0, spV a), (1, spV b), (2, spV c), (3, spV d)]).run Tryd.prog w = .ok (.slice (some ⟨w.heap.size, 0, none⟩) 4 4) (w.alloc (.cells (spC [a, b, c, d]).toArray 210 (0, 0))) := by
  intro w; kernel_rfl
theorem bs_ar2_int32_1 (a : Int × Int) : ∀ w : World, (Instr.buildSlice 127 1 #[(0, spV a)]).run Tryd.prog w = .ok (.slice (some ⟨w.heap.size, 0, none⟩) 1 1) (w.alloc (.cells (spC [a]).toArray 212 (0, 0))) := by
  intro w; kernel_rfl
theorem bs_ar2_int32_2 (a b : Int × Int) : ∀ w : World, (Instr.buildSlice 127 2 #[(0, spV a), (1, spV b)]).run Tryd.prog w = .ok (.slice (some ⟨w.heap.size, 0, none⟩) 2 2) (w.alloc (.cells (spC [a, b]).toArray 212 (0, 0))) := by
  intro w; kernel_rfl
theorem bs_ar2_int32_4 (a b c d : Int × Int) : ∀ w : World, (Instr.buildSlice 127 4 #[(0, spV a), (1, spV b), (2, spV c), (3, spV d)]).run Tryd.prog w = .ok (.slice (some ⟨w.heap.size, 0, none⟩) 4 4) (w.alloc (.cells (spC [a, b, c, d]).toArray 212 (0, 0))) := by
  intro w; kernel_rfl
theorem pmore_x (l : List Int) (lv : Value) (g i gn : Nat) (hxl : Rdb F lv 1 l.length (l.map (Value.int .i32))) (hln : l.length ≤ 200)  :
    CallX Tryd.prog 126 [.pointer (some ⟨g, 0, none⟩)] S w0 (.blk g (.cells [lv, .int .i64 (((i : Nat) : Int) : Int), .int .i64 (((gn : Nat) : Int) : Int)].toArray 193 (0, 0)) :: F) (fun u L' => u = .bool (decide ((i : Int) < (l.length : Int))) ∧ L' = .blk g (.cells [lv, .int .i64 (((i : Nat) : Int) : Int), .int .i64 (((gn : Nat) : Int) : Int)].toArray 193 (0, 0)) :: F) := by
 intro w hp
 refine calls_start Tryd.func126 rfl rfl rfl (hp) ?_
 refine TC.seq (TC.region (TL.as rfl rfl (TL.nil (TQ.then (TC.seq (TC.draw [] (.cons (.p, 0) (.cons (.p, 1) (.cons (.p, 2) (.cons (.p, 4) (.cons (.p, 5) (.cons (.p, 6) (.cons (.t, 3) (.cons (.t, 7) (.cons (.t, 8) (.cons (.p, 9) (.cons (.p, 10) (.nil)))))))))))) mo (by kernel_rfl) (TR.p rfl rfl wt0 (op_move rfl) (TR.p rfl rfl wt0 (op_nilCheck rfl) (TR.p rfl rfl wt0 (op_field fld_match_reader_at rfl) (TR.p rfl rfl wt0 (op_move rfl) (TR.p rfl rfl wt0 (op_nilCheck rfl) (TR.p rfl rfl wt0 (op_field fld_match_reader_l rfl) (TR.t rfl rfl wt0 (op_load ts_int rfl m0 rfl) (fun _ h => h) (TR.t rfl rfl wt0 (op_load ts_sl_int32 rfl m0 rfl) (fun _ h => h) (TR.t rfl rfl wt0 (op_lenV rfl un_sl_int32 rfl hxl.cons) (fun _ h => h) ?_)))))))))))))))
 refine TR.p rfl rfl wt0 (op_lss rfl rfl) (TR.p rfl rfl wt0 (op_assign rfl) (TR.nil (TQ.then (TC.ret ?_))))
 refine ret1 rfl rfl (fun w' hp => ?_)
 exact ⟨_, _, rfl, ⟨rfl, rfl⟩, (hp)⟩

theorem pnext_x (l : List Int) (lv : Value) (g i gn : Nat) (hxl : Rdb F lv 1 l.length (l.map (Value.int .i32))) (hln : l.length ≤ 200) (hi : i < l.length) :
    CallX Tryd.prog 153 [.pointer (some ⟨g, 0, none⟩)] S w0 (.blk g (.cells [lv, .int .i64 (((i : Nat) : Int) : Int), .int .i64 (((gn : Nat) : Int) : Int)].toArray 193 (0, 0)) :: F) (fun u L' => u = .int .i32 (nx l i) ∧ L' = .blk g (.cells [lv, .int .i64 (((i : Nat) : Int) : Int), .int .i64 (((gn : Nat) : Int) : Int)].toArray 193 (0, 0)) :: F) := by
 intro w hp
 refine calls_start Tryd.func153 rfl rfl rfl (hp) ?_
 refine TC.seq (TC.region (TL.as rfl rfl (TL.nil (TQ.then (TC.seq (TC.draw [] (.cons (.p, 0) (.cons (.p, 1) (.cons (.p, 2) (.cons (.p, 4) (.cons (.p, 5) (.cons (.p, 6) (.cons (.t, 3) (.cons (.t, 7) (.cons (.t, 8) (.cons (.t, 9) (.cons (.p, 10) (.nil)))))))))))) mo (by kernel_rfl) (TR.p rfl rfl wt0 (op_move rfl) (TR.p rfl rfl wt0 (op_nilCheck rfl) (TR.p rfl rfl wt0 (op_field fld_match_reader_l rfl) (TR.p rfl rfl wt0 (op_move rfl) (TR.p rfl rfl wt0 (op_nilCheck rfl) (TR.p rfl rfl wt0 (op_field fld_match_reader_at rfl) (TR.t rfl rfl wt0 (op_load ts_sl_int32 rfl m0 rfl) (fun _ h => h) (TR.t rfl rfl wt0 (op_load ts_int rfl m0 rfl) (fun _ h => h) (TR.t rfl rfl wt0 (op_index tsl_int32 rfl hxl.cons rfl (by omega) (by omega)) (fun _ h => h) ?_)))))))))))))))
 refine TR.t rfl rfl wt0 (op_loadR ts_int32 rfl hxl.cons (lkM (i := i) (d := 0) (by omega) rfl (by omega))) (fun _ h => h) (TR.p rfl rfl wt0 (op_assign rfl) (TR.nil (TQ.then (TC.ret ?_))))
 refine ret1 rfl rfl (fun w' hp => ?_)
 exact ⟨_, _, rfl, ⟨by rw [nx_in hi], rfl⟩, (hp)⟩

theorem pis_x (l : List Int) (lv : Value) (g i gn : Nat) (hxl : Rdb F lv 1 l.length (l.map (Value.int .i32))) (hln : l.length ≤ 200) (c : Int) (hc : 0 ≤ c) :
    CallX Tryd.prog 145 [.pointer (some ⟨g, 0, none⟩), .int .i32 c] S w0 (.blk g (.cells [lv, .int .i64 (((i : Nat) : Int) : Int), .int .i64 (((gn : Nat) : Int) : Int)].toArray 193 (0, 0)) :: F) (fun u L' => u = .bool (decide (nx l i = c)) ∧ L' = .blk g (.cells [lv, .int .i64 ((((if nx l i = c then i + 1 else i) : Nat) : Int) : Int), .int .i64 (((gn : Nat) : Int) : Int)].toArray 193 (0, 0)) :: F) := by
 intro w hp
 refine calls_start Tryd.func145 rfl rfl rfl (hp) ?_
 refine TC.seq (TC.region (TL.as rfl rfl (TL.nil (TQ.then (TC.seq (TC.seq (TC.region (TL.opP rfl (op_move rfl) ?_))))))))
 refine TL.opX rfl (OpX.callX en_126 rfl (pmore_x l _ _ _ _ hxl hln)) ?_; rintro _ _ ⟨rfl, rfl⟩
 refine TL.opP rfl (op_not rfl rfl) (TL.opP rfl (op_move rfl) ?_)
 refine TL.sp (fun c1 => ?_) (fun c1 => ?_)
 ·refine TL.gFt rfl rfl rfl (TL.gFt rfl rfl rfl (TL.gFt rfl rfl rfl (TL.gFt rfl rfl rfl (TL.opP rfl (op_pickT rfl rfl) (TL.nil (TQ.then (TC.condT rfl (TC.seq (TC.region (TL.as rfl rfl (TL.nil (TQ.then (TC.ret (TQ.then_ret ?_))))))))))))))
  refine ret1 rfl rfl (fun w' hp => ?_)
  first
    | (have hne : ¬ nx l i = c := by first | omega | (rw [nx_out (by omega)]; omega)
       exact ⟨_, _, rfl, ⟨by rw [decide_eq_false hne], by rw [if_neg hne]⟩, (hp)⟩)
    | (have hne : nx l i = c := by omega
       exact ⟨_, _, rfl, ⟨by rw [decide_eq_true hne], by rw [if_pos hne]; rfl⟩, (hp)⟩)
 ·refine TL.gT rfl rfl (TL.mv rfl rfl (TL.gT rfl rfl ?_))
  refine TL.opX rfl (OpX.callX en_153 rfl (pnext_x l _ _ _ _ hxl hln (by omega))) ?_; rintro _ _ ⟨rfl, rfl⟩
  refine TL.gT rfl rfl (TL.mv rfl rfl (TL.gT rfl rfl (TL.opP rfl (op_neq rfl rfl) (TL.opP rfl (op_pickF rfl rfl) (TL.nil (TQ.then ?_))))))
  refine TC.sp rfl (fun c2 => ?_) (fun c2 => ?_)
  ·refine TC.seq (TC.region (TL.as rfl rfl (TL.nil (TQ.then (TC.ret (TQ.then_ret ?_))))))
   refine ret1 rfl rfl (fun w' hp => ?_)
   first
     | (have hne : ¬ nx l i = c := by first | omega | (rw [nx_out (by omega)]; omega)
        exact ⟨_, _, rfl, ⟨by rw [decide_eq_false hne], by rw [if_neg hne]⟩, (hp)⟩)
     | (have hne : nx l i = c := by omega
        exact ⟨_, _, rfl, ⟨by rw [decide_eq_true hne], by rw [if_pos hne]; rfl⟩, (hp)⟩)
  ·refine TC.skip (TQ.then (TC.seq (TC.region (TL.mv rfl rfl (TL.opP rfl (op_nilCheck rfl) (TL.opP rfl (op_field fld_match_reader_at rfl) (TL.opV rfl (op_load ts_int rfl m0 rfl) ?_)))))))
   refine TL.opP rfl (op_add rfl rfl rfl (by have := hln; omega) (by have := hln; omega)) ?_
   refine TL.opP rfl (op_nilCheck rfl) (TL.opP rfl (op_field fld_match_reader_at rfl) ?_)
   refine TL.opX0 (OpX.store1 ts_int rfl rfl (by first | rfl | assumption) rfl rfl) ?_; rintro _ _ rfl
   refine TL.nil (TQ.then (TC.seq (TC.region (TL.as rfl rfl (TL.nil (TQ.then (TC.ret ?_)))))))
   refine ret1 rfl rfl (fun w' hp => ?_)
   first
     | (have hne : ¬ nx l i = c := by first | omega | (rw [nx_out (by omega)]; omega)
        exact ⟨_, _, rfl, ⟨by rw [decide_eq_false hne], by rw [if_neg hne]⟩, (hp)⟩)
     | (have hne : nx l i = c := by omega
        exact ⟨_, _, rfl, ⟨by rw [decide_eq_true hne], by rw [if_pos hne]; rfl⟩, (hp)⟩)

theorem numGo_out {l : List Int} {f i : Nat} {n : Int} {b : Bool} (h : ¬ (48 ≤ nx l i ∧ nx l i ≤ 57)) : numGo l (f + 1) i n b = (if b then some n else none, i) := by rw [numGo, if_neg h]
theorem numGo_big {l : List Int} {f i : Nat} {n : Int} {b : Bool} (h : 48 ≤ nx l i) (h' : nx l i ≤ 57) (h2 : 100 < 10 * n + (nx l i - 48)) : numGo l (f + 1) i n b = (none, i) := by rw [numGo, if_pos ⟨h, h'⟩, if_pos h2]
theorem numGo_on {l : List Int} {f i : Nat} {n : Int} {b : Bool} (h : 48 ≤ nx l i) (h' : nx l i ≤ 57) (h2 : ¬ 100 < 10 * n + (nx l i - 48)) : numGo l (f + 1) i n b = numGo l f (i + 1) (10 * n + (nx l i - 48)) true := by rw [numGo, if_pos ⟨h, h'⟩, if_neg h2]
theorem wrap_rune {x : Int} (h0 : -1000 ≤ x) (h1 : x ≤ 2000000) : IntKind.i64.wrap (IntKind.i32.wrap x) = x := by rw [IntKind.wrap_i32, IntKind.wrap_i64]; omega
theorem pnum_x (l : List Int) (lv : Value) (g i gn : Nat) (hxl : Rdb F lv 1 l.length (l.map (Value.int .i32))) (hln : l.length ≤ 200) (hi : i ≤ l.length) (o : Option Int) (j : Nat) (hn : numF l i = (o, j)) :
    CallX Tryd.prog 160 [.pointer (some ⟨g, 0, none⟩)] S w0 (.blk g (.cells [lv, .int .i64 (((i : Nat) : Int) : Int), .int .i64 (((gn : Nat) : Int) : Int)].toArray 193 (0, 0)) :: F) (fun u L' => u = .tuple #[.int .i64 (o.getD 0), .bool o.isSome] ∧ L' = .blk g (.cells [lv, .int .i64 (((j : Nat) : Int) : Int), .int .i64 (((gn : Nat) : Int) : Int)].toArray 193 (0, 0)) :: F) := by
 intro w hp
 refine calls_start Tryd.func160 rfl rfl rfl (hp) ?_
 refine TC.seq (TC.region (TL.as rfl rfl (TL.as rfl rfl (TL.nil (TQ.then (TC.seq (TC.region (TL.as rfl rfl (TL.as rfl rfl (TL.nil (TQ.then (TC.seq (TC.block (TC.loop (ι := Nat × Nat × Int × Bool) (fun (f, k, n, b) => [(0, .pointer (some ⟨g, 0, none⟩)), (4, .int .i64 n), (5, .bool b)]) (fun (f, k, n, b) => .blk g (.cells [lv, .int .i64 (((k : Nat) : Int) : Int), .int .i64 (((gn : Nat) : Int) : Int)].toArray 193 (0, 0)) :: F) (fun (f, k, n, b) => k ≤ l.length ∧ l.length < k + f ∧ 0 ≤ n ∧ n ≤ 100 ∧ (b = false → n = 0) ∧ numGo l f k n b = (o, j)) (fun (f, k, n, b) => l.length - k) ((l.length + 1 - i, i, 0, false)) (⟨hi, by omega, by omega, by omega, fun _ => rfl, hn⟩) ⟨rfl, rfl, rfl, trivial⟩ (fun _ h => h) ?_))))))))))))))
 rintro ⟨f, k, n, b⟩ ⟨hk, hf, hn0, hn1, hb, hg⟩
 obtain ⟨f, rfl⟩ : ∃ f', f = f' + 1 := ⟨f - 1, by omega⟩
 show TC _ _ _ _ [(0, .pointer (some ⟨g, 0, none⟩)), (4, .int .i64 n), (5, .bool b)] _ _ (.blk g (.cells [lv, .int .i64 (((k : Nat) : Int) : Int), .int .i64 (((gn : Nat) : Int) : Int)].toArray 193 (0, 0)) :: F)
 refine TC.seq (TC.seq (TC.region (TL.opP rfl (op_move rfl) ?_)))
 refine TL.opX rfl (OpX.callX en_126 rfl (pmore_x l _ _ _ _ hxl hln)) ?_; rintro _ _ ⟨rfl, rfl⟩
 refine TL.opP rfl (op_move rfl) ?_
 refine TL.sp (fun c1 => ?_) (fun c1 => ?_)
 ·refine TL.gT rfl rfl (TL.mv rfl rfl (TL.gT rfl rfl ?_))
  refine TL.opX rfl (OpX.callX en_153 rfl (pnext_x l _ _ _ _ hxl hln (by omega))) ?_; rintro _ _ ⟨rfl, rfl⟩
  refine TL.gT rfl rfl (TL.opP rfl (op_geq rfl rfl) (TL.opP rfl (op_pickT rfl rfl) (TL.opP rfl (op_move rfl) ?_)))
  refine TL.sp (fun c2 => ?_) (fun c2 => ?_)
  ·refine TL.gT rfl rfl (TL.mv rfl rfl (TL.gT rfl rfl ?_))
   refine TL.opX rfl (OpX.callX en_153 rfl (pnext_x l _ _ _ _ hxl hln (by omega))) ?_; rintro _ _ ⟨rfl, rfl⟩
   refine TL.gT rfl rfl (TL.opP rfl (op_leq rfl rfl) (TL.opP rfl (op_pickT rfl rfl) (TL.nil (TQ.then ?_))))
   refine TC.sp rfl (fun c3 => ?_) (fun c3 => ?_)
   ·refine TC.skip (TQ.then (TC.block (TC.seq (TC.region (TL.mv rfl rfl (TL.opP rfl (op_mul rfl rfl rfl (by omega) (by omega)) (TL.opP rfl (op_move rfl) ?_)))))))
    refine TL.opX rfl (OpX.callX en_153 rfl (pnext_x l _ _ _ _ hxl hln (by omega))) ?_; rintro _ _ ⟨rfl, rfl⟩
    refine TL.opP rfl (op_subK rfl rfl) (TL.opP rfl (op_int un_int rfl rfl) ?_)
    rw [wrap_rune (by omega) (by omega)]
    refine TL.opP rfl (op_add rfl rfl rfl (by omega) (by omega)) (TL.as rfl rfl (TL.as rfl rfl (TL.nil (TQ.then (TC.seq (TC.seq (TC.region (TL.mv rfl rfl (TL.opP rfl (op_gtr rfl rfl) (TL.nil (TQ.then ?_)))))))))))
    refine TC.sp rfl (fun c4 => ?_) (fun c4 => ?_)
    ·refine TC.seq (TC.region (TL.as rfl rfl (TL.as rfl rfl (TL.nil (TQ.then (TC.ret (TQ.then_ret (TQ.block_ret (TQ.loop_ret (TQ.block_ret (TQ.then_ret ?_)))))))))))
     refine ret2 rfl rfl rfl (fun w' hp => ?_)
     first
       | (have he := numGo_out (l := l) (f := f) (i := k) (n := n) (b := b) (by first | omega | (rw [nx_out (by omega)]; omega))
          rw [he] at hg
          cases b with
          | true => (simp only [if_true] at hg; cases hg; exact ⟨_, _, rfl, ⟨rfl, rfl⟩, (hp)⟩)
          | false => (rw [if_neg (by decide)] at hg; cases hg; exact ⟨_, _, rfl, ⟨by rw [hb rfl]; rfl, rfl⟩, (hp)⟩))
       | (rw [numGo_big (by omega) (by omega) (by omega)] at hg
          cases hg
          exact ⟨_, _, rfl, ⟨rfl, rfl⟩, (hp)⟩)
    ·refine TC.skip (TQ.then (TC.region (TL.mv rfl rfl (TL.opP rfl (op_nilCheck rfl) (TL.opP rfl (op_field fld_match_reader_at rfl) (TL.opV rfl (op_load ts_int rfl m0 rfl) (TL.opP rfl (op_add rfl rfl rfl (by omega) (by omega)) (TL.opP rfl (op_nilCheck rfl) (TL.opP rfl (op_field fld_match_reader_at rfl) ?_)))))))))
     refine TL.opX0 (OpX.store1 ts_int rfl rfl (by first | rfl | assumption) rfl rfl) ?_; rintro _ _ rfl
     refine TL.nil (TQ.block_normal ?_)
     exact TQ.round (f, k + 1, 10 * n + (nx l k - 48), true) (⟨by omega, by omega, by omega, by omega, (fun h => by cases h), by rw [← hg, numGo_on (by omega) (by omega) (by omega)]⟩) (by show _ - (k + 1) < _ - k; omega) ⟨rfl, rfl, rfl, trivial⟩ (fun _ h => h)
   ·refine TC.exit (TQ.then_exit (TQ.loop_exit (TQ.block_hit (TQ.then (TC.seq (TC.region (TL.mv rfl rfl (TL.mv rfl rfl (TL.as rfl rfl (TL.as rfl rfl (TL.nil (TQ.then (TC.ret ?_)))))))))))))
    refine ret2 rfl rfl rfl (fun w' hp => ?_)
    first
      | (have he := numGo_out (l := l) (f := f) (i := k) (n := n) (b := b) (by first | omega | (rw [nx_out (by omega)]; omega))
         rw [he] at hg
         cases b with
         | true => (simp only [if_true] at hg; cases hg; exact ⟨_, _, rfl, ⟨rfl, rfl⟩, (hp)⟩)
         | false => (rw [if_neg (by decide)] at hg; cases hg; exact ⟨_, _, rfl, ⟨by rw [hb rfl]; rfl, rfl⟩, (hp)⟩))
      | (rw [numGo_big (by omega) (by omega) (by omega)] at hg
         cases hg
         exact ⟨_, _, rfl, ⟨rfl, rfl⟩, (hp)⟩)
  ·refine TL.gFf rfl rfl rfl (TL.gFf rfl rfl rfl (TL.gFf rfl rfl rfl (TL.opP rfl (op_pickF rfl rfl) (TL.nil (TQ.then (TC.condF rfl (TC.exit (TQ.then_exit (TQ.loop_exit (TQ.block_hit (TQ.then (TC.seq (TC.region (TL.mv rfl rfl (TL.mv rfl rfl (TL.as rfl rfl (TL.as rfl rfl (TL.nil (TQ.then (TC.ret ?_))))))))))))))))))))
   refine ret2 rfl rfl rfl (fun w' hp => ?_)
   first
     | (have he := numGo_out (l := l) (f := f) (i := k) (n := n) (b := b) (by first | omega | (rw [nx_out (by omega)]; omega))
        rw [he] at hg
        cases b with
        | true => (simp only [if_true] at hg; cases hg; exact ⟨_, _, rfl, ⟨rfl, rfl⟩, (hp)⟩)
        | false => (rw [if_neg (by decide)] at hg; cases hg; exact ⟨_, _, rfl, ⟨by rw [hb rfl]; rfl, rfl⟩, (hp)⟩))
     | (rw [numGo_big (by omega) (by omega) (by omega)] at hg
        cases hg
        exact ⟨_, _, rfl, ⟨rfl, rfl⟩, (hp)⟩)
 ·refine TL.gFf rfl rfl rfl (TL.gFf rfl rfl rfl (TL.gFf rfl rfl rfl (TL.opP rfl (op_pickF rfl rfl) (TL.mv rfl rfl (TL.gFf rfl rfl rfl (TL.gFf rfl rfl rfl (TL.gFf rfl rfl rfl (TL.opP rfl (op_pickF rfl rfl) (TL.nil (TQ.then (TC.condF rfl (TC.exit (TQ.then_exit (TQ.loop_exit (TQ.block_hit (TQ.then (TC.seq (TC.region (TL.mv rfl rfl (TL.mv rfl rfl (TL.as rfl rfl (TL.as rfl rfl (TL.nil (TQ.then (TC.ret ?_)))))))))))))))))))))))))
  refine ret2 rfl rfl rfl (fun w' hp => ?_)
  first
    | (have he := numGo_out (l := l) (f := f) (i := k) (n := n) (b := b) (by first | omega | (rw [nx_out (by omega)]; omega))
       rw [he] at hg
       cases b with
       | true => (simp only [if_true] at hg; cases hg; exact ⟨_, _, rfl, ⟨rfl, rfl⟩, (hp)⟩)
       | false => (rw [if_neg (by decide)] at hg; cases hg; exact ⟨_, _, rfl, ⟨by rw [hb rfl]; rfl, rfl⟩, (hp)⟩))
    | (rw [numGo_big (by omega) (by omega) (by omega)] at hg
       cases hg
       exact ⟨_, _, rfl, ⟨rfl, rfl⟩, (hp)⟩)

def TRes (r : PR (Int × Int)) (i' : Nat) (lo hi e : Int) : Prop := match r with
  | .ok r j _ => lo = r.1 ∧ hi = r.2 ∧ e = 0 ∧ i' = j
  | .err e' j => e = e' ∧ e' ≠ 0 ∧ i' = j
theorem TRes.bad {r : PR (Int × Int)} {i' : Nat} {lo hi e : Int} (h : TRes r i' lo hi e) (he : e ≠ 0) : r = .err e i' := by
  cases r with
  | ok t j g => exact absurd h.2.2.1 he
  | err e' j => obtain ⟨rfl, b, rfl⟩ := h; rfl
theorem TRes.good {r : PR (Int × Int)} {i' : Nat} {lo hi e : Int} (h : TRes r i' lo hi e) (he : ¬ e ≠ 0) : ∃ g, r = .ok (lo, hi) i' g := by
  cases r with
  | ok t j g => obtain ⟨rfl, rfl, b, rfl⟩ := h; exact ⟨g, rfl⟩
  | err e' j => obtain ⟨rfl, b, rfl⟩ := h; exact absurd b he
section
variable {l : List Int} {i j k : Nat} {lo hi : Int}
theorem closeT_a (h : nx l i = 125) : closeT l lo hi i = .ok (lo, hi) (i + 1) 0 := if_pos h
theorem closeT_b (h : ¬ nx l i = 125) : closeT l lo hi i = .err 90 i := if_neg h
theorem timesF_a (h : numF l i = (none, j)) : timesF l i = .err 90 j := by unfold timesF; rw [h]
theorem timesF_b (h : numF l i = (some lo, j)) (h2 : ¬ nx l j = 44) : timesF l i = closeT l lo lo j := by unfold timesF; rw [h]; exact if_neg h2
theorem timesF_c (h : numF l i = (some lo, j)) (h2 : nx l j = 44) (h3 : ¬ (j + 1 < l.length ∧ nx l (j + 1) ≠ 125)) : timesF l i = closeT l lo (-1) (j + 1) := by unfold timesF; rw [h]; exact (if_pos h2).trans (if_neg h3)
theorem timesF_d (h : numF l i = (some lo, j)) (h2 : nx l j = 44) (h3 : j + 1 < l.length) (h3' : nx l (j + 1) ≠ 125) (h4 : numF l (j + 1) = (none, k)) : timesF l i = .err 90 k := by unfold timesF; rw [h]; refine (if_pos h2).trans ((if_pos ⟨h3, h3'⟩).trans ?_); rw [h4]
theorem timesF_e (h : numF l i = (some lo, j)) (h2 : nx l j = 44) (h3 : j + 1 < l.length) (h3' : nx l (j + 1) ≠ 125) (h4 : numF l (j + 1) = (some hi, k)) (h5 : hi < lo) : timesF l i = .err 90 k := by unfold timesF; rw [h]; refine (if_pos h2).trans ((if_pos ⟨h3, h3'⟩).trans ?_); rw [h4]; exact if_pos h5
theorem timesF_f (h : numF l i = (some lo, j)) (h2 : nx l j = 44) (h3 : j + 1 < l.length) (h3' : nx l (j + 1) ≠ 125) (h4 : numF l (j + 1) = (some hi, k)) (h5 : ¬ hi < lo) : timesF l i = closeT l lo hi k := by unfold timesF; rw [h]; refine (if_pos h2).trans ((if_pos ⟨h3, h3'⟩).trans ?_); rw [h4]; exact if_neg h5
end
theorem ptimes_x (l : List Int) (lv : Value) (g i gn : Nat) (hxl : Rdb F lv 1 l.length (l.map (Value.int .i32))) (hln : l.length ≤ 200) (hi : i ≤ l.length) :
    CallX Tryd.prog 156 [.pointer (some ⟨g, 0, none⟩)] S w0 (.blk g (.cells [lv, .int .i64 (((i : Nat) : Int) : Int), .int .i64 (((gn : Nat) : Int) : Int)].toArray 193 (0, 0)) :: F) (fun u L' => ∃ i' lo hi e, u = .tuple #[.int .i64 lo, .int .i64 hi, .int .i64 e] ∧ TRes (timesF l i) i' lo hi e ∧ L' = .blk g (.cells [lv, .int .i64 (((i' : Nat) : Int) : Int), .int .i64 (((gn : Nat) : Int) : Int)].toArray 193 (0, 0)) :: F) := by
 intro w hp
 obtain ⟨o1, j1, h1⟩ : ∃ o j, numF l i = (o, j) := ⟨_, _, rfl⟩
 obtain ⟨a1, b1, d1⟩ := numF_adv hi h1
 refine calls_start Tryd.func156 rfl rfl rfl (hp) ?_
 refine TC.seq (TC.region (TL.as rfl rfl (TL.as rfl rfl (TL.as rfl rfl (TL.nil (TQ.then (TC.seq (TC.region (TL.opP rfl (op_move rfl) ?_)))))))))
 refine TL.opX rfl (OpX.callX en_160 rfl (pnum_x l _ _ i _ hxl hln hi o1 j1 h1)) ?_; rintro _ _ ⟨rfl, rfl⟩
 refine TL.mv rfl rfl (TL.opP rfl (op_extract rfl rfl) (TL.opP rfl (op_extract rfl rfl) (TL.as rfl rfl (TL.as rfl rfl (TL.nil (TQ.then (TC.seq (TC.seq (TC.region (TL.mv rfl rfl (TL.opP rfl (op_not rfl rfl) (TL.nil (TQ.then ?_)))))))))))))
 refine TC.sp rfl (fun c1 => ?_) (fun c1 => ?_)
 ·obtain rfl : o1 = none := by cases o1 with | none => rfl | some x => exact absurd c1 (by simp)
  have hT := timesF_a h1
  refine TC.seq (TC.region (TL.as rfl rfl (TL.as rfl rfl (TL.as rfl rfl (TL.nil (TQ.then (TC.ret (TQ.then_ret ?_))))))))
  refine ret3 rfl rfl rfl rfl (fun w' hp => ?_)
  exact ⟨_, _, rfl, ⟨_, _, _, _, rfl, by (rw [hT]; exact ⟨rfl, by decide, rfl⟩), rfl⟩, (hp)⟩
 ·obtain ⟨lo, rfl⟩ : ∃ x, o1 = some x := by cases o1 with | none => exact absurd c1 (by simp) | some x => exact ⟨x, rfl⟩
  obtain ⟨e1, e2, e3⟩ := d1 lo rfl
  refine TC.skip (TQ.then (TC.seq (TC.region (TL.mv rfl rfl (TL.as rfl rfl (TL.nil (TQ.then (TC.seq (TC.seq (TC.region (TL.opP rfl (op_move rfl) ?_)))))))))))
  refine TL.opX rfl (OpX.callX en_145 rfl (pis_x l _ _ _ _ hxl hln 44 (by omega))) ?_; rintro _ _ ⟨rfl, rfl⟩
  refine TL.nil (TQ.then ?_)
  refine TC.sp rfl (fun c2 => ?_) (fun c2 => ?_)
  ·rw [if_pos c2]
   have hj := nx_some c2 (by decide)
   refine TC.seq (TC.region (TL.as rfl rfl (TL.nil (TQ.then (TC.seq (TC.region (TL.opP rfl (op_move rfl) ?_)))))))
   refine TL.opX rfl (OpX.callX en_126 rfl (pmore_x l _ _ _ _ hxl hln)) ?_; rintro _ _ ⟨rfl, rfl⟩
   refine TL.opP rfl (op_move rfl) ?_
   refine TL.sp (fun c3 => ?_) (fun c3 => ?_)
   ·refine TL.gT rfl rfl (TL.mv rfl rfl (TL.gT rfl rfl ?_))
    refine TL.opX rfl (OpX.callX en_153 rfl (pnext_x l _ _ _ _ hxl hln (by omega))) ?_; rintro _ _ ⟨rfl, rfl⟩
    refine TL.gT rfl rfl (TL.opP rfl (op_neq rfl rfl) (TL.opP rfl (op_pickT rfl rfl) (TL.nil (TQ.then ?_))))
    refine TC.sp rfl (fun c4 => ?_) (fun c4 => ?_)
    ·obtain ⟨o2, j2, h2⟩ : ∃ o j, numF l (j1 + 1) = (o, j) := ⟨_, _, rfl⟩
     obtain ⟨a2, b2, d2⟩ := numF_adv (by omega) h2
     refine TC.seq (TC.region (TL.opP rfl (op_move rfl) ?_))
     refine TL.opX rfl (OpX.callX en_160 rfl (pnum_x l _ _ (j1 + 1) _ hxl hln (by omega) o2 j2 h2)) ?_; rintro _ _ ⟨rfl, rfl⟩
     refine TL.mv rfl rfl (TL.opP rfl (op_extract rfl rfl) (TL.opP rfl (op_extract rfl rfl) (TL.as rfl rfl (TL.as rfl rfl (TL.nil (TQ.then (TC.seq (TC.region (TL.mv rfl rfl (TL.opP rfl (op_not rfl rfl) (TL.opP rfl (op_move rfl) ?_)))))))))))
     refine TL.sp (fun c5 => ?_) (fun c5 => ?_)
     ·obtain rfl : o2 = none := by cases o2 with | none => rfl | some x => exact absurd c5 (by simp)
      have hT := timesF_d h1 c2 (by omega) c4 h2
      refine TL.gFt rfl rfl rfl (TL.gFt rfl rfl rfl (TL.gFt rfl rfl rfl (TL.opP rfl (op_pickT rfl rfl) (TL.nil (TQ.then (TC.condT rfl (TC.seq (TC.region (TL.as rfl rfl (TL.as rfl rfl (TL.as rfl rfl (TL.nil (TQ.then (TC.ret (TQ.then_ret ?_)))))))))))))))
      refine ret3 rfl rfl rfl rfl (fun w' hp => ?_)
      exact ⟨_, _, rfl, ⟨_, _, _, _, rfl, by (rw [hT]; exact ⟨rfl, by decide, rfl⟩), rfl⟩, (hp)⟩
     ·obtain ⟨hi2, rfl⟩ : ∃ x, o2 = some x := by cases o2 with | none => exact absurd c5 (by simp) | some x => exact ⟨x, rfl⟩
      refine TL.gT rfl rfl (TL.mv rfl rfl (TL.gT rfl rfl (TL.mv rfl rfl (TL.gT rfl rfl (TL.opP rfl (op_lss rfl rfl) (TL.opP rfl (op_pickF rfl rfl) (TL.nil (TQ.then ?_))))))))
      refine TC.sp rfl (fun c6 => ?_) (fun c6 => ?_)
      ·have hT := timesF_e h1 c2 (by omega) c4 h2 c6
       refine TC.seq (TC.region (TL.as rfl rfl (TL.as rfl rfl (TL.as rfl rfl (TL.nil (TQ.then (TC.ret (TQ.then_ret ?_))))))))
       refine ret3 rfl rfl rfl rfl (fun w' hp => ?_)
       exact ⟨_, _, rfl, ⟨_, _, _, _, rfl, by (rw [hT]; exact ⟨rfl, by decide, rfl⟩), rfl⟩, (hp)⟩
      ·have hT := timesF_f h1 c2 (by omega) c4 h2 c6
       refine TC.skip (TQ.then (TC.seq (TC.seq (TC.region (TL.opP rfl (op_move rfl) ?_)))))
       refine TL.opX rfl (OpX.callX en_145 rfl (pis_x l _ _ _ _ hxl hln 125 (by omega))) ?_; rintro _ _ ⟨rfl, rfl⟩
       refine TL.opP rfl (op_not rfl rfl) (TL.nil (TQ.then ?_))
       refine TC.sp rfl (fun c7 => ?_) (fun c7 => ?_)
       ·rw [if_neg c7]
        have hU := fun lo hi => closeT_b (lo := lo) (hi := hi) c7
        refine TC.seq (TC.region (TL.as rfl rfl (TL.as rfl rfl (TL.as rfl rfl (TL.nil (TQ.then (TC.ret (TQ.then_ret ?_))))))))
        refine ret3 rfl rfl rfl rfl (fun w' hp => ?_)
        exact ⟨_, _, rfl, ⟨_, _, _, _, rfl, by (rw [hT, hU]; exact ⟨rfl, by decide, rfl⟩), rfl⟩, (hp)⟩
       ·rw [if_pos c7]
        have hU := fun lo hi => closeT_a (lo := lo) (hi := hi) c7
        refine TC.skip (TQ.then (TC.seq (TC.region (TL.mv rfl rfl (TL.mv rfl rfl (TL.as rfl rfl (TL.as rfl rfl (TL.as rfl rfl (TL.nil (TQ.then (TC.ret ?_)))))))))))
        refine ret3 rfl rfl rfl rfl (fun w' hp => ?_)
        exact ⟨_, _, rfl, ⟨_, _, _, _, rfl, by (rw [hT, hU]; exact ⟨rfl, rfl, rfl, rfl⟩), rfl⟩, (hp)⟩
    ·have hT := timesF_c h1 c2 (by omega)
     refine TC.skip (TQ.then (TC.seq (TC.seq (TC.region (TL.opP rfl (op_move rfl) ?_)))))
     refine TL.opX rfl (OpX.callX en_145 rfl (pis_x l _ _ _ _ hxl hln 125 (by omega))) ?_; rintro _ _ ⟨rfl, rfl⟩
     refine TL.opP rfl (op_not rfl rfl) (TL.nil (TQ.then ?_))
     refine TC.sp rfl (fun c8 => ?_) (fun c8 => ?_)
     ·rw [if_neg c8]
      have hU := fun lo hi => closeT_b (lo := lo) (hi := hi) c8
      refine TC.seq (TC.region (TL.as rfl rfl (TL.as rfl rfl (TL.as rfl rfl (TL.nil (TQ.then (TC.ret (TQ.then_ret ?_))))))))
      refine ret3 rfl rfl rfl rfl (fun w' hp => ?_)
      exact ⟨_, _, rfl, ⟨_, _, _, _, rfl, by (rw [hT, hU]; exact ⟨rfl, by decide, rfl⟩), rfl⟩, (hp)⟩
     ·rw [if_pos c8]
      have hU := fun lo hi => closeT_a (lo := lo) (hi := hi) c8
      refine TC.skip (TQ.then (TC.seq (TC.region (TL.mv rfl rfl (TL.mv rfl rfl (TL.as rfl rfl (TL.as rfl rfl (TL.as rfl rfl (TL.nil (TQ.then (TC.ret ?_)))))))))))
      refine ret3 rfl rfl rfl rfl (fun w' hp => ?_)
      exact ⟨_, _, rfl, ⟨_, _, _, _, rfl, by (rw [hT, hU]; exact ⟨rfl, rfl, rfl, rfl⟩), rfl⟩, (hp)⟩
   ·have hT := timesF_c h1 c2 (by omega)
    refine TL.gFf rfl rfl rfl (TL.gFf rfl rfl rfl (TL.gFf rfl rfl rfl (TL.opP rfl (op_pickF rfl rfl) (TL.nil (TQ.then (TC.condF rfl (TC.skip (TQ.then (TC.seq (TC.seq (TC.region (TL.opP rfl (op_move rfl) ?_))))))))))))
    refine TL.opX rfl (OpX.callX en_145 rfl (pis_x l _ _ _ _ hxl hln 125 (by omega))) ?_; rintro _ _ ⟨rfl, rfl⟩
    refine TL.opP rfl (op_not rfl rfl) (TL.nil (TQ.then ?_))
    refine TC.sp rfl (fun c9 => ?_) (fun c9 => ?_)
    ·rw [if_neg c9]
     have hU := fun lo hi => closeT_b (lo := lo) (hi := hi) c9
     refine TC.seq (TC.region (TL.as rfl rfl (TL.as rfl rfl (TL.as rfl rfl (TL.nil (TQ.then (TC.ret (TQ.then_ret ?_))))))))
     refine ret3 rfl rfl rfl rfl (fun w' hp => ?_)
     exact ⟨_, _, rfl, ⟨_, _, _, _, rfl, by (rw [hT, hU]; exact ⟨rfl, by decide, rfl⟩), rfl⟩, (hp)⟩
    ·rw [if_pos c9]
     have hU := fun lo hi => closeT_a (lo := lo) (hi := hi) c9
     refine TC.skip (TQ.then (TC.seq (TC.region (TL.mv rfl rfl (TL.mv rfl rfl (TL.as rfl rfl (TL.as rfl rfl (TL.as rfl rfl (TL.nil (TQ.then (TC.ret ?_)))))))))))
     refine ret3 rfl rfl rfl rfl (fun w' hp => ?_)
     exact ⟨_, _, rfl, ⟨_, _, _, _, rfl, by (rw [hT, hU]; exact ⟨rfl, rfl, rfl, rfl⟩), rfl⟩, (hp)⟩
  ·rw [if_neg c2]
   have hT := timesF_b h1 c2
   refine TC.skip (TQ.then (TC.seq (TC.seq (TC.region (TL.opP rfl (op_move rfl) ?_)))))
   refine TL.opX rfl (OpX.callX en_145 rfl (pis_x l _ _ _ _ hxl hln 125 (by omega))) ?_; rintro _ _ ⟨rfl, rfl⟩
   refine TL.opP rfl (op_not rfl rfl) (TL.nil (TQ.then ?_))
   refine TC.sp rfl (fun c10 => ?_) (fun c10 => ?_)
   ·rw [if_neg c10]
    have hU := fun lo hi => closeT_b (lo := lo) (hi := hi) c10
    refine TC.seq (TC.region (TL.as rfl rfl (TL.as rfl rfl (TL.as rfl rfl (TL.nil (TQ.then (TC.ret (TQ.then_ret ?_))))))))
    refine ret3 rfl rfl rfl rfl (fun w' hp => ?_)
    exact ⟨_, _, rfl, ⟨_, _, _, _, rfl, by (rw [hT, hU]; exact ⟨rfl, by decide, rfl⟩), rfl⟩, (hp)⟩
   ·rw [if_pos c10]
    have hU := fun lo hi => closeT_a (lo := lo) (hi := hi) c10
    refine TC.skip (TQ.then (TC.seq (TC.region (TL.mv rfl rfl (TL.mv rfl rfl (TL.as rfl rfl (TL.as rfl rfl (TL.as rfl rfl (TL.nil (TQ.then (TC.ret ?_)))))))))))
    refine ret3 rfl rfl rfl rfl (fun w' hp => ?_)
    exact ⟨_, _, rfl, ⟨_, _, _, _, rfl, by (rw [hT, hU]; exact ⟨rfl, rfl, rfl, rfl⟩), rfl⟩, (hp)⟩

theorem pnamed_x (c : Int) (o : Option (List (Int × Int))) (ho : namedF c = o) :
    CallX Tryd.prog 162 [.int .i32 c] S w0 (F) (fun u L' => ∃ v, u = .tuple #[v, .bool o.isSome] ∧ L' = .row v 210 2 (o.getD []).length (spC (o.getD [])) :: F) := by
 intro w hp
 refine calls_start Tryd.func162 rfl rfl rfl (hp) ?_
 refine TC.seq (TC.region (TL.as rfl rfl (TL.as rfl rfl (TL.nil (TQ.then (TC.seq (TC.seq (TC.region (TL.mv rfl rfl (TL.nil (TQ.then (TC.block (TC.seq (TC.region (TL.opP rfl (op_eql rfl rfl) (TL.as rfl rfl (TL.nil (TQ.then ?_))))))))))))))))))
 refine TC.sp rfl (fun c1 => ?_) (fun c1 => ?_)
 ·have hN : namedF c = some [(48, 57)] := by unfold namedF; rw [if_pos c1]
  refine TC.seq (TC.region (TL.opP rfl (op_build (ps := #[(0, _), (1, _)]) rfl (bl_match_span_01 _ _)) ?_))
  refine TL.opX rfl (OpX.buildSlice (ps := #[(0, _)]) rfl (bs_match_span_1 (48, 57))) ?_; rintro _ _ ⟨g8, rfl, rfl⟩
  refine TL.hp (fun _ h => blk_row (k := 2) (m := 1) h rfl (by decide)) (TL.as rfl rfl (TL.as rfl rfl (TL.nil (TQ.then (TC.ret (TQ.block_ret (TQ.then_ret ?_)))))))
  refine ret2 rfl rfl rfl (fun w' hp => ?_)
  first
    | (rw [hN] at ho; subst ho; exact ⟨_, _, rfl, ⟨_, rfl, rfl⟩, (hp)⟩)
    | (have hN : namedF c = none := by (unfold namedF; rw [if_neg c1, if_neg c2, if_neg c3, if_neg c4, if_neg c5, if_pos (by omega)])
       rw [hN] at ho; subst ho; exact ⟨_, _, rfl, ⟨.slice none 0 0, rfl, rfl⟩, new_nil _ 2 (hp)⟩)
    | (have hN : namedF c = some [(c, c)] := by (unfold namedF; rw [if_neg c1, if_neg c2, if_neg c3, if_neg c4, if_neg c5, if_neg (by omega)])
       rw [hN] at ho; subst ho; exact ⟨_, _, rfl, ⟨_, rfl, rfl⟩, (hp)⟩)
 ·refine TC.seq (TC.region (TL.opP rfl (op_eql rfl rfl) (TL.as rfl rfl (TL.nil (TQ.then ?_)))))
  refine TC.sp rfl (fun c2 => ?_) (fun c2 => ?_)
  ·have hN : namedF c = some [(48, 57), (65, 90), (95, 95), (97, 122)] := by unfold namedF; rw [if_neg c1, if_pos c2]
   refine TC.seq (TC.region (TL.opP rfl (op_build (ps := #[(0, _), (1, _)]) rfl (bl_match_span_01 _ _)) (TL.opP rfl (op_build (ps := #[(0, _), (1, _)]) rfl (bl_match_span_01 _ _)) (TL.opP rfl (op_build (ps := #[(0, _), (1, _)]) rfl (bl_match_span_01 _ _)) (TL.opP rfl (op_build (ps := #[(0, _), (1, _)]) rfl (bl_match_span_01 _ _)) ?_)))))
   refine TL.opX rfl (OpX.buildSlice (ps := #[(0, _), (1, _), (2, _), (3, _)]) rfl (bs_match_span_4 (48, 57) (65, 90) (95, 95) (97, 122))) ?_; rintro _ _ ⟨g15, rfl, rfl⟩
   refine TL.hp (fun _ h => blk_row (k := 2) (m := 4) h rfl (by decide)) (TL.as rfl rfl (TL.as rfl rfl (TL.nil (TQ.then (TC.ret (TQ.block_ret (TQ.then_ret ?_)))))))
   refine ret2 rfl rfl rfl (fun w' hp => ?_)
   first
     | (rw [hN] at ho; subst ho; exact ⟨_, _, rfl, ⟨_, rfl, rfl⟩, (hp)⟩)
     | (have hN : namedF c = none := by (unfold namedF; rw [if_neg c1, if_neg c2, if_neg c3, if_neg c4, if_neg c5, if_pos (by omega)])
        rw [hN] at ho; subst ho; exact ⟨_, _, rfl, ⟨.slice none 0 0, rfl, rfl⟩, new_nil _ 2 (hp)⟩)
     | (have hN : namedF c = some [(c, c)] := by (unfold namedF; rw [if_neg c1, if_neg c2, if_neg c3, if_neg c4, if_neg c5, if_neg (by omega)])
        rw [hN] at ho; subst ho; exact ⟨_, _, rfl, ⟨_, rfl, rfl⟩, (hp)⟩)
  ·refine TC.seq (TC.region (TL.opP rfl (op_eql rfl rfl) (TL.as rfl rfl (TL.nil (TQ.then ?_)))))
   refine TC.sp rfl (fun c3 => ?_) (fun c3 => ?_)
   ·have hN : namedF c = some [(9, 10), (32, 32)] := by unfold namedF; rw [if_neg c1, if_neg c2, if_pos c3]
    refine TC.seq (TC.region (TL.opP rfl (op_build (ps := #[(0, _), (1, _)]) rfl (bl_match_span_01 _ _)) (TL.opP rfl (op_build (ps := #[(0, _), (1, _)]) rfl (bl_match_span_01 _ _)) ?_)))
    refine TL.opX rfl (OpX.buildSlice (ps := #[(0, _), (1, _)]) rfl (bs_match_span_2 (9, 10) (32, 32))) ?_; rintro _ _ ⟨g20, rfl, rfl⟩
    refine TL.hp (fun _ h => blk_row (k := 2) (m := 2) h rfl (by decide)) (TL.as rfl rfl (TL.as rfl rfl (TL.nil (TQ.then (TC.ret (TQ.block_ret (TQ.then_ret ?_)))))))
    refine ret2 rfl rfl rfl (fun w' hp => ?_)
    first
      | (rw [hN] at ho; subst ho; exact ⟨_, _, rfl, ⟨_, rfl, rfl⟩, (hp)⟩)
      | (have hN : namedF c = none := by (unfold namedF; rw [if_neg c1, if_neg c2, if_neg c3, if_neg c4, if_neg c5, if_pos (by omega)])
         rw [hN] at ho; subst ho; exact ⟨_, _, rfl, ⟨.slice none 0 0, rfl, rfl⟩, new_nil _ 2 (hp)⟩)
      | (have hN : namedF c = some [(c, c)] := by (unfold namedF; rw [if_neg c1, if_neg c2, if_neg c3, if_neg c4, if_neg c5, if_neg (by omega)])
         rw [hN] at ho; subst ho; exact ⟨_, _, rfl, ⟨_, rfl, rfl⟩, (hp)⟩)
   ·refine TC.seq (TC.region (TL.opP rfl (op_eql rfl rfl) (TL.as rfl rfl (TL.nil (TQ.then ?_)))))
    refine TC.sp rfl (fun c4 => ?_) (fun c4 => ?_)
    ·have hN : namedF c = some [(10, 10)] := by unfold namedF; rw [if_neg c1, if_neg c2, if_neg c3, if_pos c4]
     refine TC.seq (TC.region (TL.opP rfl (op_build (ps := #[(0, _), (1, _)]) rfl (bl_match_span_01 _ _)) ?_))
     refine TL.opX rfl (OpX.buildSlice (ps := #[(0, _)]) rfl (bs_match_span_1 (10, 10))) ?_; rintro _ _ ⟨g24, rfl, rfl⟩
     refine TL.hp (fun _ h => blk_row (k := 2) (m := 1) h rfl (by decide)) (TL.as rfl rfl (TL.as rfl rfl (TL.nil (TQ.then (TC.ret (TQ.block_ret (TQ.then_ret ?_)))))))
     refine ret2 rfl rfl rfl (fun w' hp => ?_)
     first
       | (rw [hN] at ho; subst ho; exact ⟨_, _, rfl, ⟨_, rfl, rfl⟩, (hp)⟩)
       | (have hN : namedF c = none := by (unfold namedF; rw [if_neg c1, if_neg c2, if_neg c3, if_neg c4, if_neg c5, if_pos (by omega)])
          rw [hN] at ho; subst ho; exact ⟨_, _, rfl, ⟨.slice none 0 0, rfl, rfl⟩, new_nil _ 2 (hp)⟩)
       | (have hN : namedF c = some [(c, c)] := by (unfold namedF; rw [if_neg c1, if_neg c2, if_neg c3, if_neg c4, if_neg c5, if_neg (by omega)])
          rw [hN] at ho; subst ho; exact ⟨_, _, rfl, ⟨_, rfl, rfl⟩, (hp)⟩)
    ·refine TC.seq (TC.region (TL.opP rfl (op_eql rfl rfl) (TL.as rfl rfl (TL.nil (TQ.then ?_)))))
     refine TC.sp rfl (fun c5 => ?_) (fun c5 => ?_)
     ·have hN : namedF c = some [(9, 9)] := by unfold namedF; rw [if_neg c1, if_neg c2, if_neg c3, if_neg c4, if_pos c5]
      refine TC.seq (TC.region (TL.opP rfl (op_build (ps := #[(0, _), (1, _)]) rfl (bl_match_span_01 _ _)) ?_))
      refine TL.opX rfl (OpX.buildSlice (ps := #[(0, _)]) rfl (bs_match_span_1 (9, 9))) ?_; rintro _ _ ⟨g28, rfl, rfl⟩
      refine TL.hp (fun _ h => blk_row (k := 2) (m := 1) h rfl (by decide)) (TL.as rfl rfl (TL.as rfl rfl (TL.nil (TQ.then (TC.ret (TQ.block_ret (TQ.then_ret ?_)))))))
      refine ret2 rfl rfl rfl (fun w' hp => ?_)
      first
        | (rw [hN] at ho; subst ho; exact ⟨_, _, rfl, ⟨_, rfl, rfl⟩, (hp)⟩)
        | (have hN : namedF c = none := by (unfold namedF; rw [if_neg c1, if_neg c2, if_neg c3, if_neg c4, if_neg c5, if_pos (by omega)])
           rw [hN] at ho; subst ho; exact ⟨_, _, rfl, ⟨.slice none 0 0, rfl, rfl⟩, new_nil _ 2 (hp)⟩)
        | (have hN : namedF c = some [(c, c)] := by (unfold namedF; rw [if_neg c1, if_neg c2, if_neg c3, if_neg c4, if_neg c5, if_neg (by omega)])
           rw [hN] at ho; subst ho; exact ⟨_, _, rfl, ⟨_, rfl, rfl⟩, (hp)⟩)
     ·refine TC.skip (TQ.block_normal (TQ.then (TC.seq (TC.seq (TC.region (TL.mv rfl rfl (TL.opP rfl (op_geq rfl rfl) (TL.opP rfl (op_move rfl) ?_))))))))
      refine TL.sp (fun c6 => ?_) (fun c6 => ?_)
      ·refine TL.gT rfl rfl (TL.mv rfl rfl (TL.gT rfl rfl (TL.opP rfl (op_leq rfl rfl) (TL.opP rfl (op_pickT rfl rfl) (TL.opP rfl (op_move rfl) ?_)))))
       refine TL.sp (fun c7 => ?_) (fun c7 => ?_)
       ·refine TL.gFt rfl rfl rfl (TL.gFt rfl rfl rfl (TL.gFt rfl rfl rfl (TL.gU rfl rfl rfl (TL.gU rfl rfl rfl (TL.gFt rfl rfl rfl (TL.opP rfl (op_pickT rfl rfl) (TL.mv rfl rfl (TL.gFt rfl rfl rfl (TL.gFt rfl rfl rfl (TL.gFt rfl rfl rfl (TL.gU rfl rfl rfl (TL.gU rfl rfl rfl (TL.gFt rfl rfl rfl (TL.opP rfl (op_pickT rfl rfl) (TL.nil (TQ.then (TC.condT rfl (TC.seq (TC.region (TL.as rfl rfl (TL.as rfl rfl (TL.nil (TQ.then (TC.ret (TQ.then_ret ?_)))))))))))))))))))))))))
        refine ret2 rfl rfl rfl (fun w' hp => ?_)
        first
          | (rw [hN] at ho; subst ho; exact ⟨_, _, rfl, ⟨_, rfl, rfl⟩, (hp)⟩)
          | (have hN : namedF c = none := by (unfold namedF; rw [if_neg c1, if_neg c2, if_neg c3, if_neg c4, if_neg c5, if_pos (by omega)])
             rw [hN] at ho; subst ho; exact ⟨_, _, rfl, ⟨.slice none 0 0, rfl, rfl⟩, new_nil _ 2 (hp)⟩)
          | (have hN : namedF c = some [(c, c)] := by (unfold namedF; rw [if_neg c1, if_neg c2, if_neg c3, if_neg c4, if_neg c5, if_neg (by omega)])
             rw [hN] at ho; subst ho; exact ⟨_, _, rfl, ⟨_, rfl, rfl⟩, (hp)⟩)
       ·refine TL.gT rfl rfl (TL.mv rfl rfl (TL.gT rfl rfl (TL.opP rfl (op_geq rfl rfl) (TL.gT rfl rfl (TL.opP rfl (op_move rfl) ?_)))))
        refine TL.sp (fun c8 => ?_) (fun c8 => ?_)
        ·refine TL.gT rfl rfl (TL.mv rfl rfl (TL.gT rfl rfl (TL.opP rfl (op_leq rfl rfl) (TL.gT rfl rfl (TL.opP rfl (op_pickT rfl rfl) (TL.opP rfl (op_pickF rfl rfl) (TL.opP rfl (op_move rfl) ?_)))))))
         refine TL.sp (fun c9 => ?_) (fun c9 => ?_)
         ·refine TL.gFt rfl rfl rfl (TL.gFt rfl rfl rfl (TL.gFt rfl rfl rfl (TL.gU rfl rfl rfl (TL.gU rfl rfl rfl (TL.gFt rfl rfl rfl (TL.opP rfl (op_pickT rfl rfl) (TL.nil (TQ.then (TC.condT rfl (TC.seq (TC.region (TL.as rfl rfl (TL.as rfl rfl (TL.nil (TQ.then (TC.ret (TQ.then_ret ?_)))))))))))))))))
          refine ret2 rfl rfl rfl (fun w' hp => ?_)
          first
            | (rw [hN] at ho; subst ho; exact ⟨_, _, rfl, ⟨_, rfl, rfl⟩, (hp)⟩)
            | (have hN : namedF c = none := by (unfold namedF; rw [if_neg c1, if_neg c2, if_neg c3, if_neg c4, if_neg c5, if_pos (by omega)])
               rw [hN] at ho; subst ho; exact ⟨_, _, rfl, ⟨.slice none 0 0, rfl, rfl⟩, new_nil _ 2 (hp)⟩)
            | (have hN : namedF c = some [(c, c)] := by (unfold namedF; rw [if_neg c1, if_neg c2, if_neg c3, if_neg c4, if_neg c5, if_neg (by omega)])
               rw [hN] at ho; subst ho; exact ⟨_, _, rfl, ⟨_, rfl, rfl⟩, (hp)⟩)
         ·refine TL.gT rfl rfl (TL.mv rfl rfl (TL.gT rfl rfl (TL.opP rfl (op_geq rfl rfl) (TL.gT rfl rfl (TL.opP rfl (op_move rfl) ?_)))))
          refine TL.sp (fun c10 => ?_) (fun c10 => ?_)
          ·refine TL.gT rfl rfl (TL.mv rfl rfl (TL.gT rfl rfl (TL.opP rfl (op_leq rfl rfl) (TL.gT rfl rfl (TL.opP rfl (op_pickT rfl rfl) (TL.opP rfl (op_pickF rfl rfl) (TL.nil (TQ.then ?_))))))))
           refine TC.sp rfl (fun c11 => ?_) (fun c11 => ?_)
           ·refine TC.seq (TC.region (TL.as rfl rfl (TL.as rfl rfl (TL.nil (TQ.then (TC.ret (TQ.then_ret ?_)))))))
            refine ret2 rfl rfl rfl (fun w' hp => ?_)
            first
              | (rw [hN] at ho; subst ho; exact ⟨_, _, rfl, ⟨_, rfl, rfl⟩, (hp)⟩)
              | (have hN : namedF c = none := by (unfold namedF; rw [if_neg c1, if_neg c2, if_neg c3, if_neg c4, if_neg c5, if_pos (by omega)])
                 rw [hN] at ho; subst ho; exact ⟨_, _, rfl, ⟨.slice none 0 0, rfl, rfl⟩, new_nil _ 2 (hp)⟩)
              | (have hN : namedF c = some [(c, c)] := by (unfold namedF; rw [if_neg c1, if_neg c2, if_neg c3, if_neg c4, if_neg c5, if_neg (by omega)])
                 rw [hN] at ho; subst ho; exact ⟨_, _, rfl, ⟨_, rfl, rfl⟩, (hp)⟩)
           ·refine TC.skip (TQ.then (TC.seq (TC.region (TL.mv rfl rfl (TL.mv rfl rfl (TL.opP rfl (op_build (ps := #[(0, _), (1, _)]) rfl (bl_match_span_01 _ _)) ?_))))))
            refine TL.opX rfl (OpX.buildSlice (ps := #[(0, _)]) rfl (bs_match_span_1 (c, c))) ?_; rintro _ _ ⟨g54, rfl, rfl⟩
            refine TL.hp (fun _ h => blk_row (k := 2) (m := 1) h rfl (by decide)) (TL.as rfl rfl (TL.as rfl rfl (TL.nil (TQ.then (TC.ret ?_)))))
            refine ret2 rfl rfl rfl (fun w' hp => ?_)
            first
              | (rw [hN] at ho; subst ho; exact ⟨_, _, rfl, ⟨_, rfl, rfl⟩, (hp)⟩)
              | (have hN : namedF c = none := by (unfold namedF; rw [if_neg c1, if_neg c2, if_neg c3, if_neg c4, if_neg c5, if_pos (by omega)])
                 rw [hN] at ho; subst ho; exact ⟨_, _, rfl, ⟨.slice none 0 0, rfl, rfl⟩, new_nil _ 2 (hp)⟩)
              | (have hN : namedF c = some [(c, c)] := by (unfold namedF; rw [if_neg c1, if_neg c2, if_neg c3, if_neg c4, if_neg c5, if_neg (by omega)])
                 rw [hN] at ho; subst ho; exact ⟨_, _, rfl, ⟨_, rfl, rfl⟩, (hp)⟩)
          ·refine TL.gFf rfl rfl rfl (TL.gFf rfl rfl rfl (TL.gT rfl rfl (TL.opP rfl (op_pickF rfl rfl) (TL.opP rfl (op_pickF rfl rfl) (TL.nil (TQ.then (TC.condF rfl (TC.skip (TQ.then (TC.seq (TC.region (TL.mv rfl rfl (TL.mv rfl rfl (TL.opP rfl (op_build (ps := #[(0, _), (1, _)]) rfl (bl_match_span_01 _ _)) ?_))))))))))))))
           refine TL.opX rfl (OpX.buildSlice (ps := #[(0, _)]) rfl (bs_match_span_1 (c, c))) ?_; rintro _ _ ⟨g54, rfl, rfl⟩
           refine TL.hp (fun _ h => blk_row (k := 2) (m := 1) h rfl (by decide)) (TL.as rfl rfl (TL.as rfl rfl (TL.nil (TQ.then (TC.ret ?_)))))
           refine ret2 rfl rfl rfl (fun w' hp => ?_)
           first
             | (rw [hN] at ho; subst ho; exact ⟨_, _, rfl, ⟨_, rfl, rfl⟩, (hp)⟩)
             | (have hN : namedF c = none := by (unfold namedF; rw [if_neg c1, if_neg c2, if_neg c3, if_neg c4, if_neg c5, if_pos (by omega)])
                rw [hN] at ho; subst ho; exact ⟨_, _, rfl, ⟨.slice none 0 0, rfl, rfl⟩, new_nil _ 2 (hp)⟩)
             | (have hN : namedF c = some [(c, c)] := by (unfold namedF; rw [if_neg c1, if_neg c2, if_neg c3, if_neg c4, if_neg c5, if_neg (by omega)])
                rw [hN] at ho; subst ho; exact ⟨_, _, rfl, ⟨_, rfl, rfl⟩, (hp)⟩)
        ·refine TL.gFf rfl rfl rfl (TL.gFf rfl rfl rfl (TL.gT rfl rfl (TL.opP rfl (op_pickF rfl rfl) (TL.opP rfl (op_pickF rfl rfl) (TL.mv rfl rfl (TL.gT rfl rfl (TL.mv rfl rfl (TL.gT rfl rfl (TL.opP rfl (op_geq rfl rfl) (TL.gT rfl rfl (TL.opP rfl (op_move rfl) ?_)))))))))))
         refine TL.sp (fun c12 => ?_) (fun c12 => ?_)
         ·refine TL.gT rfl rfl (TL.mv rfl rfl (TL.gT rfl rfl (TL.opP rfl (op_leq rfl rfl) (TL.gT rfl rfl (TL.opP rfl (op_pickT rfl rfl) (TL.opP rfl (op_pickF rfl rfl) (TL.nil (TQ.then ?_))))))))
          refine TC.sp rfl (fun c13 => ?_) (fun c13 => ?_)
          ·refine TC.seq (TC.region (TL.as rfl rfl (TL.as rfl rfl (TL.nil (TQ.then (TC.ret (TQ.then_ret ?_)))))))
           refine ret2 rfl rfl rfl (fun w' hp => ?_)
           first
             | (rw [hN] at ho; subst ho; exact ⟨_, _, rfl, ⟨_, rfl, rfl⟩, (hp)⟩)
             | (have hN : namedF c = none := by (unfold namedF; rw [if_neg c1, if_neg c2, if_neg c3, if_neg c4, if_neg c5, if_pos (by omega)])
                rw [hN] at ho; subst ho; exact ⟨_, _, rfl, ⟨.slice none 0 0, rfl, rfl⟩, new_nil _ 2 (hp)⟩)
             | (have hN : namedF c = some [(c, c)] := by (unfold namedF; rw [if_neg c1, if_neg c2, if_neg c3, if_neg c4, if_neg c5, if_neg (by omega)])
                rw [hN] at ho; subst ho; exact ⟨_, _, rfl, ⟨_, rfl, rfl⟩, (hp)⟩)
          ·refine TC.skip (TQ.then (TC.seq (TC.region (TL.mv rfl rfl (TL.mv rfl rfl (TL.opP rfl (op_build (ps := #[(0, _), (1, _)]) rfl (bl_match_span_01 _ _)) ?_))))))
           refine TL.opX rfl (OpX.buildSlice (ps := #[(0, _)]) rfl (bs_match_span_1 (c, c))) ?_; rintro _ _ ⟨g54, rfl, rfl⟩
           refine TL.hp (fun _ h => blk_row (k := 2) (m := 1) h rfl (by decide)) (TL.as rfl rfl (TL.as rfl rfl (TL.nil (TQ.then (TC.ret ?_)))))
           refine ret2 rfl rfl rfl (fun w' hp => ?_)
           first
             | (rw [hN] at ho; subst ho; exact ⟨_, _, rfl, ⟨_, rfl, rfl⟩, (hp)⟩)
             | (have hN : namedF c = none := by (unfold namedF; rw [if_neg c1, if_neg c2, if_neg c3, if_neg c4, if_neg c5, if_pos (by omega)])
                rw [hN] at ho; subst ho; exact ⟨_, _, rfl, ⟨.slice none 0 0, rfl, rfl⟩, new_nil _ 2 (hp)⟩)
             | (have hN : namedF c = some [(c, c)] := by (unfold namedF; rw [if_neg c1, if_neg c2, if_neg c3, if_neg c4, if_neg c5, if_neg (by omega)])
                rw [hN] at ho; subst ho; exact ⟨_, _, rfl, ⟨_, rfl, rfl⟩, (hp)⟩)
         ·refine TL.gFf rfl rfl rfl (TL.gFf rfl rfl rfl (TL.gT rfl rfl (TL.opP rfl (op_pickF rfl rfl) (TL.opP rfl (op_pickF rfl rfl) (TL.nil (TQ.then (TC.condF rfl (TC.skip (TQ.then (TC.seq (TC.region (TL.mv rfl rfl (TL.mv rfl rfl (TL.opP rfl (op_build (ps := #[(0, _), (1, _)]) rfl (bl_match_span_01 _ _)) ?_))))))))))))))
          refine TL.opX rfl (OpX.buildSlice (ps := #[(0, _)]) rfl (bs_match_span_1 (c, c))) ?_; rintro _ _ ⟨g54, rfl, rfl⟩
          refine TL.hp (fun _ h => blk_row (k := 2) (m := 1) h rfl (by decide)) (TL.as rfl rfl (TL.as rfl rfl (TL.nil (TQ.then (TC.ret ?_)))))
          refine ret2 rfl rfl rfl (fun w' hp => ?_)
          first
            | (rw [hN] at ho; subst ho; exact ⟨_, _, rfl, ⟨_, rfl, rfl⟩, (hp)⟩)
            | (have hN : namedF c = none := by (unfold namedF; rw [if_neg c1, if_neg c2, if_neg c3, if_neg c4, if_neg c5, if_pos (by omega)])
               rw [hN] at ho; subst ho; exact ⟨_, _, rfl, ⟨.slice none 0 0, rfl, rfl⟩, new_nil _ 2 (hp)⟩)
            | (have hN : namedF c = some [(c, c)] := by (unfold namedF; rw [if_neg c1, if_neg c2, if_neg c3, if_neg c4, if_neg c5, if_neg (by omega)])
               rw [hN] at ho; subst ho; exact ⟨_, _, rfl, ⟨_, rfl, rfl⟩, (hp)⟩)
      ·refine TL.gFf rfl rfl rfl (TL.gFf rfl rfl rfl (TL.opP rfl (op_pickF rfl rfl) (TL.mv rfl rfl (TL.gT rfl rfl (TL.mv rfl rfl (TL.gT rfl rfl (TL.opP rfl (op_geq rfl rfl) (TL.gT rfl rfl (TL.opP rfl (op_move rfl) ?_)))))))))
       refine TL.sp (fun c14 => ?_) (fun c14 => ?_)
       ·refine TL.gT rfl rfl (TL.mv rfl rfl (TL.gT rfl rfl (TL.opP rfl (op_leq rfl rfl) (TL.gT rfl rfl (TL.opP rfl (op_pickT rfl rfl) (TL.opP rfl (op_pickF rfl rfl) (TL.opP rfl (op_move rfl) ?_)))))))
        refine TL.sp (fun c15 => ?_) (fun c15 => ?_)
        ·refine TL.gFt rfl rfl rfl (TL.gFt rfl rfl rfl (TL.gFt rfl rfl rfl (TL.gU rfl rfl rfl (TL.gU rfl rfl rfl (TL.gFt rfl rfl rfl (TL.opP rfl (op_pickT rfl rfl) (TL.nil (TQ.then (TC.condT rfl (TC.seq (TC.region (TL.as rfl rfl (TL.as rfl rfl (TL.nil (TQ.then (TC.ret (TQ.then_ret ?_)))))))))))))))))
         refine ret2 rfl rfl rfl (fun w' hp => ?_)
         first
           | (rw [hN] at ho; subst ho; exact ⟨_, _, rfl, ⟨_, rfl, rfl⟩, (hp)⟩)
           | (have hN : namedF c = none := by (unfold namedF; rw [if_neg c1, if_neg c2, if_neg c3, if_neg c4, if_neg c5, if_pos (by omega)])
              rw [hN] at ho; subst ho; exact ⟨_, _, rfl, ⟨.slice none 0 0, rfl, rfl⟩, new_nil _ 2 (hp)⟩)
           | (have hN : namedF c = some [(c, c)] := by (unfold namedF; rw [if_neg c1, if_neg c2, if_neg c3, if_neg c4, if_neg c5, if_neg (by omega)])
              rw [hN] at ho; subst ho; exact ⟨_, _, rfl, ⟨_, rfl, rfl⟩, (hp)⟩)
        ·refine TL.gT rfl rfl (TL.mv rfl rfl (TL.gT rfl rfl (TL.opP rfl (op_geq rfl rfl) (TL.gT rfl rfl (TL.opP rfl (op_move rfl) ?_)))))
         refine TL.sp (fun c16 => ?_) (fun c16 => ?_)
         ·refine TL.gT rfl rfl (TL.mv rfl rfl (TL.gT rfl rfl (TL.opP rfl (op_leq rfl rfl) (TL.gT rfl rfl (TL.opP rfl (op_pickT rfl rfl) (TL.opP rfl (op_pickF rfl rfl) (TL.nil (TQ.then ?_))))))))
          refine TC.sp rfl (fun c17 => ?_) (fun c17 => ?_)
          ·refine TC.seq (TC.region (TL.as rfl rfl (TL.as rfl rfl (TL.nil (TQ.then (TC.ret (TQ.then_ret ?_)))))))
           refine ret2 rfl rfl rfl (fun w' hp => ?_)
           first
             | (rw [hN] at ho; subst ho; exact ⟨_, _, rfl, ⟨_, rfl, rfl⟩, (hp)⟩)
             | (have hN : namedF c = none := by (unfold namedF; rw [if_neg c1, if_neg c2, if_neg c3, if_neg c4, if_neg c5, if_pos (by omega)])
                rw [hN] at ho; subst ho; exact ⟨_, _, rfl, ⟨.slice none 0 0, rfl, rfl⟩, new_nil _ 2 (hp)⟩)
             | (have hN : namedF c = some [(c, c)] := by (unfold namedF; rw [if_neg c1, if_neg c2, if_neg c3, if_neg c4, if_neg c5, if_neg (by omega)])
                rw [hN] at ho; subst ho; exact ⟨_, _, rfl, ⟨_, rfl, rfl⟩, (hp)⟩)
          ·refine TC.skip (TQ.then (TC.seq (TC.region (TL.mv rfl rfl (TL.mv rfl rfl (TL.opP rfl (op_build (ps := #[(0, _), (1, _)]) rfl (bl_match_span_01 _ _)) ?_))))))
           refine TL.opX rfl (OpX.buildSlice (ps := #[(0, _)]) rfl (bs_match_span_1 (c, c))) ?_; rintro _ _ ⟨g54, rfl, rfl⟩
           refine TL.hp (fun _ h => blk_row (k := 2) (m := 1) h rfl (by decide)) (TL.as rfl rfl (TL.as rfl rfl (TL.nil (TQ.then (TC.ret ?_)))))
           refine ret2 rfl rfl rfl (fun w' hp => ?_)
           first
             | (rw [hN] at ho; subst ho; exact ⟨_, _, rfl, ⟨_, rfl, rfl⟩, (hp)⟩)
             | (have hN : namedF c = none := by (unfold namedF; rw [if_neg c1, if_neg c2, if_neg c3, if_neg c4, if_neg c5, if_pos (by omega)])
                rw [hN] at ho; subst ho; exact ⟨_, _, rfl, ⟨.slice none 0 0, rfl, rfl⟩, new_nil _ 2 (hp)⟩)
             | (have hN : namedF c = some [(c, c)] := by (unfold namedF; rw [if_neg c1, if_neg c2, if_neg c3, if_neg c4, if_neg c5, if_neg (by omega)])
                rw [hN] at ho; subst ho; exact ⟨_, _, rfl, ⟨_, rfl, rfl⟩, (hp)⟩)
         ·refine TL.gFf rfl rfl rfl (TL.gFf rfl rfl rfl (TL.gT rfl rfl (TL.opP rfl (op_pickF rfl rfl) (TL.opP rfl (op_pickF rfl rfl) (TL.nil (TQ.then (TC.condF rfl (TC.skip (TQ.then (TC.seq (TC.region (TL.mv rfl rfl (TL.mv rfl rfl (TL.opP rfl (op_build (ps := #[(0, _), (1, _)]) rfl (bl_match_span_01 _ _)) ?_))))))))))))))
          refine TL.opX rfl (OpX.buildSlice (ps := #[(0, _)]) rfl (bs_match_span_1 (c, c))) ?_; rintro _ _ ⟨g54, rfl, rfl⟩
          refine TL.hp (fun _ h => blk_row (k := 2) (m := 1) h rfl (by decide)) (TL.as rfl rfl (TL.as rfl rfl (TL.nil (TQ.then (TC.ret ?_)))))
          refine ret2 rfl rfl rfl (fun w' hp => ?_)
          first
            | (rw [hN] at ho; subst ho; exact ⟨_, _, rfl, ⟨_, rfl, rfl⟩, (hp)⟩)
            | (have hN : namedF c = none := by (unfold namedF; rw [if_neg c1, if_neg c2, if_neg c3, if_neg c4, if_neg c5, if_pos (by omega)])
               rw [hN] at ho; subst ho; exact ⟨_, _, rfl, ⟨.slice none 0 0, rfl, rfl⟩, new_nil _ 2 (hp)⟩)
            | (have hN : namedF c = some [(c, c)] := by (unfold namedF; rw [if_neg c1, if_neg c2, if_neg c3, if_neg c4, if_neg c5, if_neg (by omega)])
               rw [hN] at ho; subst ho; exact ⟨_, _, rfl, ⟨_, rfl, rfl⟩, (hp)⟩)
       ·refine TL.gFf rfl rfl rfl (TL.gFf rfl rfl rfl (TL.gT rfl rfl (TL.opP rfl (op_pickF rfl rfl) (TL.opP rfl (op_pickF rfl rfl) (TL.mv rfl rfl (TL.gT rfl rfl (TL.mv rfl rfl (TL.gT rfl rfl (TL.opP rfl (op_geq rfl rfl) (TL.gT rfl rfl (TL.opP rfl (op_move rfl) ?_)))))))))))
        refine TL.sp (fun c18 => ?_) (fun c18 => ?_)
        ·refine TL.gT rfl rfl (TL.mv rfl rfl (TL.gT rfl rfl (TL.opP rfl (op_leq rfl rfl) (TL.gT rfl rfl (TL.opP rfl (op_pickT rfl rfl) (TL.opP rfl (op_pickF rfl rfl) (TL.nil (TQ.then ?_))))))))
         refine TC.sp rfl (fun c19 => ?_) (fun c19 => ?_)
         ·refine TC.seq (TC.region (TL.as rfl rfl (TL.as rfl rfl (TL.nil (TQ.then (TC.ret (TQ.then_ret ?_)))))))
          refine ret2 rfl rfl rfl (fun w' hp => ?_)
          first
            | (rw [hN] at ho; subst ho; exact ⟨_, _, rfl, ⟨_, rfl, rfl⟩, (hp)⟩)
            | (have hN : namedF c = none := by (unfold namedF; rw [if_neg c1, if_neg c2, if_neg c3, if_neg c4, if_neg c5, if_pos (by omega)])
               rw [hN] at ho; subst ho; exact ⟨_, _, rfl, ⟨.slice none 0 0, rfl, rfl⟩, new_nil _ 2 (hp)⟩)
            | (have hN : namedF c = some [(c, c)] := by (unfold namedF; rw [if_neg c1, if_neg c2, if_neg c3, if_neg c4, if_neg c5, if_neg (by omega)])
               rw [hN] at ho; subst ho; exact ⟨_, _, rfl, ⟨_, rfl, rfl⟩, (hp)⟩)
         ·refine TC.skip (TQ.then (TC.seq (TC.region (TL.mv rfl rfl (TL.mv rfl rfl (TL.opP rfl (op_build (ps := #[(0, _), (1, _)]) rfl (bl_match_span_01 _ _)) ?_))))))
          refine TL.opX rfl (OpX.buildSlice (ps := #[(0, _)]) rfl (bs_match_span_1 (c, c))) ?_; rintro _ _ ⟨g54, rfl, rfl⟩
          refine TL.hp (fun _ h => blk_row (k := 2) (m := 1) h rfl (by decide)) (TL.as rfl rfl (TL.as rfl rfl (TL.nil (TQ.then (TC.ret ?_)))))
          refine ret2 rfl rfl rfl (fun w' hp => ?_)
          first
            | (rw [hN] at ho; subst ho; exact ⟨_, _, rfl, ⟨_, rfl, rfl⟩, (hp)⟩)
            | (have hN : namedF c = none := by (unfold namedF; rw [if_neg c1, if_neg c2, if_neg c3, if_neg c4, if_neg c5, if_pos (by omega)])
               rw [hN] at ho; subst ho; exact ⟨_, _, rfl, ⟨.slice none 0 0, rfl, rfl⟩, new_nil _ 2 (hp)⟩)
            | (have hN : namedF c = some [(c, c)] := by (unfold namedF; rw [if_neg c1, if_neg c2, if_neg c3, if_neg c4, if_neg c5, if_neg (by omega)])
               rw [hN] at ho; subst ho; exact ⟨_, _, rfl, ⟨_, rfl, rfl⟩, (hp)⟩)
        ·refine TL.gFf rfl rfl rfl (TL.gFf rfl rfl rfl (TL.gT rfl rfl (TL.opP rfl (op_pickF rfl rfl) (TL.opP rfl (op_pickF rfl rfl) (TL.nil (TQ.then (TC.condF rfl (TC.skip (TQ.then (TC.seq (TC.region (TL.mv rfl rfl (TL.mv rfl rfl (TL.opP rfl (op_build (ps := #[(0, _), (1, _)]) rfl (bl_match_span_01 _ _)) ?_))))))))))))))
         refine TL.opX rfl (OpX.buildSlice (ps := #[(0, _)]) rfl (bs_match_span_1 (c, c))) ?_; rintro _ _ ⟨g54, rfl, rfl⟩
         refine TL.hp (fun _ h => blk_row (k := 2) (m := 1) h rfl (by decide)) (TL.as rfl rfl (TL.as rfl rfl (TL.nil (TQ.then (TC.ret ?_)))))
         refine ret2 rfl rfl rfl (fun w' hp => ?_)
         first
           | (rw [hN] at ho; subst ho; exact ⟨_, _, rfl, ⟨_, rfl, rfl⟩, (hp)⟩)
           | (have hN : namedF c = none := by (unfold namedF; rw [if_neg c1, if_neg c2, if_neg c3, if_neg c4, if_neg c5, if_pos (by omega)])
              rw [hN] at ho; subst ho; exact ⟨_, _, rfl, ⟨.slice none 0 0, rfl, rfl⟩, new_nil _ 2 (hp)⟩)
           | (have hN : namedF c = some [(c, c)] := by (unfold namedF; rw [if_neg c1, if_neg c2, if_neg c3, if_neg c4, if_neg c5, if_neg (by omega)])
              rw [hN] at ho; subst ho; exact ⟨_, _, rfl, ⟨_, rfl, rfl⟩, (hp)⟩)

theorem escF_a {l : List Int} {i : Nat} (h : ¬ i < l.length) : escF l i = .err 90 i := if_neg h
theorem escF_b {l : List Int} {i : Nat} (h : i < l.length) (h2 : namedF (nx l i) = none) : escF l i = .err 90 i := by unfold escF; rw [if_pos h, h2]
theorem escF_c {l : List Int} {i : Nat} {s : List (Int × Int)} (h : i < l.length) (h2 : namedF (nx l i) = some s) : escF l i = .ok s (i + 1) 0 := by unfold escF; rw [if_pos h, h2]
theorem pesc_x (l : List Int) (lv : Value) (g i gn : Nat) (hxl : Rdb F lv 1 l.length (l.map (Value.int .i32))) (hln : l.length ≤ 200) (rs : List Res)  :
    CallX Tryd.prog 159 [.pointer (some ⟨g, 0, none⟩)] S w0 (fz rs :: .blk g (.cells [lv, .int .i64 (((i : Nat) : Int) : Int), .int .i64 (((gn : Nat) : Int) : Int)].toArray 193 (0, 0)) :: F) (fun u L' => ∃ rs' i' g' v e, u = .tuple #[v, .int .i64 e] ∧ PRes rs rs' (escN (escF l i) gn) i' g' v e ∧ L' = fz rs' :: .blk g (.cells [lv, .int .i64 (((i' : Nat) : Int) : Int), .int .i64 (((g' : Nat) : Int) : Int)].toArray 193 (0, 0)) :: F) := by
 intro w hp
 obtain ⟨o, ho⟩ : ∃ o, namedF (nx l i) = o := ⟨_, rfl⟩
 refine calls_start Tryd.func159 rfl rfl rfl (hp) ?_
 refine TC.seq (TC.region (TL.as rfl rfl (TL.as rfl rfl (TL.nil (TQ.then (TC.seq (TC.seq (TC.region (TL.mv rfl rfl (TL.hp (fun _ h => h.pick1) ?_))))))))))
 refine TL.opX rfl (OpX.callX en_126 rfl (pmore_x l _ _ _ _ hxl.cons hln)) ?_; rintro _ _ ⟨rfl, rfl⟩
 refine TL.opP rfl (op_not rfl rfl) (TL.nil (TQ.then ?_))
 refine TC.sp rfl (fun c1 => ?_) (fun c1 => ?_)
 ·refine TC.seq (TC.region (TL.as rfl rfl (TL.as rfl rfl (TL.nil (TQ.then (TC.ret (TQ.then_ret ?_)))))))
  refine ret2 rfl rfl rfl (fun w' hp => ?_)
  exact ⟨_, _, rfl, ⟨rs, i, gn, _, _, rfl, by rw [escF_a (by omega)]; exact .err (fun _ hx => hx) (by decide), rfl⟩, (hp.pick1)⟩
 ·refine TC.skip (TQ.then (TC.seq (TC.region (TL.opP rfl (op_move rfl) ?_))))
  refine TL.opX rfl (OpX.callX en_153 rfl (pnext_x l _ _ _ _ hxl.cons hln (by omega))) ?_; rintro _ _ ⟨rfl, rfl⟩
  refine TL.opX rfl (OpX.callX en_162 rfl (pnamed_x _ o ho)) ?_; rintro _ _ ⟨sv3, rfl, rfl⟩
  refine TL.know (fun _ h => row1 h) (fun hsv => (TL.mv rfl rfl (TL.opP rfl (op_extract rfl rfl) (TL.opP rfl (op_extract rfl rfl) (TL.as rfl rfl (TL.as rfl rfl (TL.nil (TQ.then (TC.seq (TC.seq (TC.region (TL.mv rfl rfl (TL.opP rfl (op_not rfl rfl) (TL.nil (TQ.then ?_)))))))))))))))
  refine TC.sp rfl (fun c2 => ?_) (fun c2 => ?_)
  ·obtain rfl : o = none := by cases o with | none => rfl | some x => exact absurd c2 (by simp)
   refine TC.seq (TC.region (TL.as rfl rfl (TL.as rfl rfl (TL.nil (TQ.then (TC.ret (TQ.then_ret ?_)))))))
   refine ret2 rfl rfl rfl (fun w' hp => ?_)
   exact ⟨_, _, rfl, ⟨rs, i, gn, _, _, rfl, by rw [escF_b (by omega) ho]; exact .err (fun _ hx => hx) (by decide), rfl⟩, (hp.tail.pick1)⟩
  ·obtain ⟨s, rfl⟩ : ∃ x, o = some x := by cases o with | none => exact absurd c2 (by simp) | some x => exact ⟨x, rfl⟩
   refine TC.skip (TQ.then (TC.seq (TC.region (TL.mv rfl rfl (TL.opP rfl (op_nilCheck rfl) (TL.opP rfl (op_field fld_match_reader_at rfl) (TL.opV rfl (op_load ts_int rfl m1 rfl) (TL.opP rfl (op_add rfl rfl rfl (by omega) (by omega)) (TL.opP rfl (op_nilCheck rfl) (TL.opP rfl (op_field fld_match_reader_at rfl) (TL.hp (fun _ h => h.pick1) ?_)))))))))))
   refine TL.opX0 (OpX.store1 ts_int rfl rfl (by first | rfl | assumption) rfl rfl) ?_; rintro _ _ rfl
   refine TL.nil (TQ.then (TC.seq (TC.region (TL.mv rfl rfl (TL.opP rfl (op_build (ps := #[(0, _), (2, _)]) rfl (bl_match_node_02 _ _)) ?_)))))
   refine TL.opX rfl (OpX.box (cs := _) rfl rfl) ?_; rintro _ _ ⟨g26, rfl, rfl⟩
   refine TL.as rfl rfl (TL.as rfl rfl (TL.nil (TQ.then (TC.ret ?_))))
   refine ret2 rfl rfl rfl (fun w' hp => ?_)
   exact ⟨_, _, rfl, ⟨_, i + 1, gn, _, _, rfl, by rw [escF_c (by omega) ho]; exact .cls (fun _ hx => hx), rfl⟩, fz_blk (Hp.pick1 (fz_row (hp.pick1.pick1.pick3.pick3)))⟩

theorem escN_ok {r : PR (List (Int × Int))} {g j g' : Nat} {t : Nd} (h : escN r g = .ok t j g') : ∃ s g0, r = .ok s j g0 ∧ t = .cls false s ∧ g' = g := by
  cases r with
  | err e i => cases h
  | ok s i g0 => cases h; exact ⟨s, g0, rfl, rfl, rfl⟩
theorem escN_err {r : PR (List (Int × Int))} {g j : Nat} {e : Int} (h : escN r g = .err e j) : r = .err e j := by
  cases r with
  | err e i => cases h; rfl
  | ok s i g0 => cases h
theorem namedF_len {c : Int} {s : List (Int × Int)} (h : namedF c = some s) : s.length ≤ 4 := by
  unfold namedF at h
  split at h
  · cases h; decide
  · split at h
    · cases h; decide
    · split at h
      · cases h; decide
      · split at h
        · cases h; decide
        · split at h
          · cases h; decide
          · split at h
            · cases h
            · cases h; exact Nat.succ_le_succ (Nat.zero_le _)
def setN (r : PR Nd) (g : Nat) : PR Nd := match r with
  | .err e j => .err e j
  | .ok t j _ => .ok t j g
section
variable {l : List Int} {neg : Bool} {f i j g : Nat} {acc s : List (Int × Int)} {e : Int}
theorem setGo_end0 (h : nx l i = 93) : setGo l neg (f + 1) i [] = .err 90 i := by rw [setGo, if_pos h, if_pos rfl]
theorem setGo_end1 (h : nx l i = 93) (ha : acc ≠ []) : setGo l neg (f + 1) i acc = .ok (.cls neg acc) (i + 1) 0 := by rw [setGo, if_pos h, if_neg ha]
theorem setGo_out (h : ¬ nx l i = 93) (h2 : ¬ i < l.length ∨ nx l i = 91) : setGo l neg (f + 1) i acc = .err 90 i := by rw [setGo, if_neg h, if_pos h2]
theorem setGo_ex (h : ¬ nx l i = 93) (h2 : i < l.length) (h3 : ¬ nx l i = 91) (h4 : nx l i = 92) (h5 : escF l (i + 1) = .err e j) : setGo l neg (f + 1) i acc = .err e j := by rw [setGo, if_neg h, if_neg (by omega), if_pos h4, h5]
theorem setGo_es (h : ¬ nx l i = 93) (h2 : i < l.length) (h3 : ¬ nx l i = 91) (h4 : nx l i = 92) (h5 : escF l (i + 1) = .ok s j g) : setGo l neg (f + 1) i acc = setGo l neg f j (acc ++ s) := by rw [setGo, if_neg h, if_neg (by omega), if_pos h4, h5]
theorem setGo_bad (h : ¬ nx l i = 93) (h2 : i < l.length) (h3 : ¬ nx l i = 91) (h4 : ¬ nx l i = 92) (h5 : i + 1 + 1 < l.length) (h6 : nx l (i + 1) = 45) (h7 : nx l (i + 2) ≠ 93) (h8 : nx l (i + 2) < nx l i ∨ nx l (i + 2) = 92 ∨ nx l (i + 2) = 91) : setGo l neg (f + 1) i acc = .err 90 (i + 2) := by
  rw [setGo, if_neg h, if_neg (by omega), if_neg h4, if_pos ⟨h5, h6, h7⟩, if_pos h8]
theorem setGo_rng (h : ¬ nx l i = 93) (h2 : i < l.length) (h3 : ¬ nx l i = 91) (h4 : ¬ nx l i = 92) (h5 : i + 1 + 1 < l.length) (h6 : nx l (i + 1) = 45) (h7 : nx l (i + 2) ≠ 93) (h8 : ¬ (nx l (i + 2) < nx l i ∨ nx l (i + 2) = 92 ∨ nx l (i + 2) = 91)) : setGo l neg (f + 1) i acc = setGo l neg f (i + 3) (acc ++ [(nx l i, nx l (i + 2))]) := by
  rw [setGo, if_neg h, if_neg (by omega), if_neg h4, if_pos ⟨h5, h6, h7⟩, if_neg h8]
theorem setGo_one (h : ¬ nx l i = 93) (h2 : i < l.length) (h3 : ¬ nx l i = 91) (h4 : ¬ nx l i = 92) (h5 : ¬ rangeB l (i + 1)) : setGo l neg (f + 1) i acc = setGo l neg f (i + 1) (acc ++ [(nx l i, nx l i)]) := by
  rw [setGo, if_neg h, if_neg (by omega), if_neg h4, if_neg h5]
end
set_option maxHeartbeats 1000000
theorem pset_x (l : List Int) (lv : Value) (g i gn : Nat) (hxl : Rdb F lv 1 l.length (l.map (Value.int .i32))) (hln : l.length ≤ 200) (rs : List Res) (hi : i ≤ l.length) :
    CallX Tryd.prog 158 [.pointer (some ⟨g, 0, none⟩)] S w0 (fz rs :: .blk g (.cells [lv, .int .i64 (((i : Nat) : Int) : Int), .int .i64 (((gn : Nat) : Int) : Int)].toArray 193 (0, 0)) :: F) (fun u L' => ∃ rs' i' g' v e, u = .tuple #[v, .int .i64 e] ∧ PRes rs rs' (setN (setF l i) gn) i' g' v e ∧ L' = fz rs' :: .blk g (.cells [lv, .int .i64 (((i' : Nat) : Int) : Int), .int .i64 (((g' : Nat) : Int) : Int)].toArray 193 (0, 0)) :: F) := by
 intro w hp
 obtain ⟨i0, hi0⟩ : ∃ i0, (if nx l i = 94 then i + 1 else i) = i0 := ⟨_, rfl⟩
 obtain ⟨neg, hneg⟩ : ∃ b, decide (nx l i = 94) = b := ⟨_, rfl⟩
 have hset : setGo l neg (l.length + 1 - i) i0 [] = setF l i := by unfold setF; rw [← hi0, ← hneg]; by_cases h : nx l i = 94 <;> simp [h]
 have hi0b : i0 ≤ l.length ∧ i ≤ i0 := by
   rw [← hi0]; split
   · have := nx_some ‹_› (by decide); omega
   · omega
 refine calls_start Tryd.func158 rfl rfl rfl (hp) ?_
 refine TC.seq (TC.region (TL.as rfl rfl (TL.as rfl rfl (TL.nil (TQ.then (TC.seq (TC.region (TL.mv rfl rfl (TL.hp (fun _ h => h.pick1) ?_)))))))))
 refine TL.opX rfl (OpX.callX en_145 rfl (pis_x l _ _ _ _ hxl.cons hln 94 (by omega))) ?_; rintro _ _ ⟨rfl, rfl⟩
 rw [hi0, hneg]
 refine TL.opP rfl (op_build (ps := #[(0, _), (1, _)]) rfl (bl_match_node_01 _ _)) ?_
 refine TL.opX rfl (OpX.box (cs := _) rfl rfl) ?_; rintro _ _ ⟨g12, rfl, rfl⟩
 refine TL.hp (fun _ h => new_nil 210 2 h) (TL.as rfl rfl (TL.nil (TQ.then (TC.seq (TC.block (TC.loop (ι := Nat × Nat × List (Int × Int) × Value × List Res) (fun (f, k, acc, sv, rs1) => [(0, .pointer (some ⟨g, 0, none⟩)), (4, .pointer (some ⟨g12, 0, none⟩))]) (fun (f, k, acc, sv, rs1) => .blk g12 (.cells (nodeC 1 neg sv nilS 0 0 false 0).toArray 198 (0, 0)) :: .row sv 210 2 (acc).length (spC (acc)) :: fz rs1 :: .blk g (.cells [lv, .int .i64 (((k : Nat) : Int) : Int), .int .i64 (((gn : Nat) : Int) : Int)].toArray 193 (0, 0)) :: F) (fun (f, k, acc, sv, rs1) => k ≤ l.length ∧ l.length < k + f ∧ acc.length ≤ 4 * k ∧ sv.oneCell' = true ∧ rs ⊆ rs1 ∧ setGo l neg f k acc = setF l i) (fun (f, k, acc, sv, rs1) => l.length - k) ((l.length + 1 - i, i0, [], .slice none 0 0, rs)) (⟨hi0b.1, by omega, Nat.zero_le _, rfl, fun _ hx => hx, hset⟩) ⟨rfl, rfl, trivial⟩ (fun _ h => h.pick2.pick3.pick2.pick3) ?_))))))
 rintro ⟨f, k, acc, sv, rs1⟩ ⟨hk, hf, hal, hsv, hrs, hg⟩
 obtain ⟨f, rfl⟩ : ∃ f', f = f' + 1 := ⟨f - 1, by omega⟩
 show TC _ _ _ _ [(0, .pointer (some ⟨g, 0, none⟩)), (4, .pointer (some ⟨g12, 0, none⟩))] _ _ (.blk g12 (.cells (nodeC 1 neg sv nilS 0 0 false 0).toArray 198 (0, 0)) :: .row sv 210 2 (acc).length (spC (acc)) :: fz rs1 :: .blk g (.cells [lv, .int .i64 (((k : Nat) : Int) : Int), .int .i64 (((gn : Nat) : Int) : Int)].toArray 193 (0, 0)) :: F)
 refine TC.seq (TC.seq (TC.region (TL.mv rfl rfl (TL.hp (fun _ h => h.pick3) ?_))))
 refine TL.opX rfl (OpX.callX en_145 rfl (pis_x l _ _ _ _ hxl.cons.cons.cons hln 93 (by omega))) ?_; rintro _ _ ⟨rfl, rfl⟩
 refine TL.opP rfl (op_not rfl rfl) (TL.nil (TQ.then ?_))
 refine TC.sp rfl (fun c1 => ?_) (fun c1 => ?_)
 ·rw [if_neg c1]
  refine TC.skip (TQ.then (TC.block (TC.seq (TC.seq (TC.region (TL.opP rfl (op_move rfl) ?_))))))
  refine TL.opX rfl (OpX.callX en_126 rfl (pmore_x l _ _ _ _ hxl.cons.cons.cons hln)) ?_; rintro _ _ ⟨rfl, rfl⟩
  refine TL.opP rfl (op_not rfl rfl) (TL.opP rfl (op_move rfl) ?_)
  refine TL.sp (fun c2 => ?_) (fun c2 => ?_)
  ·refine TL.gFt rfl rfl rfl (TL.gFt rfl rfl rfl (TL.gFt rfl rfl rfl (TL.opP rfl (op_pickT rfl rfl) (TL.nil (TQ.then (TC.condT rfl (TC.seq (TC.region (TL.as rfl rfl (TL.as rfl rfl (TL.nil (TQ.then (TC.ret (TQ.then_ret (TQ.block_ret (TQ.loop_ret (TQ.block_ret (TQ.then_ret ?_))))))))))))))))))
   refine ret2 rfl rfl rfl (fun w' hp => ?_)
   first
     | exact ⟨_, _, rfl, ⟨rs1, k, gn, _, _, rfl, by (rw [← hg, setGo_out c1 (by omega)]; exact .err hrs (by decide)), rfl⟩, Hp.drop1 (Hp.tail (hp.pick1.pick3.pick3))⟩
     | exact ⟨_, _, rfl, ⟨_, _, _, _, _, rfl, by (rw [← hg, setGo_ex c1 (by omega) c3 c4 (escN_err hE)]; exact .err (fun x hx => «hR?».sub (hrs hx)) c5), rfl⟩, Hp.drop1 (Hp.tail (hp.pick1.pick3.pick3))⟩
     | exact ⟨_, _, rfl, ⟨rs1, k + 2, gn, _, _, rfl, by (rw [← hg, setGo_bad c1 (by omega) c3 c4 (by omega) c7 (by omega) (by omega)]; exact .err hrs (by decide)), rfl⟩, Hp.drop1 (Hp.tail (hp.pick1.pick3.pick3))⟩
     | (obtain rfl : acc = [] := List.length_eq_zero_iff.1 (by omega)
        exact ⟨_, _, rfl, ⟨rs1, k, gn, _, _, rfl, by (rw [← hg, setGo_end0 c1]; exact .err hrs (by decide)), rfl⟩, Hp.drop1 (Hp.tail (hp.pick1.pick3.pick3))⟩)
     | (have hne : acc ≠ [] := by (rintro rfl; exact c12 rfl)
        exact ⟨_, _, rfl, ⟨_, k + 1, gn, _, _, rfl, by (rw [← hg, setGo_end1 c1 hne]; exact .cls hrs), rfl⟩, fz_blk (Hp.pick1 (fz_row (hp.pick1.pick3.pick3)))⟩)
  ·refine TL.gT rfl rfl (TL.mv rfl rfl (TL.gT rfl rfl ?_))
   refine TL.opX rfl (OpX.callX en_153 rfl (pnext_x l _ _ _ _ hxl.cons.cons.cons hln (by omega))) ?_; rintro _ _ ⟨rfl, rfl⟩
   refine TL.gT rfl rfl (TL.opP rfl (op_eql rfl rfl) (TL.opP rfl (op_pickF rfl rfl) (TL.nil (TQ.then ?_))))
   refine TC.sp rfl (fun c3 => ?_) (fun c3 => ?_)
   ·refine TC.seq (TC.region (TL.as rfl rfl (TL.as rfl rfl (TL.nil (TQ.then (TC.ret (TQ.then_ret (TQ.block_ret (TQ.loop_ret (TQ.block_ret (TQ.then_ret ?_)))))))))))
    refine ret2 rfl rfl rfl (fun w' hp => ?_)
    first
      | exact ⟨_, _, rfl, ⟨rs1, k, gn, _, _, rfl, by (rw [← hg, setGo_out c1 (by omega)]; exact .err hrs (by decide)), rfl⟩, Hp.drop1 (Hp.tail (hp.pick1.pick3.pick3))⟩
      | exact ⟨_, _, rfl, ⟨_, _, _, _, _, rfl, by (rw [← hg, setGo_ex c1 (by omega) c3 c4 (escN_err hE)]; exact .err (fun x hx => «hR?».sub (hrs hx)) c5), rfl⟩, Hp.drop1 (Hp.tail (hp.pick1.pick3.pick3))⟩
      | exact ⟨_, _, rfl, ⟨rs1, k + 2, gn, _, _, rfl, by (rw [← hg, setGo_bad c1 (by omega) c3 c4 (by omega) c7 (by omega) (by omega)]; exact .err hrs (by decide)), rfl⟩, Hp.drop1 (Hp.tail (hp.pick1.pick3.pick3))⟩
      | (obtain rfl : acc = [] := List.length_eq_zero_iff.1 (by omega)
         exact ⟨_, _, rfl, ⟨rs1, k, gn, _, _, rfl, by (rw [← hg, setGo_end0 c1]; exact .err hrs (by decide)), rfl⟩, Hp.drop1 (Hp.tail (hp.pick1.pick3.pick3))⟩)
      | (have hne : acc ≠ [] := by (rintro rfl; exact c12 rfl)
         exact ⟨_, _, rfl, ⟨_, k + 1, gn, _, _, rfl, by (rw [← hg, setGo_end1 c1 hne]; exact .cls hrs), rfl⟩, fz_blk (Hp.pick1 (fz_row (hp.pick1.pick3.pick3)))⟩)
   ·refine TC.skip (TQ.then (TC.seq (TC.seq (TC.region (TL.opP rfl (op_move rfl) ?_)))))
    refine TL.opX rfl (OpX.callX en_145 rfl (pis_x l _ _ _ _ hxl.cons.cons.cons hln 92 (by omega))) ?_; rintro _ _ ⟨rfl, rfl⟩
    refine TL.nil (TQ.then ?_)
    refine TC.sp rfl (fun c4 => ?_) (fun c4 => ?_)
    ·rw [if_pos c4]
     refine TC.seq (TC.region (TL.mv rfl rfl (TL.hp (fun _ h => h.pick3) ?_)))
     refine TL.opX rfl (OpX.callX en_159 rfl (pesc_x l _ _ _ _ hxl.cons.cons hln rs1)) ?_; rintro _ _ ⟨rz6, iz6, gz6, vz6, ez6, rfl, hR6, rfl⟩
     refine TL.mv rfl rfl (TL.opP rfl (op_extract rfl rfl) (TL.opP rfl (op_extract rfl rfl) (TL.as rfl rfl (TL.as rfl rfl (TL.nil (TQ.then (TC.seq (TC.seq (TC.region (TL.mv rfl rfl (TL.opP rfl (op_neq rfl rfl) (TL.nil (TQ.then ?_)))))))))))))
     refine TC.sp rfl (fun c5 => ?_) (fun c5 => ?_)
     ·obtain ⟨hE, rfl⟩ := hR6.bad c5
      refine TC.seq (TC.region (TL.mv rfl rfl (TL.as rfl rfl (TL.as rfl rfl (TL.nil (TQ.then (TC.ret (TQ.then_ret (TQ.then_ret (TQ.block_ret (TQ.loop_ret (TQ.block_ret (TQ.then_ret ?_)))))))))))))
      refine ret2 rfl rfl rfl (fun w' hp => ?_)
      first
        | exact ⟨_, _, rfl, ⟨rs1, k, gn, _, _, rfl, by (rw [← hg, setGo_out c1 (by omega)]; exact .err hrs (by decide)), rfl⟩, Hp.drop1 (Hp.tail (hp.pick1.pick2.pick2.pick3))⟩
        | exact ⟨_, _, rfl, ⟨_, _, _, _, _, rfl, by (rw [← hg, setGo_ex c1 (by omega) c3 c4 (escN_err hE)]; exact .err (fun x hx => hR6.sub (hrs hx)) c5), rfl⟩, Hp.drop1 (Hp.tail (hp.pick1.pick2.pick2.pick3))⟩
        | exact ⟨_, _, rfl, ⟨rs1, k + 2, gn, _, _, rfl, by (rw [← hg, setGo_bad c1 (by omega) c3 c4 (by omega) c7 (by omega) (by omega)]; exact .err hrs (by decide)), rfl⟩, Hp.drop1 (Hp.tail (hp.pick1.pick2.pick2.pick3))⟩
        | (obtain rfl : acc = [] := List.length_eq_zero_iff.1 (by omega)
           exact ⟨_, _, rfl, ⟨rs1, k, gn, _, _, rfl, by (rw [← hg, setGo_end0 c1]; exact .err hrs (by decide)), rfl⟩, Hp.drop1 (Hp.tail (hp.pick1.pick2.pick2.pick3))⟩)
        | (have hne : acc ≠ [] := by (rintro rfl; exact c12 rfl)
           exact ⟨_, _, rfl, ⟨_, k + 1, gn, _, _, rfl, by (rw [← hg, setGo_end1 c1 hne]; exact .cls hrs), rfl⟩, fz_blk (Hp.pick1 (fz_row (hp.pick1.pick2.pick2.pick3)))⟩)
     ·obtain ⟨tE, hE, hP⟩ := hR6.good c5
      obtain ⟨s, g0, hF, rfl, rfl⟩ := escN_ok hE
      obtain ⟨ea, eb, ec⟩ := escF_adv hF
      unfold PNd at hP
      obtain ⟨g5, sw, rfl, hnb, hns⟩ := hP
      have hs4 := namedF_len ec
      have hrz := hR6.sub
      refine TC.skip (TQ.then (TC.seq (TC.draw [9, 12] (.cons (.p, 0) (.cons (.p, 1) (.cons (.p, 2) (.cons (.p, 3) (.cons (.p, 5) (.cons (.p, 6) (.cons (.p, 7) (.cons (.t, 4) (.cons (.t, 8) (.cons (.z, 9) (.cons (.p, 10) (.cons (.p, 11) (.cons (.z, 12) (.nil)))))))))))))) mo (by kernel_rfl) (TR.p rfl rfl wt0 (op_move rfl) (TR.p rfl rfl wt0 (op_move rfl) (TR.p rfl rfl wt0 (op_nilCheck rfl) (TR.p rfl rfl wt0 (op_field fld_match_node_spans rfl) (TR.p rfl rfl wt0 (op_move rfl) (TR.p rfl rfl wt0 (op_nilCheck rfl) (TR.p rfl rfl wt0 (op_field fld_match_node_spans rfl) (TR.t rfl rfl wt0 (op_load ts_sl_match_span rfl m2 rfl) (fun _ h => h) (TR.t rfl rfl wt0 (op_loadB ts_sl_match_span rfl (bkb_fz m0 hnb) rfl) (fun _ h => h) ?_))))))))))))
      refine TR.hp (fun _ h => h.pick3) ?_
      refine TR.z rfl rfl wt0 (OpX.append (bytes := 8) tsl_match_span (by decide) (by decide) rfl (rdb_fz m1 hns) (spC_one _) (by omega) (zs := spC (acc ++ s)) (spC_append _ _).symm) ?_; rintro v7 _ rfl
      refine TR.know (fun _ h => row1 h) (fun o7 => (TR.hp (fun _ h => row_lenS h) (TR.p rfl rfl wt0 (op_nilCheck rfl) (TR.p rfl rfl wt0 (op_field fld_match_node_spans rfl) (TR.hp (fun _ h => h.pick3) ?_)))))
      refine TR.z0 rfl wt0 (OpX.store1 ts_sl_match_span rfl rfl (by first | rfl | assumption) rfl rfl) ?_; rintro _ _ rfl
      refine TR.nil (TQ.then (TC.exit (TQ.then_exit (TQ.block_hit ?_))))
      exact TQ.round (f, iz6, acc ++ s, v7, rz6) (⟨by omega, by omega, by rw [List.length_append]; omega, by assumption, fun x hx => hrz (hrs hx), by rw [← hg, setGo_es c1 (by omega) c3 c4 hF]⟩) ((by show _ - _ < _ - k; omega)) ⟨rfl, rfl, trivial⟩ (fun _ h => h)
    ·rw [if_neg c4]
     refine TC.skip (TQ.then (TC.seq (TC.region (TL.opP rfl (op_move rfl) ?_))))
     refine TL.opX rfl (OpX.callX en_153 rfl (pnext_x l _ _ _ _ hxl.cons.cons.cons hln (by omega))) ?_; rintro _ _ ⟨rfl, rfl⟩
     refine TL.as rfl rfl (TL.nil (TQ.then (TC.seq (TC.region (TL.mv rfl rfl (TL.opP rfl (op_nilCheck rfl) (TL.opP rfl (op_field fld_match_reader_at rfl) (TL.opV rfl (op_load ts_int rfl m0 rfl) (TL.opP rfl (op_add (r := ((k + 1 : Nat) : Int)) rfl rfl (by omega) (by omega) (by omega)) (TL.opP rfl (op_nilCheck rfl) (TL.opP rfl (op_field fld_match_reader_at rfl) ?_)))))))))))
     refine TL.opX0 (OpX.store1 ts_int rfl rfl (by first | rfl | assumption) rfl rfl) ?_; rintro _ _ rfl
     refine TL.nil (TQ.then (TC.seq (TC.region (TL.mv rfl rfl (TL.as rfl rfl (TL.nil (TQ.then (TC.seq (TC.seq (TC.draw [] (.cons (.p, 0) (.cons (.p, 1) (.cons (.p, 2) (.cons (.p, 5) (.cons (.p, 6) (.cons (.p, 7) (.cons (.t, 3) (.cons (.p, 4) (.cons (.t, 8) (.cons (.t, 9) (.cons (.p, 10) (.cons (.p, 11) (.cons (.p, 12) (.cons (.o, 13) (.cons (.p, 14) (.cons (.p, 15) (.cons (.p, 16) (.cons (.p, 17) (.cons (.p, 18) (.cons (.p, 19) (.cons (.p, 21) (.cons (.p, 22) (.cons (.p, 23) (.cons (.t, 20) (.cons (.t, 24) (.cons (.p, 25) (.cons (.t, 26) (.cons (.t, 27) (.cons (.p, 28) (.cons (.p, 29) (.nil))))))))))))))))))))))))))))))) mo (by kernel_rfl) (TR.p rfl rfl wt0 (op_move rfl) (TR.p rfl rfl wt0 (op_nilCheck rfl) ?_))))))))))))
     refine TR.p rfl rfl wt0 (op_field fld_match_reader_at rfl) (TR.p rfl rfl wt0 (op_move rfl) (TR.p rfl rfl wt0 (op_nilCheck rfl) (TR.p rfl rfl wt0 (op_field fld_match_reader_l rfl) (TR.t rfl rfl wt0 (op_load ts_int rfl m0 rfl) (fun _ h => h) (TR.p rfl rfl wt0 (op_add (r := ((k + 1 + 1 : Nat) : Int)) rfl rfl (by omega) (by omega) (by omega)) (TR.t rfl rfl wt0 (op_load ts_sl_int32 rfl m0 rfl) (fun _ h => h) (TR.t rfl rfl wt0 (op_lenV rfl un_sl_int32 rfl hxl.cons.cons.cons.cons) (fun _ h => h) (TR.p rfl rfl wt0 (op_lss rfl rfl) (TR.p rfl rfl wt0 (op_move rfl) ?_)))))))))
     first | refine TR.splitD (fun c6 => ?_) (fun c6 => ?_) | refine TR.splitN (fun c6 => ?_) (fun c6 => ?_) | refine TR.splitB (fun c6 => ?_) (fun c6 => ?_)
     ·refine TR.p rfl rfl (by exact wtT rfl rfl) (op_move rfl) ?_
      refine TR.o rfl rfl (by exact wtT rfl rfl) (OpX.callX en_153 rfl (pnext_x l _ _ _ _ hxl.cons.cons.cons hln (by omega))) (by rintro _ _ ⟨rfl, rfl⟩; intro w h; exact h) ?_; rintro _ _ ⟨rfl, rfl⟩
      refine TR.p rfl rfl (by exact wtT rfl rfl) (op_eql rfl rfl) (TR.p rfl rfl wt0 (op_pickT rfl rfl) (TR.p rfl rfl wt0 (op_move rfl) ?_))
      first | refine TR.splitD (fun c7 => ?_) (fun c7 => ?_) | refine TR.splitN (fun c7 => ?_) (fun c7 => ?_) | refine TR.splitB (fun c7 => ?_) (fun c7 => ?_)
      ·refine TR.p rfl rfl (by exact wtT rfl rfl) (op_move rfl) (TR.p rfl rfl (by exact wtT rfl rfl) (op_nilCheck rfl) (TR.p rfl rfl (by exact wtT rfl rfl) (op_field fld_match_reader_l rfl) (TR.p rfl rfl (by exact wtT rfl rfl) (op_move rfl) (TR.p rfl rfl (by exact wtT rfl rfl) (op_nilCheck rfl) (TR.p rfl rfl (by exact wtT rfl rfl) (op_field fld_match_reader_at rfl) (TR.t rfl rfl (by exact wtT rfl rfl) (op_load ts_sl_int32 rfl m0 rfl) (fun _ h => h) (TR.t rfl rfl (by exact wtT rfl rfl) (op_load ts_int rfl m0 rfl) (fun _ h => h) (TR.p rfl rfl (by exact wtT rfl rfl) (op_add (r := ((k + 1 + 1 : Nat) : Int)) rfl rfl (by omega) (by omega) (by omega)) (TR.t rfl rfl (by exact wtT rfl rfl) (op_index tsl_int32 rfl hxl.cons.cons.cons.cons rfl (by omega) (by omega)) (fun _ h => h) ?_)))))))))
       refine TR.t rfl rfl (by exact wtT rfl rfl) (op_loadR ts_int32 rfl hxl.cons.cons.cons.cons (lkM (i := k + 2) (d := 0) (by omega) rfl (by omega))) (fun _ h => h) (TR.p rfl rfl (by exact wtT rfl rfl) (op_neq rfl rfl) (TR.p rfl rfl wt0 (op_pickT rfl rfl) (TR.nil (TQ.then ?_))))
       refine TC.sp rfl (fun c8 => ?_) (fun c8 => ?_)
       ·have hx2 : nx l (k + 2) = l.getD (k + 2) 0 := nx_in (by omega)
        refine TC.seq (TC.seq (TC.draw [] (.cons (.p, 0) (.cons (.p, 1) (.cons (.p, 2) (.cons (.p, 4) (.cons (.p, 5) (.cons (.p, 6) (.cons (.t, 3) (.cons (.t, 7) (.cons (.p, 8) (.cons (.t, 9) (.cons (.t, 10) (.cons (.p, 11) (.nil))))))))))))) mo (by kernel_rfl) (TR.p rfl rfl wt0 (op_move rfl) (TR.p rfl rfl wt0 (op_nilCheck rfl) (TR.p rfl rfl wt0 (op_field fld_match_reader_l rfl) (TR.p rfl rfl wt0 (op_move rfl) (TR.p rfl rfl wt0 (op_nilCheck rfl) (TR.p rfl rfl wt0 (op_field fld_match_reader_at rfl) (TR.t rfl rfl wt0 (op_load ts_sl_int32 rfl m0 rfl) (fun _ h => h) (TR.t rfl rfl wt0 (op_load ts_int rfl m0 rfl) (fun _ h => h) (TR.p rfl rfl wt0 (op_add (r := ((k + 1 + 1 : Nat) : Int)) rfl rfl (by omega) (by omega) (by omega)) ?_)))))))))))
        refine TR.t rfl rfl wt0 (op_index tsl_int32 rfl hxl.cons.cons.cons.cons rfl (by omega) (by omega)) (fun _ h => h) (TR.t rfl rfl wt0 (op_loadR ts_int32 rfl hxl.cons.cons.cons.cons (lkM (i := k + 2) (d := 0) (by omega) rfl (by omega))) (fun _ h => h) (TR.p rfl rfl wt0 (op_assign rfl) (TR.nil (TQ.then (TC.seq (TC.region (TL.mv rfl rfl (TL.mv rfl rfl (TL.opP rfl (op_lss rfl rfl) (TL.opP rfl (op_move rfl) ?_))))))))))
        refine TL.sp (fun c9 => ?_) (fun c9 => ?_)
        ·refine TL.gFt rfl rfl rfl (TL.gFt rfl rfl rfl (TL.opP rfl (op_pickT rfl rfl) (TL.mv rfl rfl (TL.gFt rfl rfl rfl (TL.gFt rfl rfl rfl (TL.opP rfl (op_pickT rfl rfl) (TL.nil (TQ.then (TC.condT rfl (TC.seq (TC.region (TL.mv rfl rfl (TL.opP rfl (op_nilCheck rfl) (TL.opP rfl (op_field fld_match_reader_at rfl) (TL.opV rfl (op_load ts_int rfl m0 rfl) (TL.opP rfl (op_add (r := ((k + 2 : Nat) : Int)) rfl rfl (by omega) (by omega) (by omega)) (TL.opP rfl (op_nilCheck rfl) (TL.opP rfl (op_field fld_match_reader_at rfl) ?_))))))))))))))))))
         refine TL.opX0 (OpX.store1 ts_int rfl rfl (by first | rfl | assumption) rfl rfl) ?_; rintro _ _ rfl
         refine TL.nil (TQ.then (TC.seq (TC.region (TL.as rfl rfl (TL.as rfl rfl (TL.nil (TQ.then (TC.ret (TQ.then_ret (TQ.then_ret (TQ.block_ret (TQ.loop_ret (TQ.block_ret (TQ.then_ret ?_))))))))))))))
         refine ret2 rfl rfl rfl (fun w' hp => ?_)
         first
           | exact ⟨_, _, rfl, ⟨rs1, k, gn, _, _, rfl, by (rw [← hg, setGo_out c1 (by omega)]; exact .err hrs (by decide)), rfl⟩, Hp.drop1 (Hp.tail (hp.pick1.pick3.pick3))⟩
           | exact ⟨_, _, rfl, ⟨_, _, _, _, _, rfl, by (rw [← hg, setGo_ex c1 (by omega) c3 c4 (escN_err hE)]; exact .err (fun x hx => «hR?».sub (hrs hx)) c5), rfl⟩, Hp.drop1 (Hp.tail (hp.pick1.pick3.pick3))⟩
           | exact ⟨_, _, rfl, ⟨rs1, k + 2, gn, _, _, rfl, by (rw [← hg, setGo_bad c1 (by omega) c3 c4 (by omega) c7 (by omega) (by omega)]; exact .err hrs (by decide)), rfl⟩, Hp.drop1 (Hp.tail (hp.pick1.pick3.pick3))⟩
           | (obtain rfl : acc = [] := List.length_eq_zero_iff.1 (by omega)
              exact ⟨_, _, rfl, ⟨rs1, k, gn, _, _, rfl, by (rw [← hg, setGo_end0 c1]; exact .err hrs (by decide)), rfl⟩, Hp.drop1 (Hp.tail (hp.pick1.pick3.pick3))⟩)
           | (have hne : acc ≠ [] := by (rintro rfl; exact c12 rfl)
              exact ⟨_, _, rfl, ⟨_, k + 1, gn, _, _, rfl, by (rw [← hg, setGo_end1 c1 hne]; exact .cls hrs), rfl⟩, fz_blk (Hp.pick1 (fz_row (hp.pick1.pick3.pick3)))⟩)
        ·refine TL.gT rfl rfl (TL.mv rfl rfl (TL.gT rfl rfl (TL.opP rfl (op_eql rfl rfl) (TL.opP rfl (op_pickF rfl rfl) (TL.opP rfl (op_move rfl) ?_)))))
         refine TL.sp (fun c10 => ?_) (fun c10 => ?_)
         ·refine TL.gFt rfl rfl rfl (TL.gFt rfl rfl rfl (TL.opP rfl (op_pickT rfl rfl) (TL.nil (TQ.then (TC.condT rfl (TC.seq (TC.region (TL.mv rfl rfl (TL.opP rfl (op_nilCheck rfl) (TL.opP rfl (op_field fld_match_reader_at rfl) (TL.opV rfl (op_load ts_int rfl m0 rfl) (TL.opP rfl (op_add (r := ((k + 2 : Nat) : Int)) rfl rfl (by omega) (by omega) (by omega)) (TL.opP rfl (op_nilCheck rfl) (TL.opP rfl (op_field fld_match_reader_at rfl) ?_))))))))))))))
          refine TL.opX0 (OpX.store1 ts_int rfl rfl (by first | rfl | assumption) rfl rfl) ?_; rintro _ _ rfl
          refine TL.nil (TQ.then (TC.seq (TC.region (TL.as rfl rfl (TL.as rfl rfl (TL.nil (TQ.then (TC.ret (TQ.then_ret (TQ.then_ret (TQ.block_ret (TQ.loop_ret (TQ.block_ret (TQ.then_ret ?_))))))))))))))
          refine ret2 rfl rfl rfl (fun w' hp => ?_)
          first
            | exact ⟨_, _, rfl, ⟨rs1, k, gn, _, _, rfl, by (rw [← hg, setGo_out c1 (by omega)]; exact .err hrs (by decide)), rfl⟩, Hp.drop1 (Hp.tail (hp.pick1.pick3.pick3))⟩
            | exact ⟨_, _, rfl, ⟨_, _, _, _, _, rfl, by (rw [← hg, setGo_ex c1 (by omega) c3 c4 (escN_err hE)]; exact .err (fun x hx => «hR?».sub (hrs hx)) c5), rfl⟩, Hp.drop1 (Hp.tail (hp.pick1.pick3.pick3))⟩
            | exact ⟨_, _, rfl, ⟨rs1, k + 2, gn, _, _, rfl, by (rw [← hg, setGo_bad c1 (by omega) c3 c4 (by omega) c7 (by omega) (by omega)]; exact .err hrs (by decide)), rfl⟩, Hp.drop1 (Hp.tail (hp.pick1.pick3.pick3))⟩
            | (obtain rfl : acc = [] := List.length_eq_zero_iff.1 (by omega)
               exact ⟨_, _, rfl, ⟨rs1, k, gn, _, _, rfl, by (rw [← hg, setGo_end0 c1]; exact .err hrs (by decide)), rfl⟩, Hp.drop1 (Hp.tail (hp.pick1.pick3.pick3))⟩)
            | (have hne : acc ≠ [] := by (rintro rfl; exact c12 rfl)
               exact ⟨_, _, rfl, ⟨_, k + 1, gn, _, _, rfl, by (rw [← hg, setGo_end1 c1 hne]; exact .cls hrs), rfl⟩, fz_blk (Hp.pick1 (fz_row (hp.pick1.pick3.pick3)))⟩)
         ·refine TL.gT rfl rfl (TL.mv rfl rfl (TL.gT rfl rfl (TL.opP rfl (op_eql rfl rfl) (TL.opP rfl (op_pickF rfl rfl) (TL.nil (TQ.then ?_))))))
          refine TC.sp rfl (fun c11 => ?_) (fun c11 => ?_)
          ·refine TC.seq (TC.region (TL.mv rfl rfl (TL.opP rfl (op_nilCheck rfl) (TL.opP rfl (op_field fld_match_reader_at rfl) (TL.opV rfl (op_load ts_int rfl m0 rfl) (TL.opP rfl (op_add (r := ((k + 2 : Nat) : Int)) rfl rfl (by omega) (by omega) (by omega)) (TL.opP rfl (op_nilCheck rfl) (TL.opP rfl (op_field fld_match_reader_at rfl) ?_))))))))
           refine TL.opX0 (OpX.store1 ts_int rfl rfl (by first | rfl | assumption) rfl rfl) ?_; rintro _ _ rfl
           refine TL.nil (TQ.then (TC.seq (TC.region (TL.as rfl rfl (TL.as rfl rfl (TL.nil (TQ.then (TC.ret (TQ.then_ret (TQ.then_ret (TQ.block_ret (TQ.loop_ret (TQ.block_ret (TQ.then_ret ?_))))))))))))))
           refine ret2 rfl rfl rfl (fun w' hp => ?_)
           first
             | exact ⟨_, _, rfl, ⟨rs1, k, gn, _, _, rfl, by (rw [← hg, setGo_out c1 (by omega)]; exact .err hrs (by decide)), rfl⟩, Hp.drop1 (Hp.tail (hp.pick1.pick3.pick3))⟩
             | exact ⟨_, _, rfl, ⟨_, _, _, _, _, rfl, by (rw [← hg, setGo_ex c1 (by omega) c3 c4 (escN_err hE)]; exact .err (fun x hx => «hR?».sub (hrs hx)) c5), rfl⟩, Hp.drop1 (Hp.tail (hp.pick1.pick3.pick3))⟩
             | exact ⟨_, _, rfl, ⟨rs1, k + 2, gn, _, _, rfl, by (rw [← hg, setGo_bad c1 (by omega) c3 c4 (by omega) c7 (by omega) (by omega)]; exact .err hrs (by decide)), rfl⟩, Hp.drop1 (Hp.tail (hp.pick1.pick3.pick3))⟩
             | (obtain rfl : acc = [] := List.length_eq_zero_iff.1 (by omega)
                exact ⟨_, _, rfl, ⟨rs1, k, gn, _, _, rfl, by (rw [← hg, setGo_end0 c1]; exact .err hrs (by decide)), rfl⟩, Hp.drop1 (Hp.tail (hp.pick1.pick3.pick3))⟩)
             | (have hne : acc ≠ [] := by (rintro rfl; exact c12 rfl)
                exact ⟨_, _, rfl, ⟨_, k + 1, gn, _, _, rfl, by (rw [← hg, setGo_end1 c1 hne]; exact .cls hrs), rfl⟩, fz_blk (Hp.pick1 (fz_row (hp.pick1.pick3.pick3)))⟩)
          ·have hg2 := (setGo_rng (f := f) (neg := neg) (acc := acc) c1 (by omega) c3 c4 (by omega) c7 (by omega) (by omega)).symm.trans hg
           rw [hx2] at hg2
           refine TC.skip (TQ.then (TC.region (TL.mv rfl rfl (TL.opP rfl (op_nilCheck rfl) (TL.opP rfl (op_field fld_match_reader_at rfl) (TL.opV rfl (op_load ts_int rfl m0 rfl) (TL.opP rfl (op_add (r := ((k + 3 : Nat) : Int)) rfl rfl (by omega) (by omega) (by omega)) (TL.opP rfl (op_nilCheck rfl) (TL.opP rfl (op_field fld_match_reader_at rfl) ?_)))))))))
           refine TL.opX0 (OpX.store1 ts_int rfl rfl (by first | rfl | assumption) rfl rfl) ?_; rintro _ _ rfl
           refine TL.nil (TQ.then (TC.region (TL.mv rfl rfl (TL.mv rfl rfl (TL.opP rfl (op_nilCheck rfl) (TL.opP rfl (op_field fld_match_node_spans rfl) (TL.opV rfl (op_load ts_sl_match_span rfl m1 rfl) (TL.mv rfl rfl (TL.mv rfl rfl (TL.opP rfl (op_build (ps := #[(0, _), (1, _)]) rfl (bl_match_span_01 _ _)) ?_))))))))))
           refine TL.opX rfl (OpX.buildSlice (ps := #[(0, _)]) rfl (bs_match_span_1 (nx l k, l.getD (k + 2) 0))) ?_; rintro _ _ ⟨g130, rfl, rfl⟩
           refine TL.hp (fun _ h => blk_row (k := 2) (m := 1) h rfl (by decide)) (TL.hp (fun _ h => h.pick3) ?_)
           refine TL.opX rfl (OpX.append (bytes := 8) tsl_match_span (by decide) (by decide) rfl rw1 (spC_one _) (by omega) (zs := spC (acc ++ [(nx l k, l.getD (k + 2) 0)])) (spC_append _ _).symm) ?_; rintro v10 _ rfl
           refine TL.know (fun _ h => row1 h) (fun o10 => (TL.hp (fun _ h => row_lenS h) (TL.opP rfl (op_nilCheck rfl) (TL.opP rfl (op_field fld_match_node_spans rfl) (TL.hp (fun _ h => h.pick3) ?_)))))
           refine TL.opX0 (OpX.store1 ts_sl_match_span rfl rfl (by first | rfl | assumption) rfl rfl) ?_; rintro _ _ rfl
           refine TL.nil (TQ.block_normal ?_)
           exact TQ.round (f, k + 3, acc ++ [(nx l k, l.getD (k + 2) 0)], v10, rs1) (⟨by omega, by omega, by rw [List.length_append, List.length_singleton]; omega, by assumption, hrs, hg2⟩) ((by show _ - _ < _ - k; omega)) ⟨rfl, rfl, trivial⟩ (fun _ h => h.drop2.pick2.pick3.pick3.pick3)
       ·have hx2 : nx l (k + 2) = l.getD (k + 2) 0 := nx_in (by omega)
        have hg2 := (setGo_one (f := f) (neg := neg) (acc := acc) c1 (by omega) c3 c4 (by rintro ⟨_, _, h⟩; exact h (hx2.trans (by omega)))).symm.trans hg
        refine TC.skip (TQ.then (TC.region (TL.mv rfl rfl (TL.mv rfl rfl (TL.opP rfl (op_nilCheck rfl) (TL.opP rfl (op_field fld_match_node_spans rfl) (TL.opV rfl (op_load ts_sl_match_span rfl m1 rfl) (TL.mv rfl rfl (TL.mv rfl rfl (TL.opP rfl (op_build (ps := #[(0, _), (1, _)]) rfl (bl_match_span_01 _ _)) ?_))))))))))
        refine TL.opX rfl (OpX.buildSlice (ps := #[(0, _)]) rfl (bs_match_span_1 (nx l k, nx l k))) ?_; rintro _ _ ⟨g130, rfl, rfl⟩
        refine TL.hp (fun _ h => blk_row (k := 2) (m := 1) h rfl (by decide)) (TL.hp (fun _ h => h.pick3) ?_)
        refine TL.opX rfl (OpX.append (bytes := 8) tsl_match_span (by decide) (by decide) rfl rw1 (spC_one _) (by omega) (zs := spC (acc ++ [(nx l k, nx l k)])) (spC_append _ _).symm) ?_; rintro v11 _ rfl
        refine TL.know (fun _ h => row1 h) (fun o11 => (TL.hp (fun _ h => row_lenS h) (TL.opP rfl (op_nilCheck rfl) (TL.opP rfl (op_field fld_match_node_spans rfl) (TL.hp (fun _ h => h.pick3) ?_)))))
        refine TL.opX0 (OpX.store1 ts_sl_match_span rfl rfl (by first | rfl | assumption) rfl rfl) ?_; rintro _ _ rfl
        refine TL.nil (TQ.block_normal ?_)
        exact TQ.round (f, k + 1, acc ++ [(nx l k, nx l k)], v11, rs1) (⟨by omega, by omega, by rw [List.length_append, List.length_singleton]; omega, by assumption, hrs, hg2⟩) ((by show _ - _ < _ - k; omega)) ⟨rfl, rfl, trivial⟩ (fun _ h => h.drop2.pick2.pick3.pick3.pick3)
      ·have hg2 := (setGo_one (f := f) (neg := neg) (acc := acc) c1 (by omega) c3 c4 (by unfold rangeB; omega)).symm.trans hg
       refine TR.off rfl rfl (by exact wtFf rfl rfl) (TR.off rfl rfl (by exact wtFf rfl rfl) (TR.off rfl rfl (by exact wtFf rfl rfl) (TR.off rfl rfl (by exact wtFf rfl rfl) (TR.off rfl rfl (by exact wtFf rfl rfl) (TR.off rfl rfl (by exact wtFf rfl rfl) (TR.offT rfl rfl (by exact wtFf rfl rfl) (fun _ h => h) (TR.offT rfl rfl (by exact wtFf rfl rfl) (fun _ h => h) (TR.off rfl rfl (by exact wtFf rfl rfl) (TR.offT rfl rfl (by exact wtFf rfl rfl) (fun _ h => h) (TR.offT rfl rfl (by exact wtFf rfl rfl) (fun _ h => h) (TR.off rfl rfl (by exact wtFf rfl rfl) (TR.p rfl rfl wt0 (op_pickF rfl rfl) (TR.nil (TQ.then (TC.condF rfl (TC.skip (TQ.then (TC.region (TL.mv rfl rfl (TL.mv rfl rfl (TL.opP rfl (op_nilCheck rfl) ?_)))))))))))))))))))))
       refine TL.opP rfl (op_field fld_match_node_spans rfl) (TL.opV rfl (op_load ts_sl_match_span rfl m1 rfl) (TL.mv rfl rfl (TL.mv rfl rfl (TL.opP rfl (op_build (ps := #[(0, _), (1, _)]) rfl (bl_match_span_01 _ _)) ?_))))
       refine TL.opX rfl (OpX.buildSlice (ps := #[(0, _)]) rfl (bs_match_span_1 (nx l k, nx l k))) ?_; rintro _ _ ⟨g130, rfl, rfl⟩
       refine TL.hp (fun _ h => blk_row (k := 2) (m := 1) h rfl (by decide)) (TL.hp (fun _ h => h.pick3) ?_)
       refine TL.opX rfl (OpX.append (bytes := 8) tsl_match_span (by decide) (by decide) rfl rw1 (spC_one _) (by omega) (zs := spC (acc ++ [(nx l k, nx l k)])) (spC_append _ _).symm) ?_; rintro v12 _ rfl
       refine TL.know (fun _ h => row1 h) (fun o12 => (TL.hp (fun _ h => row_lenS h) (TL.opP rfl (op_nilCheck rfl) (TL.opP rfl (op_field fld_match_node_spans rfl) (TL.hp (fun _ h => h.pick3) ?_)))))
       refine TL.opX0 (OpX.store1 ts_sl_match_span rfl rfl (by first | rfl | assumption) rfl rfl) ?_; rintro _ _ rfl
       refine TL.nil (TQ.block_normal ?_)
       exact TQ.round (f, k + 1, acc ++ [(nx l k, nx l k)], v12, rs1) (⟨by omega, by omega, by rw [List.length_append, List.length_singleton]; omega, by assumption, hrs, hg2⟩) ((by show _ - _ < _ - k; omega)) ⟨rfl, rfl, trivial⟩ (fun _ h => h.drop2.pick2.pick3.pick3.pick3)
     ·have hg2 := (setGo_one (f := f) (neg := neg) (acc := acc) c1 (by omega) c3 c4 (by unfold rangeB; omega)).symm.trans hg
      refine TR.off rfl rfl (by exact wtFf rfl rfl) (TR.offO rfl rfl (by exact wtFf rfl rfl) (fun _ h => h) (TR.off rfl rfl (by exact wtFf rfl rfl) (TR.p rfl rfl wt0 (op_pickF rfl rfl) (TR.p rfl rfl wt0 (op_move rfl) (TR.off rfl rfl (by exact wtFf rfl rfl) (TR.off rfl rfl (by exact wtFf rfl rfl) (TR.off rfl rfl (by exact wtFf rfl rfl) (TR.off rfl rfl (by exact wtFf rfl rfl) (TR.off rfl rfl (by exact wtFf rfl rfl) (TR.off rfl rfl (by exact wtFf rfl rfl) (TR.offT rfl rfl (by exact wtFf rfl rfl) (fun _ h => h) (TR.offT rfl rfl (by exact wtFf rfl rfl) (fun _ h => h) (TR.off rfl rfl (by exact wtFf rfl rfl) (TR.offT rfl rfl (by exact wtFf rfl rfl) (fun _ h => h) (TR.offT rfl rfl (by exact wtFf rfl rfl) (fun _ h => h) ?_)))))))))))))))
      refine TR.off rfl rfl (by exact wtFf rfl rfl) (TR.p rfl rfl wt0 (op_pickF rfl rfl) (TR.nil (TQ.then (TC.condF rfl (TC.skip (TQ.then (TC.region (TL.mv rfl rfl (TL.mv rfl rfl (TL.opP rfl (op_nilCheck rfl) (TL.opP rfl (op_field fld_match_node_spans rfl) (TL.opV rfl (op_load ts_sl_match_span rfl m1 rfl) (TL.mv rfl rfl (TL.mv rfl rfl (TL.opP rfl (op_build (ps := #[(0, _), (1, _)]) rfl (bl_match_span_01 _ _)) ?_)))))))))))))))
      refine TL.opX rfl (OpX.buildSlice (ps := #[(0, _)]) rfl (bs_match_span_1 (nx l k, nx l k))) ?_; rintro _ _ ⟨g130, rfl, rfl⟩
      refine TL.hp (fun _ h => blk_row (k := 2) (m := 1) h rfl (by decide)) (TL.hp (fun _ h => h.pick3) ?_)
      refine TL.opX rfl (OpX.append (bytes := 8) tsl_match_span (by decide) (by decide) rfl rw1 (spC_one _) (by omega) (zs := spC (acc ++ [(nx l k, nx l k)])) (spC_append _ _).symm) ?_; rintro v13 _ rfl
      refine TL.know (fun _ h => row1 h) (fun o13 => (TL.hp (fun _ h => row_lenS h) (TL.opP rfl (op_nilCheck rfl) (TL.opP rfl (op_field fld_match_node_spans rfl) (TL.hp (fun _ h => h.pick3) ?_)))))
      refine TL.opX0 (OpX.store1 ts_sl_match_span rfl rfl (by first | rfl | assumption) rfl rfl) ?_; rintro _ _ rfl
      refine TL.nil (TQ.block_normal ?_)
      exact TQ.round (f, k + 1, acc ++ [(nx l k, nx l k)], v13, rs1) (⟨by omega, by omega, by rw [List.length_append, List.length_singleton]; omega, by assumption, hrs, hg2⟩) ((by show _ - _ < _ - k; omega)) ⟨rfl, rfl, trivial⟩ (fun _ h => h.drop2.pick2.pick3.pick3.pick3)
 ·rw [if_pos c1]
  refine TC.exit (TQ.then_exit (TQ.loop_exit (TQ.block_hit (TQ.then (TC.seq (TC.seq (TC.region (TL.mv rfl rfl (TL.opP rfl (op_nilCheck rfl) (TL.opP rfl (op_field fld_match_node_spans rfl) (TL.opV rfl (op_load ts_sl_match_span rfl m1 rfl) (TL.opV rfl (op_lenV rfl un_sl_match_span rfl rw2) (TL.opP rfl (op_eql rfl rfl) (TL.nil (TQ.then ?_)))))))))))))))
  refine TC.sp rfl (fun c12 => ?_) (fun c12 => ?_)
  ·refine TC.seq (TC.region (TL.mv rfl rfl (TL.opP rfl (op_nilCheck rfl) (TL.opP rfl (op_field fld_match_reader_at rfl) (TL.opV rfl (op_load ts_int rfl m0 rfl) (TL.opP rfl (op_sub (r := ((k : Nat) : Int)) rfl rfl (by omega) (by omega) (by omega)) (TL.opP rfl (op_nilCheck rfl) (TL.opP rfl (op_field fld_match_reader_at rfl) ?_))))))))
   refine TL.opX0 (OpX.store1 ts_int rfl rfl (by first | rfl | assumption) rfl rfl) ?_; rintro _ _ rfl
   refine TL.nil (TQ.then (TC.seq (TC.region (TL.as rfl rfl (TL.as rfl rfl (TL.nil (TQ.then (TC.ret (TQ.then_ret ?_)))))))))
   refine ret2 rfl rfl rfl (fun w' hp => ?_)
   first
     | exact ⟨_, _, rfl, ⟨rs1, k, gn, _, _, rfl, by (rw [← hg, setGo_out c1 (by omega)]; exact .err hrs (by decide)), rfl⟩, Hp.drop1 (Hp.tail (hp.pick1.pick3.pick3))⟩
     | exact ⟨_, _, rfl, ⟨_, _, _, _, _, rfl, by (rw [← hg, setGo_ex c1 (by omega) c3 c4 (escN_err hE)]; exact .err (fun x hx => «hR?».sub (hrs hx)) c5), rfl⟩, Hp.drop1 (Hp.tail (hp.pick1.pick3.pick3))⟩
     | exact ⟨_, _, rfl, ⟨rs1, k + 2, gn, _, _, rfl, by (rw [← hg, setGo_bad c1 (by omega) c3 c4 (by omega) c7 (by omega) (by omega)]; exact .err hrs (by decide)), rfl⟩, Hp.drop1 (Hp.tail (hp.pick1.pick3.pick3))⟩
     | (obtain rfl : acc = [] := List.length_eq_zero_iff.1 (by omega)
        exact ⟨_, _, rfl, ⟨rs1, k, gn, _, _, rfl, by (rw [← hg, setGo_end0 c1]; exact .err hrs (by decide)), rfl⟩, Hp.drop1 (Hp.tail (hp.pick1.pick3.pick3))⟩)
     | (have hne : acc ≠ [] := by (rintro rfl; exact c12 rfl)
        exact ⟨_, _, rfl, ⟨_, k + 1, gn, _, _, rfl, by (rw [← hg, setGo_end1 c1 hne]; exact .cls hrs), rfl⟩, fz_blk (Hp.pick1 (fz_row (hp.pick1.pick3.pick3)))⟩)
  ·refine TC.skip (TQ.then (TC.seq (TC.region (TL.mv rfl rfl (TL.as rfl rfl (TL.as rfl rfl (TL.nil (TQ.then (TC.ret ?_)))))))))
   refine ret2 rfl rfl rfl (fun w' hp => ?_)
   first
     | exact ⟨_, _, rfl, ⟨rs1, k, gn, _, _, rfl, by (rw [← hg, setGo_out c1 (by omega)]; exact .err hrs (by decide)), rfl⟩, Hp.drop1 (Hp.tail (hp.pick1.pick3.pick3))⟩
     | exact ⟨_, _, rfl, ⟨_, _, _, _, _, rfl, by (rw [← hg, setGo_ex c1 (by omega) c3 c4 (escN_err hE)]; exact .err (fun x hx => «hR?».sub (hrs hx)) c5), rfl⟩, Hp.drop1 (Hp.tail (hp.pick1.pick3.pick3))⟩
     | exact ⟨_, _, rfl, ⟨rs1, k + 2, gn, _, _, rfl, by (rw [← hg, setGo_bad c1 (by omega) c3 c4 (by omega) c7 (by omega) (by omega)]; exact .err hrs (by decide)), rfl⟩, Hp.drop1 (Hp.tail (hp.pick1.pick3.pick3))⟩
     | (obtain rfl : acc = [] := List.length_eq_zero_iff.1 (by omega)
        exact ⟨_, _, rfl, ⟨rs1, k, gn, _, _, rfl, by (rw [← hg, setGo_end0 c1]; exact .err hrs (by decide)), rfl⟩, Hp.drop1 (Hp.tail (hp.pick1.pick3.pick3))⟩)
     | (have hne : acc ≠ [] := by (rintro rfl; exact c12 rfl)
        exact ⟨_, _, rfl, ⟨_, k + 1, gn, _, _, rfl, by (rw [← hg, setGo_end1 c1 hne]; exact .cls hrs), rfl⟩, fz_blk (Hp.pick1 (fz_row (hp.pick1.pick3.pick3)))⟩)

end Go.SK
