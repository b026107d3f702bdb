/- Walks: the maker. -/
import Derived.Test.YtgklklmcmdcpgaaDoorE1
set_option linter.unusedVariables false
set_option linter.unusedSimpArgs false
set_option maxRecDepth 100000
namespace Go.SK
open Go Go.RowKit Go.Proofs
variable {S : Nat → Prop} {w0 : World} {F : List Res}
theorem bs_api_Part_0 : ∀ w : World, (Instr.buildSlice 23 0 #[]).run Tryd.prog w = .ok (.slice (some ⟨w.heap.size, 0, none⟩) 0 0) (w.alloc (.cells (encs ([] : List Part)).toArray 47 (0, 0))) := by intro w; kernel_rfl
theorem bs_api_Part_1 (p : Part) : ∀ w : World, (Instr.buildSlice 23 1 #[(0, p.val)]).run Tryd.prog w = .ok (.slice (some ⟨w.heap.size, 0, none⟩) 1 1) (w.alloc (.cells (encs [p]).toArray 47 (0, 0))) := by intro w; kernel_rfl
theorem bs_api_Part_4 (p q r s : Part) : ∀ w : World, (Instr.buildSlice 23 4 #[(0, p.val), (1, q.val), (2, r.val), (3, s.val)]).run Tryd.prog w = .ok (.slice (some ⟨w.heap.size, 0, none⟩) 4 4) (w.alloc (.cells (encs [p, q, r, s]).toArray 47 (0, 0))) := by intro w; kernel_rfl
theorem keep_calls (n : Int) (w : World) :
    Calls Tryd.prog 53 (List.toArray [.int .i64 n]) w fun e w' => e = .returned (keepP n).val ∧ Kp NoB w w' := by
  refine calls_start Tryd.func53 rfl rfl rfl (Hp.init0 w) ?_
  refine TC.seq ?_
  refine TC.region ?_   -- region 0 edit.go:88
  refine TL.opX rfl (OpX.alloc tz_api_Part rfl) ?_; rintro _ _ ⟨g2, rfl, rfl⟩
  refine TL.nil ?_
  refine TQ.then ?_
  refine TC.seq ?_
  refine TC.region ?_   -- region 1 edit.go:88
  refine TL.opP rfl (op_move rfl) ?_
  refine TL.opP rfl (op_build (ps := #[(0, _), (1, _)]) rfl (bl_api_Part_01 _ _)) ?_
  refine TL.opX0 (OpX.storeS tst_api_Part rfl rfl rfl rfl rfl (List.all_eq_true.1 rfl)) ?_; rintro _ _ rfl
  refine TL.nil ?_
  refine TQ.then ?_
  refine TC.ret ?_
  refine retc tst_api_Part rfl rfl m0 rfl (fun w' hp => ?_)
  exact ⟨rfl, hp.kp⟩

theorem drop_calls (n : Int) (w : World) :
    Calls Tryd.prog 55 (List.toArray [.int .i64 n]) w fun e w' => e = .returned (dropP n).val ∧ Kp NoB w w' := by
  refine calls_start Tryd.func55 rfl rfl rfl (Hp.init0 w) ?_
  refine TC.seq ?_
  refine TC.region ?_   -- region 0 edit.go:89
  refine TL.opX rfl (OpX.alloc tz_api_Part rfl) ?_; rintro _ _ ⟨g2, rfl, rfl⟩
  refine TL.nil ?_
  refine TQ.then ?_
  refine TC.seq ?_
  refine TC.region ?_   -- region 1 edit.go:89
  refine TL.opP rfl (op_move rfl) ?_
  refine TL.opP rfl (op_build (ps := #[(0, _), (1, _)]) rfl (bl_api_Part_01 _ _)) ?_
  refine TL.opX0 (OpX.storeS tst_api_Part rfl rfl rfl rfl rfl (List.all_eq_true.1 rfl)) ?_; rintro _ _ rfl
  refine TL.nil ?_
  refine TQ.then ?_
  refine TC.ret ?_
  refine retc tst_api_Part rfl rfl m0 rfl (fun w' hp => ?_)
  exact ⟨rfl, hp.kp⟩

theorem put_calls (s : ByteArray) (w : World) (hs : s.size < 9223372036854775807) :
    Calls Tryd.prog 54 (List.toArray [.string s]) w fun e w' => e = .returned (putP s).val ∧ Kp NoB w w' := by
  refine calls_start Tryd.func54 rfl rfl rfl (Hp.init0 w) ?_
  refine TC.seq ?_
  refine TC.region ?_   -- region 0 edit.go:90
  refine TL.opX rfl (OpX.alloc tz_api_Part rfl) ?_; rintro _ _ ⟨g2, rfl, rfl⟩
  refine TL.nil ?_
  refine TQ.then ?_
  refine TC.seq ?_
  refine TC.region ?_   -- region 1 edit.go:91
  refine TL.opP rfl (op_move rfl) ?_
  refine TL.callq rfl en_48 rfl (fun w2 hp => rcount_calls _ _ hs) ?_
  refine TL.opP rfl (op_move rfl) ?_
  refine TL.opP rfl (op_build (ps := #[(0, _), (1, _), (2, _)]) rfl (bl_api_Part_012 _ _ _)) ?_
  refine TL.opX0 (OpX.storeS tst_api_Part rfl rfl rfl rfl rfl (List.all_eq_true.1 rfl)) ?_; rintro _ _ rfl
  refine TL.nil ?_
  refine TQ.then ?_
  refine TC.ret ?_
  refine retc tst_api_Part rfl rfl m0 rfl (fun w' hp => ?_)
  exact ⟨rfl, hp.kp⟩

abbrev OneC (S : Nat → Prop) (w0 : World) (F : List Res) (r : List Part) (p : Part) (g : Nat) (v : Value) : Prop :=
  CallX Tryd.prog 70 [.pointer (some ⟨g, 0, none⟩), p.val] S w0 (.blk g (.cells [v].toArray 63 (0, 0)) :: .row v 47 3 r.length (encs r.reverse) :: F) (fun u L' => u = .tuple #[] ∧ ∃ v', L' = .blk g (.cells [v'].toArray 63 (0, 0)) :: .row v' 47 3 (addR r p).length (encs (addR r p).reverse) :: F)
theorem one_s {F : List Res} (r : List Part) (p : Part) (g : Nat) (v : Value) (hb : OneB r p) (ih : ∀ r' : List Part, r'.length < r.length → OneB r' p → ∀ (v : Value) (F : List Res), OneC S w0 F r' p g v) :
    CallX Tryd.prog 70 [.pointer (some ⟨g, 0, none⟩), p.val] S w0 (.blk g (.cells [v].toArray 63 (0, 0)) :: .row v 47 3 r.length (encs r.reverse) :: F) (fun u L' => u = .tuple #[] ∧ ∃ v', L' = .blk g (.cells [v'].toArray 63 (0, 0)) :: .row v' 47 3 (addR r p).length (encs (addR r p).reverse) :: F) := by
  intro w hp
  have hlen := hb.len
  have hp0 := hb.p0
  refine calls_start Tryd.func70 rfl rfl rfl (hp) ?_
  refine TC.seq ?_
  refine TC.region ?_   -- region 0 edit.go:69
  refine TL.opX rfl (OpX.box (cs := p.cs) rfl rfl) ?_; rintro _ _ ⟨g3, rfl, rfl⟩
  refine TL.nil ?_
  refine TQ.then ?_
  refine TC.seq ?_
  refine TC.region ?_   -- region 1 edit.go:70
  refine TL.opP rfl (op_move rfl) ?_
  refine TL.opP rfl (op_nilCheck rfl) ?_
  refine TL.opP rfl (op_field fld_edit_maker_out rfl) ?_
  refine TL.opV rfl (op_load ts_sl_api_Part rfl m1 rfl) ?_
  refine TL.opV rfl (op_lenV rfl un_sl_api_Part rfl rw2) ?_
  refine TL.opP rfl (op_assign rfl) ?_
  refine TL.nil ?_
  refine TQ.then ?_
  refine TC.seq ?_
  refine TC.block ?_
  refine TC.seq ?_
  refine TC.region ?_   -- region 2 edit.go:72
  refine TL.opP rfl (op_field fld_api_Part_N rfl) ?_
  refine TL.opV rfl (op_load ts_int rfl m0 rfl) ?_
  refine TL.opP rfl (op_eql rfl rfl) ?_
  refine TL.opP rfl (op_assign rfl) ?_
  refine TL.nil ?_
  refine TQ.then ?_
  first | refine TC.condD rfl (fun c1 => ?_) (fun c1 => ?_) | refine TC.condB rfl (fun c1 => ?_) (fun c1 => ?_)
  · refine TC.ret ?_
    refine TQ.block_ret ?_
    refine TQ.then_ret ?_
    refine ret0 rfl (fun w' hp => ?_)
    refine ⟨_, _, rfl, ⟨rfl, v, rfl⟩, ?_⟩
    have hq := (hp.tail)
    first
      | (rw [addR_zero c1]; exact hq)
      | (rw [addR_nil c1]; exact hq)
      | (rw [addR_more c1 c3]; exact hq)
      | (rw [addR_push c1 c3 (.inl c5), ← encs_push]; exact hq)
      | (rw [addR_push c1 c3 (.inr c6), ← encs_push]; exact hq)
      | (rw [addR_deep c1 c3 (by grind), ← encs_push]; exact hq)
  · refine TC.seq ?_
    refine TC.draw [] (.cons (.p, 0) (.cons (.p, 1) (.cons (.p, 2) (.cons (.p, 3) (.cons (.p, 4) (.cons (.p, 5) (.cons (.p, 7) (.cons (.p, 8) (.cons (.p, 12) (.cons (.t, 6) (.cons (.t, 9) (.cons (.p, 10) (.cons (.t, 11) (.cons (.t, 13) (.cons (.p, 14) (.cons (.p, 15) (.cons (.p, 16) (.nil)))))))))))))))))) mo (by kernel_rfl) ?_   -- region 3 edit.go:74
    refine TR.p rfl rfl wt0 (op_move rfl) ?_
    refine TR.p rfl rfl wt0 (op_gtr rfl rfl) ?_
    refine TR.p rfl rfl wt0 (op_move rfl) ?_
    first | refine TR.splitD (fun c2 => ?_) (fun c2 => ?_) | refine TR.splitB (fun c2 => ?_) (fun c2 => ?_)
    · obtain ⟨q, r, rfl⟩ : ∃ q r', r = q :: r' := by cases r with | nil => simp at c2 | cons q r' => exact ⟨q, r', rfl⟩
      have hbh := hb.head
      have hlc : (q :: r).length = r.length + 1 := rfl
      have hal := (addR_facts r p hb.tail.pos hb.p0).2.2.2
      refine TR.p rfl rfl (by exact wtT rfl rfl) (op_move rfl) ?_
      refine TR.p rfl rfl (by exact wtT rfl rfl) (op_nilCheck rfl) ?_
      refine TR.p rfl rfl (by exact wtT rfl rfl) (op_field fld_edit_maker_out rfl) ?_
      refine TR.p rfl rfl (by exact wtT rfl rfl) (op_move rfl) ?_
      refine TR.p rfl rfl (by exact wtT rfl rfl) (op_sub rfl rfl rfl (by omega) (by omega)) ?_
      refine TR.p rfl rfl (by exact wtT rfl rfl) (op_field fld_api_Part_Kind rfl) ?_
      refine TR.t rfl rfl (by exact wtT rfl rfl) (op_load ts_sl_api_Part rfl m1 rfl) (fun _ h => h) ?_
      refine TR.t rfl rfl (by exact wtT rfl rfl) (op_index tsl_api_Part rfl rw2 rfl (by omega) (by omega)) (fun _ h => h) ?_
      refine TR.p rfl rfl (by exact wtT rfl rfl) (op_fieldA fld_api_Part_Kind rfl) ?_
      refine TR.t rfl rfl (by exact wtT rfl rfl) (op_loadR ts_int rfl rw2 (lkR 0 (by omega) rfl)) (fun _ h => h) ?_
      refine TR.t rfl rfl (by exact wtT rfl rfl) (op_load ts_int rfl m0 rfl) (fun _ h => h) ?_
      refine TR.p rfl rfl (by exact wtT rfl rfl) (op_eql rfl rfl) ?_
      refine TR.p rfl rfl wt0 (op_pickT rfl rfl) ?_
      refine TR.p rfl rfl wt0 (op_assign rfl) ?_
      refine TR.nil ?_
      refine TQ.then ?_
      first | refine TC.condD rfl (fun c3 => ?_) (fun c3 => ?_) | refine TC.condB rfl (fun c3 => ?_) (fun c3 => ?_)
      · refine TC.seq ?_
        refine TC.draw [14] (.cons (.p, 0) (.cons (.p, 1) (.cons (.p, 2) (.cons (.p, 4) (.cons (.p, 5) (.cons (.p, 9) (.cons (.t, 3) (.cons (.t, 6) (.cons (.p, 7) (.cons (.t, 8) (.cons (.t, 10) (.cons (.p, 11) (.cons (.t, 12) (.cons (.p, 13) (.cons (.z, 14) (.nil)))))))))))))))) mo (by kernel_rfl) ?_   -- region 4 edit.go:75
        refine TR.p rfl rfl wt0 (op_move rfl) ?_
        refine TR.p rfl rfl wt0 (op_nilCheck rfl) ?_
        refine TR.p rfl rfl wt0 (op_field fld_edit_maker_out rfl) ?_
        refine TR.p rfl rfl wt0 (op_move rfl) ?_
        refine TR.p rfl rfl wt0 (op_sub rfl rfl rfl (by omega) (by omega)) ?_
        refine TR.p rfl rfl wt0 (op_field fld_api_Part_N rfl) ?_
        refine TR.t rfl rfl wt0 (op_load ts_sl_api_Part rfl m1 rfl) (fun _ h => h) ?_
        refine TR.t rfl rfl wt0 (op_index tsl_api_Part rfl rw2 rfl (by omega) (by omega)) (fun _ h => h) ?_
        refine TR.p rfl rfl wt0 (op_fieldA fld_api_Part_N rfl) ?_
        refine TR.t rfl rfl wt0 (op_loadR ts_int rfl rw2 (lkR 1 (by omega) rfl)) (fun _ h => h) ?_
        refine TR.t rfl rfl wt0 (op_load ts_int rfl m0 rfl) (fun _ h => h) ?_
        refine TR.p rfl rfl wt0 (op_add rfl rfl rfl (by omega) (by omega)) ?_
        refine TR.t rfl rfl wt0 (op_index tsl_api_Part rfl rw2 rfl (by omega) (by omega)) (fun _ h => h) ?_
        refine TR.p rfl rfl wt0 (op_fieldA fld_api_Part_N rfl) ?_
        refine TR.hp (fun _ h => h.pick2) ?_
        refine TR.z0 rfl wt0 (OpX.storeRow (k := 1) (fun w => by kernel_rfl) rfl rfl rfl (ys := [.int .i64 (q.n + p.n)]) rfl (by decide) (List.all_eq_true.1 rfl) (by omega) (stR (q' := ⟨q.kind, q.n + p.n, q.text⟩) 1 _ (by omega) rfl (by decide))) ?_; rintro _ _ rfl
        refine TR.nil ?_
        refine TQ.then ?_
        refine TC.seq ?_
        refine TC.draw [14] (.cons (.p, 0) (.cons (.p, 1) (.cons (.p, 2) (.cons (.p, 4) (.cons (.p, 5) (.cons (.p, 9) (.cons (.t, 3) (.cons (.t, 6) (.cons (.p, 7) (.cons (.t, 8) (.cons (.t, 10) (.cons (.p, 11) (.cons (.t, 12) (.cons (.p, 13) (.cons (.z, 14) (.nil)))))))))))))))) mo (by kernel_rfl) ?_   -- region 5 edit.go:76
        refine TR.p rfl rfl wt0 (op_move rfl) ?_
        refine TR.p rfl rfl wt0 (op_nilCheck rfl) ?_
        refine TR.p rfl rfl wt0 (op_field fld_edit_maker_out rfl) ?_
        refine TR.p rfl rfl wt0 (op_move rfl) ?_
        refine TR.p rfl rfl wt0 (op_sub rfl rfl rfl (by omega) (by omega)) ?_
        refine TR.p rfl rfl wt0 (op_field fld_api_Part_Text rfl) ?_
        refine TR.t rfl rfl wt0 (op_load ts_sl_api_Part rfl m2 rfl) (fun _ h => h) ?_
        refine TR.t rfl rfl wt0 (op_index tsl_api_Part rfl rw0 rfl (by omega) (by omega)) (fun _ h => h) ?_
        refine TR.p rfl rfl wt0 (op_fieldA fld_api_Part_Text rfl) ?_
        refine TR.t rfl rfl wt0 (op_loadR ts_string rfl rw0 (lkR (q := ⟨q.kind, q.n + p.n, q.text⟩) 2 (by omega) rfl)) (fun _ h => h) ?_
        refine TR.t rfl rfl wt0 (op_load ts_string rfl m1 rfl) (fun _ h => h) ?_
        refine TR.p rfl rfl wt0 (op_sadd rfl rfl (by show q.text.size + p.text.size ≤ _; omega)) ?_
        refine TR.t rfl rfl wt0 (op_index tsl_api_Part rfl rw0 rfl (by omega) (by omega)) (fun _ h => h) ?_
        refine TR.p rfl rfl wt0 (op_fieldA fld_api_Part_Text rfl) ?_
        refine TR.z0 rfl wt0 (OpX.storeRow (k := 1) (fun w => by kernel_rfl) rfl rfl rfl (ys := [.string (q.text ++ p.text)]) rfl (by decide) (List.all_eq_true.1 rfl) (by omega) (stR (q := ⟨q.kind, q.n + p.n, q.text⟩) (q' := q.more p) 2 _ (by omega) rfl (by decide))) ?_; rintro _ _ rfl
        refine TR.nil ?_
        refine TQ.then ?_
        refine TC.ret ?_
        refine TQ.block_ret ?_
        refine TQ.then_ret ?_
        refine ret0 rfl (fun w' hp => ?_)
        refine ⟨_, _, rfl, ⟨rfl, v, rfl⟩, ?_⟩
        have hq := (hp.drop1.pick1)
        first
          | (rw [addR_zero c1]; exact hq)
          | (rw [addR_nil c1]; exact hq)
          | (rw [addR_more c1 c3]; exact hq)
          | (rw [addR_push c1 c3 (.inl c5), ← encs_push]; exact hq)
          | (rw [addR_push c1 c3 (.inr c6), ← encs_push]; exact hq)
          | (rw [addR_deep c1 c3 (by grind), ← encs_push]; exact hq)
      · refine TC.seq ?_
        refine TC.region ?_   -- region 6 edit.go:78
        refine TL.opP rfl (op_move rfl) ?_
        refine TL.opP rfl (op_eql rfl rfl) ?_
        refine TL.opP rfl (op_move rfl) ?_
        first | refine TL.splitD (fun c4 => ?_) (fun c4 => ?_) | refine TL.splitB (fun c4 => ?_) (fun c4 => ?_)
        · exact absurd c4 (by omega)
        · refine TL.gT rfl rfl ?_
          refine TL.opP rfl (op_field fld_api_Part_Kind rfl) ?_
          refine TL.gT rfl rfl ?_
          refine TL.opV rfl (op_load ts_int rfl m0 rfl) ?_
          refine TL.gT rfl rfl ?_
          refine TL.opP rfl (op_neq rfl rfl) ?_
          refine TL.opP rfl (op_pickF rfl rfl) ?_
          refine TL.opP rfl (op_move rfl) ?_
          first | refine TL.splitD (fun c5 => ?_) (fun c5 => ?_) | refine TL.splitB (fun c5 => ?_) (fun c5 => ?_)
          · refine TL.gFt rfl rfl rfl ?_
            refine TL.gFt rfl rfl rfl ?_
            refine TL.gFt rfl rfl rfl ?_
            refine TL.gFt rfl rfl rfl ?_
            refine TL.gFt rfl rfl rfl ?_
            refine TL.gFt rfl rfl rfl ?_
            refine TL.gFt rfl rfl rfl ?_
            refine TL.gFt rfl rfl rfl ?_
            refine TL.gFt rfl rfl rfl ?_
            refine TL.gFt rfl rfl rfl ?_
            refine TL.opP rfl (op_pickT rfl rfl) ?_
            refine TL.opP rfl (op_assign rfl) ?_
            refine TL.nil ?_
            refine TQ.then ?_
            refine TC.condT rfl ?_
            refine TC.seq ?_
            refine TC.draw [7, 10] (.cons (.p, 0) (.cons (.p, 1) (.cons (.p, 2) (.cons (.p, 3) (.cons (.t, 4) (.cons (.t, 5) (.cons (.o, 6) (.cons (.z, 7) (.cons (.p, 8) (.cons (.p, 9) (.cons (.z, 10) (.nil)))))))))))) mo (by kernel_rfl) ?_   -- region 7 edit.go:79
            refine TR.p rfl rfl wt0 (op_move rfl) ?_
            refine TR.p rfl rfl wt0 (op_move rfl) ?_
            refine TR.p rfl rfl wt0 (op_nilCheck rfl) ?_
            refine TR.p rfl rfl wt0 (op_field fld_edit_maker_out rfl) ?_
            refine TR.t rfl rfl wt0 (op_load ts_sl_api_Part rfl m1 rfl) (fun _ h => h) ?_
            refine TR.t rfl rfl wt0 (op_loadS tst_api_Part rfl m0 rfl) (fun _ h => h) ?_
            refine TR.o rfl rfl wt0 (OpX.buildSlice (ps := #[(0, _)]) rfl (bs_api_Part_1 _)) (by rintro _ _ ⟨g86, rfl, rfl⟩; intro w h; exact h.tail) ?_; rintro _ _ ⟨g86, rfl, rfl⟩
            refine TR.hp (fun _ h => blk_row (k := 3) (m := 1) h rfl (by decide)) ?_
            refine TR.hp (fun _ h => h.pick3) ?_
            refine TR.z rfl rfl wt0 (OpX.append (bytes := 32) tsl_api_Part (by decide) (by decide) rfl rw1 (encs_one _) (by omega) rfl) ?_; rintro v1 _ rfl
            refine TR.know (fun _ h => row1 h) (fun o1 => ?_)
            refine TR.p rfl rfl wt0 (op_nilCheck rfl) ?_
            refine TR.p rfl rfl wt0 (op_field fld_edit_maker_out rfl) ?_
            refine TR.hp (fun _ h => h.pick3) ?_
            refine TR.z0 rfl wt0 (OpX.store1 ts_sl_api_Part rfl rfl (by first | rfl | assumption) rfl rfl) ?_; rintro _ _ rfl
            refine TR.nil ?_
            refine TQ.then ?_
            refine TC.ret ?_
            refine TQ.block_ret ?_
            refine TQ.then_ret ?_
            refine ret0 rfl (fun w' hp => ?_)
            refine ⟨_, _, rfl, ⟨rfl, v1, rfl⟩, ?_⟩
            have hq := (hp.drop3.drop2)
            first
              | (rw [addR_zero c1]; exact hq)
              | (rw [addR_nil c1]; exact hq)
              | (rw [addR_more c1 c3]; exact hq)
              | (rw [addR_push c1 c3 (.inl c5), ← encs_push]; exact hq)
              | (rw [addR_push c1 c3 (.inr c6), ← encs_push]; exact hq)
              | (rw [addR_deep c1 c3 (by grind), ← encs_push]; exact hq)
          · refine TL.gT rfl rfl ?_
            refine TL.opP rfl (op_move rfl) ?_
            refine TL.gT rfl rfl ?_
            refine TL.opP rfl (op_nilCheck rfl) ?_
            refine TL.gT rfl rfl ?_
            refine TL.opP rfl (op_field fld_edit_maker_out rfl) ?_
            refine TL.gT rfl rfl ?_
            refine TL.opV rfl (op_load ts_sl_api_Part rfl m1 rfl) ?_
            refine TL.gT rfl rfl ?_
            refine TL.opP rfl (op_move rfl) ?_
            refine TL.gT rfl rfl ?_
            refine TL.opP rfl (op_sub rfl rfl rfl (by omega) (by omega)) ?_
            refine TL.gT rfl rfl ?_
            refine TL.opV rfl (op_index tsl_api_Part rfl rw2 rfl (by omega) (by omega)) ?_
            refine TL.gT rfl rfl ?_
            refine TL.opP rfl (op_fieldA fld_api_Part_Kind rfl) ?_
            refine TL.gT rfl rfl ?_
            refine TL.opV rfl (op_loadR ts_int rfl rw2 (lkR 0 (by omega) rfl)) ?_
            refine TL.gT rfl rfl ?_
            refine TL.opP rfl (op_neq rfl rfl) ?_
            refine TL.opP rfl (op_pickF rfl rfl) ?_
            refine TL.opP rfl (op_assign rfl) ?_
            refine TL.nil ?_
            refine TQ.then ?_
            first | refine TC.condD rfl (fun c6 => ?_) (fun c6 => ?_) | refine TC.condB rfl (fun c6 => ?_) (fun c6 => ?_)
            · refine TC.seq ?_
              refine TC.draw [7, 10] (.cons (.p, 0) (.cons (.p, 1) (.cons (.p, 2) (.cons (.p, 3) (.cons (.t, 4) (.cons (.t, 5) (.cons (.o, 6) (.cons (.z, 7) (.cons (.p, 8) (.cons (.p, 9) (.cons (.z, 10) (.nil)))))))))))) mo (by kernel_rfl) ?_   -- region 7 edit.go:79
              refine TR.p rfl rfl wt0 (op_move rfl) ?_
              refine TR.p rfl rfl wt0 (op_move rfl) ?_
              refine TR.p rfl rfl wt0 (op_nilCheck rfl) ?_
              refine TR.p rfl rfl wt0 (op_field fld_edit_maker_out rfl) ?_
              refine TR.t rfl rfl wt0 (op_load ts_sl_api_Part rfl m1 rfl) (fun _ h => h) ?_
              refine TR.t rfl rfl wt0 (op_loadS tst_api_Part rfl m0 rfl) (fun _ h => h) ?_
              refine TR.o rfl rfl wt0 (OpX.buildSlice (ps := #[(0, _)]) rfl (bs_api_Part_1 _)) (by rintro _ _ ⟨g86, rfl, rfl⟩; intro w h; exact h.tail) ?_; rintro _ _ ⟨g86, rfl, rfl⟩
              refine TR.hp (fun _ h => blk_row (k := 3) (m := 1) h rfl (by decide)) ?_
              refine TR.hp (fun _ h => h.pick3) ?_
              refine TR.z rfl rfl wt0 (OpX.append (bytes := 32) tsl_api_Part (by decide) (by decide) rfl rw1 (encs_one _) (by omega) rfl) ?_; rintro v2 _ rfl
              refine TR.know (fun _ h => row1 h) (fun o2 => ?_)
              refine TR.p rfl rfl wt0 (op_nilCheck rfl) ?_
              refine TR.p rfl rfl wt0 (op_field fld_edit_maker_out rfl) ?_
              refine TR.hp (fun _ h => h.pick3) ?_
              refine TR.z0 rfl wt0 (OpX.store1 ts_sl_api_Part rfl rfl (by first | rfl | assumption) rfl rfl) ?_; rintro _ _ rfl
              refine TR.nil ?_
              refine TQ.then ?_
              refine TC.ret ?_
              refine TQ.block_ret ?_
              refine TQ.then_ret ?_
              refine ret0 rfl (fun w' hp => ?_)
              refine ⟨_, _, rfl, ⟨rfl, v2, rfl⟩, ?_⟩
              have hq := (hp.drop3.drop2)
              first
                | (rw [addR_zero c1]; exact hq)
                | (rw [addR_nil c1]; exact hq)
                | (rw [addR_more c1 c3]; exact hq)
                | (rw [addR_push c1 c3 (.inl c5), ← encs_push]; exact hq)
                | (rw [addR_push c1 c3 (.inr c6), ← encs_push]; exact hq)
                | (rw [addR_deep c1 c3 (by grind), ← encs_push]; exact hq)
            · refine TC.skip ?_
              refine TQ.block_normal ?_
              refine TQ.then ?_
              refine TC.seq ?_
              refine TC.region ?_   -- region 8 edit.go:82
              refine TL.opP rfl (op_move rfl) ?_
              refine TL.opP rfl (op_nilCheck rfl) ?_
              refine TL.opP rfl (op_field fld_edit_maker_out rfl) ?_
              refine TL.opV rfl (op_load ts_sl_api_Part rfl m1 rfl) ?_
              refine TL.opP rfl (op_move rfl) ?_
              refine TL.opP rfl (op_sub rfl rfl rfl (by omega) (by omega)) ?_
              refine TL.opV rfl (op_index tsl_api_Part rfl rw2 rfl (by omega) (by omega)) ?_
              refine TL.opV rfl (op_loadRS tst_api_Part rfl rw2 (cs := q.cs) rfl (lkRS (by omega)) (by decide)) ?_
              refine TL.opX rfl (OpX.alloc tz_api_Part rfl) ?_; rintro _ _ ⟨g5, rfl, rfl⟩
              refine TL.opX0 (OpX.storeS tst_api_Part rfl rfl rfl rfl rfl (List.all_eq_true.1 rfl)) ?_; rintro _ _ rfl
              refine TL.nil ?_
              refine TQ.then ?_
              refine TC.seq ?_
              refine TC.region ?_   -- region 9 edit.go:83
              refine TL.opP rfl (op_move rfl) ?_
              refine TL.opP rfl (op_move rfl) ?_
              refine TL.opP rfl (op_nilCheck rfl) ?_
              refine TL.opP rfl (op_field fld_edit_maker_out rfl) ?_
              refine TL.opV rfl (op_load ts_sl_api_Part rfl m2 rfl) ?_
              refine TL.opP rfl (op_move rfl) ?_
              refine TL.opP rfl (op_sub rfl rfl rfl (by omega) (by omega)) ?_
              refine TL.hp (fun _ h => h.pick3) ?_
              refine TL.opV rfl (op_cut 0 r.length tsl_api_Part rfl rw0 (vlo := none) (vhi := (some _)) rfl rfl (.inl ⟨rfl, rfl⟩) (.inr ⟨_, _, rfl, by omega⟩) (by omega) (by omega)) ?_
              refine TL.hp (fun _ h => takeR h) ?_
              refine TL.know (fun _ h => row1 h) (fun ocut => ?_)
              refine TL.opP rfl (op_nilCheck rfl) ?_
              refine TL.opP rfl (op_field fld_edit_maker_out rfl) ?_
              refine TL.hp (fun _ h => h.pick3) ?_
              refine TL.opX0 (OpX.store1 ts_sl_api_Part rfl rfl (by first | rfl | assumption) rfl rfl) ?_; rintro _ _ rfl
              refine TL.nil ?_
              refine TQ.then ?_
              refine TC.seq ?_
              refine TC.region ?_   -- region 10 edit.go:84
              refine TL.opP rfl (op_move rfl) ?_
              refine TL.opV rfl (op_loadS tst_api_Part rfl m3 rfl) ?_
              refine TL.opX rfl (OpX.callX en_70 rfl (ih r (by omega) hb.tail _ _)) ?_; rintro _ _ ⟨rfl, w3, rfl⟩
              refine TL.nil ?_
              refine TQ.then ?_
              refine TC.draw [7, 10] (.cons (.p, 0) (.cons (.p, 1) (.cons (.p, 2) (.cons (.p, 3) (.cons (.t, 4) (.cons (.t, 5) (.cons (.o, 6) (.cons (.z, 7) (.cons (.p, 8) (.cons (.p, 9) (.cons (.z, 10) (.nil)))))))))))) mo (by kernel_rfl) ?_   -- region 11 edit.go:85
              refine TR.p rfl rfl wt0 (op_move rfl) ?_
              refine TR.p rfl rfl wt0 (op_move rfl) ?_
              refine TR.p rfl rfl wt0 (op_nilCheck rfl) ?_
              refine TR.p rfl rfl wt0 (op_field fld_edit_maker_out rfl) ?_
              refine TR.t rfl rfl wt0 (op_load ts_sl_api_Part rfl m0 rfl) (fun _ h => h) ?_
              refine TR.t rfl rfl wt0 (op_loadS tst_api_Part rfl m2 rfl) (fun _ h => h) ?_
              refine TR.o rfl rfl wt0 (OpX.buildSlice (ps := #[(0, _)]) rfl (bs_api_Part_1 _)) (by rintro _ _ ⟨g117, rfl, rfl⟩; intro w h; exact h.tail) ?_; rintro _ _ ⟨g117, rfl, rfl⟩
              refine TR.hp (fun _ h => blk_row (k := 3) (m := 1) h rfl (by decide)) ?_
              refine TR.hp (fun _ h => h.pick2) ?_
              refine TR.z rfl rfl wt0 (OpX.append (bytes := 32) tsl_api_Part (by decide) (by decide) rfl rw1 (encs_one _) (by omega) rfl) ?_; rintro v4 _ rfl
              refine TR.know (fun _ h => row1 h) (fun o4 => ?_)
              refine TR.p rfl rfl wt0 (op_nilCheck rfl) ?_
              refine TR.p rfl rfl wt0 (op_field fld_edit_maker_out rfl) ?_
              refine TR.hp (fun _ h => h.pick2) ?_
              refine TR.z0 rfl wt0 (OpX.store1 ts_sl_api_Part rfl rfl (by first | rfl | assumption) rfl rfl) ?_; rintro _ _ rfl
              refine TR.nil ?_
              refine end0 rfl (fun w' hp => ?_)
              refine ⟨_, _, rfl, ⟨rfl, v4, rfl⟩, ?_⟩
              have hq := (hp.drop4.drop3.drop2)
              first
                | (rw [addR_zero c1]; exact hq)
                | (rw [addR_nil c1]; exact hq)
                | (rw [addR_more c1 c3]; exact hq)
                | (rw [addR_push c1 c3 (.inl c5), ← encs_push]; exact hq)
                | (rw [addR_push c1 c3 (.inr c6), ← encs_push]; exact hq)
                | (rw [addR_deep c1 c3 (by grind), ← encs_push]; exact hq)
    · obtain rfl : r = [] := by cases r with | nil => rfl | cons q r' => simp at c2
      refine TR.off rfl rfl (by exact wtFf rfl rfl) ?_
      refine TR.off rfl rfl (by exact wtFf rfl rfl) ?_
      refine TR.off rfl rfl (by exact wtFf rfl rfl) ?_
      refine TR.off rfl rfl (by exact wtFf rfl rfl) ?_
      refine TR.off rfl rfl (by exact wtFf rfl rfl) ?_
      refine TR.off rfl rfl (by exact wtFf rfl rfl) ?_
      refine TR.offT rfl rfl (by exact wtFf rfl rfl) (fun _ h => h) ?_
      refine TR.offT rfl rfl (by exact wtFf rfl rfl) (fun _ h => h) ?_
      refine TR.off rfl rfl (by exact wtFf rfl rfl) ?_
      refine TR.offT rfl rfl (by exact wtFf rfl rfl) (fun _ h => h) ?_
      refine TR.offT rfl rfl (by exact wtFf rfl rfl) (fun _ h => h) ?_
      refine TR.off rfl rfl (by exact wtFf rfl rfl) ?_
      refine TR.p rfl rfl wt0 (op_pickF rfl rfl) ?_
      refine TR.p rfl rfl wt0 (op_assign rfl) ?_
      refine TR.nil ?_
      refine TQ.then ?_
      refine TC.condF rfl ?_
      refine TC.seq ?_
      refine TC.region ?_   -- region 6 edit.go:78
      refine TL.opP rfl (op_move rfl) ?_
      refine TL.opP rfl (op_eql rfl rfl) ?_
      refine TL.opP rfl (op_move rfl) ?_
      first | refine TL.splitD (fun c7 => ?_) (fun c7 => ?_) | refine TL.splitB (fun c7 => ?_) (fun c7 => ?_)
      · refine TL.gFt rfl rfl rfl ?_
        refine TL.gFt rfl rfl rfl ?_
        refine TL.gFt rfl rfl rfl ?_
        refine TL.opP rfl (op_pickT rfl rfl) ?_
        refine TL.opP rfl (op_move rfl) ?_
        refine TL.gFt rfl rfl rfl ?_
        refine TL.gFt rfl rfl rfl ?_
        refine TL.gFt rfl rfl rfl ?_
        refine TL.gFt rfl rfl rfl ?_
        refine TL.gFt rfl rfl rfl ?_
        refine TL.gFt rfl rfl rfl ?_
        refine TL.gFt rfl rfl rfl ?_
        refine TL.gFt rfl rfl rfl ?_
        refine TL.gFt rfl rfl rfl ?_
        refine TL.gFt rfl rfl rfl ?_
        refine TL.opP rfl (op_pickT rfl rfl) ?_
        refine TL.opP rfl (op_assign rfl) ?_
        refine TL.nil ?_
        refine TQ.then ?_
        refine TC.condT rfl ?_
        refine TC.seq ?_
        refine TC.draw [7, 10] (.cons (.p, 0) (.cons (.p, 1) (.cons (.p, 2) (.cons (.p, 3) (.cons (.t, 4) (.cons (.t, 5) (.cons (.o, 6) (.cons (.z, 7) (.cons (.p, 8) (.cons (.p, 9) (.cons (.z, 10) (.nil)))))))))))) mo (by kernel_rfl) ?_   -- region 7 edit.go:79
        refine TR.p rfl rfl wt0 (op_move rfl) ?_
        refine TR.p rfl rfl wt0 (op_move rfl) ?_
        refine TR.p rfl rfl wt0 (op_nilCheck rfl) ?_
        refine TR.p rfl rfl wt0 (op_field fld_edit_maker_out rfl) ?_
        refine TR.t rfl rfl wt0 (op_load ts_sl_api_Part rfl m1 rfl) (fun _ h => h) ?_
        refine TR.t rfl rfl wt0 (op_loadS tst_api_Part rfl m0 rfl) (fun _ h => h) ?_
        refine TR.o rfl rfl wt0 (OpX.buildSlice (ps := #[(0, _)]) rfl (bs_api_Part_1 _)) (by rintro _ _ ⟨g86, rfl, rfl⟩; intro w h; exact h.tail) ?_; rintro _ _ ⟨g86, rfl, rfl⟩
        refine TR.hp (fun _ h => blk_row (k := 3) (m := 1) h rfl (by decide)) ?_
        refine TR.hp (fun _ h => h.pick3) ?_
        refine TR.z rfl rfl wt0 (OpX.append (bytes := 32) tsl_api_Part (by decide) (by decide) rfl rw1 (encs_one _) (by omega) rfl) ?_; rintro v5 _ rfl
        refine TR.know (fun _ h => row1 h) (fun o5 => ?_)
        refine TR.p rfl rfl wt0 (op_nilCheck rfl) ?_
        refine TR.p rfl rfl wt0 (op_field fld_edit_maker_out rfl) ?_
        refine TR.hp (fun _ h => h.pick3) ?_
        refine TR.z0 rfl wt0 (OpX.store1 ts_sl_api_Part rfl rfl (by first | rfl | assumption) rfl rfl) ?_; rintro _ _ rfl
        refine TR.nil ?_
        refine TQ.then ?_
        refine TC.ret ?_
        refine TQ.block_ret ?_
        refine TQ.then_ret ?_
        refine ret0 rfl (fun w' hp => ?_)
        refine ⟨_, _, rfl, ⟨rfl, v5, rfl⟩, ?_⟩
        have hq := (hp.drop3.drop2)
        first
          | (rw [addR_zero c1]; exact hq)
          | (rw [addR_nil c1]; exact hq)
          | (rw [addR_more c1 c3]; exact hq)
          | (rw [addR_push c1 c3 (.inl c5), ← encs_push]; exact hq)
          | (rw [addR_push c1 c3 (.inr c6), ← encs_push]; exact hq)
          | (rw [addR_deep c1 c3 (by grind), ← encs_push]; exact hq)
      · exact absurd (c7 : ¬ ((0 : Nat) : Int) = 0) (by omega)

theorem one_x (r : List Part) (p : Part) (g : Nat) (v : Value) (hb : OneB r p) : OneC S w0 F r p g v := by
  generalize hn : r.length = n
  induction n using Nat.strongRecOn generalizing r v F with
  | ind n ih => exact one_s r p g v hb (fun r' h hb' v' F' => ih r'.length (by omega) r' v' hb' rfl)
theorem add_x (ps r : List Part) (g : Nat) (v vl : Value) (hb : ManyB r ps) (hr : Rdb F vl 3 ps.length (encs ps)) :
    CallX Tryd.prog 52 [.pointer (some ⟨g, 0, none⟩), vl] S w0 (.blk g (.cells [v].toArray 63 (0, 0)) :: .row v 47 3 r.length (encs r.reverse) :: F) (fun u L' => u = .tuple #[] ∧ ∃ v', L' = .blk g (.cells [v'].toArray 63 (0, 0)) :: .row v' 47 3 (addRs r ps).length (encs (addRs r ps).reverse) :: F) := by
  intro w hp
  have hlen := hb.len
  refine calls_start Tryd.func52 rfl rfl rfl (hp) ?_
  refine TC.seq ?_
  refine TC.region ?_   -- region 0 edit.go:63
  refine TL.opP rfl (op_move rfl) ?_
  refine TL.opV rfl (op_lenV rfl un_sl_api_Part rfl hr.cons.cons) ?_
  refine TL.opP rfl (op_move rfl) ?_
  refine TL.nil ?_
  refine TQ.then ?_
  refine TC.block ?_
  refine TC.loop (ι := Nat × Value) (fun (k, v') => [(0, .pointer (some ⟨g, 0, none⟩)), (6, vl), (7, .int .i64 (ps.length : Int)), (8, .int .i64 (k : Int))]) (fun (k, v') => .blk g (.cells [v'].toArray 63 (0, 0)) :: .row v' 47 3 (addRs r (ps.take k)).length (encs (addRs r (ps.take k)).reverse) :: F) (fun (k, v') => k ≤ ps.length) (fun (k, v') => ps.length - k) ((0, v)) (Nat.zero_le _) ⟨rfl, rfl, rfl, rfl, trivial⟩ (fun _ h => h) ?_
  rintro ⟨k, v'⟩ (hk : k ≤ ps.length)
  show TC _ _ _ _ [(0, .pointer (some ⟨g, 0, none⟩)), (6, vl), (7, .int .i64 (ps.length : Int)), (8, .int .i64 (k : Int))] _ _ (.blk g (.cells [v'].toArray 63 (0, 0)) :: .row v' 47 3 (addRs r (ps.take k)).length (encs (addRs r (ps.take k)).reverse) :: F)
  refine TC.seq ?_
  refine TC.region ?_   -- region 1 edit.go:63
  refine TL.opP rfl (op_lss rfl rfl) ?_
  refine TL.nil ?_
  refine TQ.then ?_
  refine TC.seq ?_
  first | refine TC.condD rfl (fun c1 => ?_) (fun c1 => ?_) | refine TC.condB rfl (fun c1 => ?_) (fun c1 => ?_)
  · have hkl : k < ps.length := by omega
    obtain ⟨p, hpk⟩ : ∃ p, ps.getD k default = p := ⟨_, rfl⟩
    have hd := drop_getD hkl hpk
    have hpe : p ∈ ps := by rw [← hpk, List.getD_eq_getElem?_getD, List.getElem?_eq_getElem hkl]; exact List.getElem_mem hkl
    refine TC.skip ?_
    refine TQ.then ?_
    refine TC.seq ?_
    refine TC.block ?_
    refine TC.seq ?_
    refine TC.region ?_   -- region 2 edit.go:63
    refine TL.opV rfl (op_index tsl_api_Part rfl hr.cons.cons rfl (by omega) (by omega)) ?_
    refine TL.opV rfl (op_loadRS tst_api_Part rfl hr.cons.cons (cs := p.cs) rfl (lkS hkl hpk) (by decide)) ?_
    refine TL.opX rfl (OpX.alloc tz_api_Part rfl) ?_; rintro _ _ ⟨g5, rfl, rfl⟩
    refine TL.opX0 (OpX.storeS tst_api_Part rfl rfl rfl rfl rfl (List.all_eq_true.1 rfl)) ?_; rintro _ _ rfl
    refine TL.nil ?_
    refine TQ.then ?_
    refine TC.region ?_   -- region 3 edit.go:64
    refine TL.opP rfl (op_move rfl) ?_
    refine TL.opV rfl (op_loadS tst_api_Part rfl m0 rfl) ?_
    refine TL.hp (fun _ h => h.pick2.pick2) ?_
    refine TL.opX rfl (OpX.callX en_70 rfl (one_x (addRs r (ps.take k)) p g _ (hb.step hkl hpk))) ?_; rintro _ _ ⟨rfl, w1, rfl⟩
    refine TL.nil ?_
    refine TQ.block_normal ?_
    refine TQ.then ?_
    refine TC.region ?_   -- region 4 edit.go:63
    refine TL.opP rfl (op_add rfl rfl rfl (by omega) (by omega)) ?_
    refine TL.opP rfl (op_move rfl) ?_
    refine TL.nil ?_
    exact TQ.round (k + 1, w1) (by show k + 1 ≤ _; omega) (by show _ - (k + 1) < _ - k; omega) ⟨rfl, rfl, rfl, rfl, trivial⟩ (fun _ h => by dsimp only; rw [addRs_take hkl hpk]; exact h.drop2)
  · refine TC.exit ?_
    refine TQ.then_exit ?_
    refine TQ.loop_exit ?_
    refine TQ.block_hit ?_
    refine end0 rfl (fun w' hp => ?_)
    have hq := (hp)
    rw [List.take_of_length_le (by omega)] at hq
    exact ⟨_, _, rfl, ⟨rfl, _, rfl⟩, hq⟩

theorem done_x (r : List Part) (g : Nat) (v : Value) (hs : ∀ p ∈ r, p.text.size < 9223372036854775807) (hT : tabs ∈ F) :
    CallX Tryd.prog 63 [.pointer (some ⟨g, 0, none⟩)] S w0 (.blk g (.cells [v].toArray 63 (0, 0)) :: .row v 47 3 r.length (encs r.reverse) :: F) (fun u L' => u = .tuple #[v, .bool (sizesF r.reverse).2.2] ∧ L' = .blk g (.cells [v].toArray 63 (0, 0)) :: .row v 47 3 r.length (encs r.reverse) :: F) := by
  intro w hp
  refine calls_start Tryd.func63 rfl rfl rfl (hp) ?_
  refine TC.seq ?_
  refine TC.region ?_   -- region 0 edit.go:181
  refine TL.opP rfl (op_assign rfl) ?_
  refine TL.opP rfl (op_assign rfl) ?_
  refine TL.nil ?_
  refine TQ.then ?_
  refine TC.seq ?_
  refine TC.region ?_   -- region 1 edit.go:182
  refine TL.opP rfl (op_move rfl) ?_
  refine TL.opP rfl (op_nilCheck rfl) ?_
  refine TL.opP rfl (op_field fld_edit_maker_out rfl) ?_
  refine TL.opV rfl (op_load ts_sl_api_Part rfl m0 rfl) ?_
  refine TL.callq rfl en_58 rfl (fun w2 hp => sizes_calls r.reverse v w2 (tabs_at hp (.tail _ (.tail _ hT))) (fun p hp => hs p (List.mem_reverse.1 hp)) (by rw [List.length_reverse]; exact rw1 _ _ _ hp)) ?_
  refine TL.opP rfl (op_move rfl) ?_
  refine TL.opP rfl (op_extract rfl rfl) ?_
  refine TL.opP rfl (op_extract rfl rfl) ?_
  refine TL.opP rfl (op_extract rfl rfl) ?_
  refine TL.opP rfl (op_assign rfl) ?_
  refine TL.opP rfl (op_assign rfl) ?_
  refine TL.opP rfl (op_assign rfl) ?_
  refine TL.nil ?_
  refine TQ.then ?_
  refine TC.seq ?_
  refine TC.region ?_   -- region 2 edit.go:183
  refine TL.opP rfl (op_move rfl) ?_
  refine TL.opP rfl (op_nilCheck rfl) ?_
  refine TL.opP rfl (op_field fld_edit_maker_out rfl) ?_
  refine TL.opV rfl (op_load ts_sl_api_Part rfl m0 rfl) ?_
  refine TL.opP rfl (op_move rfl) ?_
  refine TL.opP rfl (op_assign rfl) ?_
  refine TL.opP rfl (op_assign rfl) ?_
  refine TL.nil ?_
  refine TQ.then ?_
  refine TC.ret ?_
  refine ret2 rfl rfl rfl (fun w' hp => ?_)
  exact ⟨_, _, rfl, ⟨rfl, rfl⟩, (hp)⟩

end Go.SK
