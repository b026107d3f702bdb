/- Walks: what fits, and sizes. Walks: the maker. Walks: the small functions of edit. Walks: going over an edit. Walks: composition. Walks: transformation. Walks: applying, inverse, one form, cursors, weights. -/
import Derived.Test.YtcfdglknagbbgaaDoorMC
import Derived.Test.YtcfdglknagbbgaaDoorT
import Derived.Test.YtcfdglknagbbgaaDoorSh
import Derived.Lib.TrimU
set_option linter.unusedVariables false
set_option linter.unusedSimpArgs false
set_option maxRecDepth 100000
namespace Go.SK
open Go Go.RowKit Go.Proofs
def Tabs (w : World) : Prop := Lib.Utf8Tabs (Tryd.laysValid_ren.g 3) (Tryd.laysValid_ren.g 4) w
theorem Tabs.bound {w : World} (h : Tabs w) (k : Nat) (hk : k = Tryd.laysValid_ren.g 3 ∨ k = Tryd.laysValid_ren.g 4) : k < w.heap.size := by
  rcases hk with rfl | rfl
  · exact World.block_lt_of_cell? w _ (h.1 0 (by omega))
  · exact World.block_lt_of_cell? w _ (h.2 0 (by omega)).1
theorem Tabs.move {w w' : World} (h : Tabs w) (hm : ∀ k, (k = Tryd.laysValid_ren.g 3 ∨ k = Tryd.laysValid_ren.g 4) → w'.heap[k]? = w.heap[k]?) : Tabs w' :=
  ⟨fun c hc => (World.cell?_of_block (hm _ (.inl rfl))).trans (h.1 c hc), fun i hi => ⟨(World.cell?_of_block (hm _ (.inr rfl))).trans (h.2 i hi).1, (World.cell?_of_block (hm _ (.inr rfl))).trans (h.2 i hi).2⟩⟩
theorem Tabs.kp {w w' : World} (h : Tabs w) (k : Kp NoB w w') : Tabs w' := h.move fun g hg => k.block g (h.bound g hg) (fun x => x)
/-- The tables, as an entry of the heap's list. -/
def tabs : Res := .ro (fun k => k = Tryd.laysValid_ren.g 3 ∨ k = Tryd.laysValid_ren.g 4) Tabs (fun _ _ hm h => h.move hm) (fun _ h => h.bound)
theorem tabs_holds {w : World} (h : Tabs w) : tabs.holds w := h
theorem tabs_at {S : Nat → Prop} {w0 w : World} {L : List Res} (h : Hp S w0 w L) (hm : tabs ∈ L) : Tabs w := h.at_ _ hm
theorem valid_calls (s : ByteArray) (w : World) (hT : Tabs w) (hs : s.size ≤ 9223372036854775807) : Calls Tryd.prog 8 (List.toArray [.string s]) w fun e w' => e = .returned (.bool (valid s)) ∧ Kp NoB w w' :=
  (Any.utf8_ValidString Tryd.laysValid s w hs hT).mono fun e w' h => ⟨h.1, Kp.of_below h.2⟩
theorem rcount_calls (s : ByteArray) (w : World) (hs : s.size < 9223372036854775807) : Calls Tryd.prog 21 (List.toArray [.string s]) w fun e w' => e = .returned (.int .i64 (rcount s)) ∧ Kp NoB w w' :=
  (Tryd.utf8_RuneCountInString s w hs).mono fun e w' h => ⟨h.1, by obtain ⟨p, rfl⟩ := h.2; exact Kp.iter w s p⟩
theorem fits_calls (p : Part) (w : World) (hT : Tabs w) (hs : p.text.size < 9223372036854775807) :
    Calls Tryd.prog 46 (List.toArray [p.val]) w fun e w' => e = .returned (.bool (fitsB p)) ∧ Kp NoB w w' := by
 refine calls_start Tryd.func46 rfl rfl rfl (Hp.init0 w) ?_
 refine TC.seq (TC.region ?_)
 refine TL.opX rfl (OpX.box (cs := _) rfl rfl) ?_; rintro _ _ ⟨g1, rfl, rfl⟩
 refine TL.opP rfl (op_assign rfl) (TL.nil (TQ.then (TC.seq (TC.seq (TC.region (TL.opP rfl (op_field fld_api_Part_N rfl) (TL.opV rfl (op_load ts_int rfl m0 rfl) (TL.opP rfl (op_lss rfl rfl) (TL.opP rfl (op_move rfl) ?_)))))))))
 first | refine TL.splitD (fun c1 => ?_) (fun c1 => ?_) | refine TL.splitB (fun c1 => ?_) (fun c1 => ?_)
 ·refine TL.gFt rfl rfl rfl (TL.gFt rfl rfl rfl (TL.gFt rfl rfl rfl (TL.opP rfl (op_pickT rfl rfl) (TL.nil (TQ.then (TC.condT rfl (TC.seq (TC.region (TL.opP rfl (op_assign rfl) (TL.nil (TQ.then (TC.ret (TQ.then_ret ?_)))))))))))))
  refine ret1 rfl rfl (fun w' hp => ?_)
  exact ⟨by grind [fitsB], hp.kp⟩
 ·refine TL.gT rfl rfl (TL.opP rfl (op_field fld_api_Part_N rfl) (TL.gT rfl rfl (TL.opV rfl (op_load ts_int rfl m0 rfl) (TL.gT rfl rfl (TL.opP rfl (op_gtr rfl rfl) (TL.opP rfl (op_pickF rfl rfl) (TL.nil (TQ.then ?_))))))))
  first | refine TC.condD rfl (fun c2 => ?_) (fun c2 => ?_) | refine TC.condB rfl (fun c2 => ?_) (fun c2 => ?_)
  ·refine TC.seq (TC.region (TL.opP rfl (op_assign rfl) (TL.nil (TQ.then (TC.ret (TQ.then_ret ?_))))))
   refine ret1 rfl rfl (fun w' hp => ?_)
   exact ⟨by grind [fitsB], hp.kp⟩
  ·refine TC.skip (TQ.then (TC.seq (TC.seq (TC.region (TL.opP rfl (op_field fld_api_Part_Kind rfl) (TL.opV rfl (op_load ts_int rfl m0 rfl) (TL.nil (TQ.then (TC.block (TC.seq (TC.seq (TC.region (TL.opP rfl (op_eql rfl rfl) (TL.opP rfl (op_assign rfl) (TL.nil (TQ.then ?_))))))))))))))))
   first | refine TC.condD rfl (fun c3 => ?_) (fun c3 => ?_) | refine TC.condB rfl (fun c3 => ?_) (fun c3 => ?_)
   ·refine TC.skip (TQ.then (TC.condT rfl (TC.seq (TC.region (TL.opP rfl (op_field fld_api_Part_Text rfl) (TL.opV rfl (op_load ts_string rfl m0 rfl) (TL.opP rfl (op_seql rfl rfl) (TL.opP rfl (op_assign rfl) (TL.nil (TQ.then (TC.ret (TQ.block_ret (TQ.then_ret ?_)))))))))))))
    refine ret1 rfl rfl (fun w' hp => ?_)
    exact ⟨by grind [fitsB], hp.kp⟩
   ·refine TC.region (TL.opP rfl (op_eql rfl rfl) (TL.opP rfl (op_assign rfl) (TL.nil (TQ.then ?_))))
    first | refine TC.condD rfl (fun c4 => ?_) (fun c4 => ?_) | refine TC.condB rfl (fun c4 => ?_) (fun c4 => ?_)
    ·refine TC.seq (TC.region (TL.opP rfl (op_field fld_api_Part_Text rfl) (TL.opV rfl (op_load ts_string rfl m0 rfl) (TL.opP rfl (op_seql rfl rfl) (TL.opP rfl (op_assign rfl) (TL.nil (TQ.then (TC.ret (TQ.block_ret (TQ.then_ret ?_))))))))))
     refine ret1 rfl rfl (fun w' hp => ?_)
     exact ⟨by grind [fitsB], hp.kp⟩
    ·refine TC.skip (TQ.block_normal (TQ.then (TC.seq (TC.draw [] (.cons (.p, 0) (.cons (.t, 1) (.cons (.p, 2) (.cons (.p, 3) (.cons (.p, 4) (.cons (.t, 5) (.cons (.t, 6) (.cons (.p, 7) (.cons (.p, 8) (.cons (.p, 9) (.cons (.p, 12) (.cons (.t, 10) (.cons (.t, 11) (.cons (.t, 13) (.cons (.p, 14) (.cons (.p, 15) (.cons (.p, 16) (.nil)))))))))))))))))) mo (by kernel_rfl) (TR.p rfl rfl wt0 (op_field fld_api_Part_Kind rfl) (TR.t rfl rfl wt0 (op_load ts_int rfl m0 rfl) (fun _ h => h) (TR.p rfl rfl wt0 (op_eql rfl rfl) (TR.p rfl rfl wt0 (op_move rfl) ?_))))))))
     first | refine TR.splitD (fun c5 => ?_) (fun c5 => ?_) | refine TR.splitB (fun c5 => ?_) (fun c5 => ?_)
     ·refine TR.p rfl rfl (by exact wtT rfl rfl) (op_field fld_api_Part_Text rfl) (TR.t rfl rfl (by exact wtT rfl rfl) (op_load ts_string rfl m0 rfl) (fun _ h => h) (TR.tcall rfl rfl (by exact wtT rfl rfl) en_8 rfl (fun w2 hp => valid_calls _ _ (hT.kp hp.kp) (by omega)) (fun _ h => h) (TR.p rfl rfl wt0 (op_pickT rfl rfl) (TR.p rfl rfl wt0 (op_move rfl) ?_))))
      first | refine TR.splitD (fun c6 => ?_) (fun c6 => ?_) | refine TR.splitB (fun c6 => ?_) (fun c6 => ?_)
      ·refine TR.p rfl rfl (by exact wtT rfl rfl) (op_field fld_api_Part_Text rfl) (TR.p rfl rfl (by exact wtT rfl rfl) (op_field fld_api_Part_N rfl) (TR.t rfl rfl (by exact wtT rfl rfl) (op_load ts_string rfl m0 rfl) (fun _ h => h) (TR.tcall rfl rfl (by exact wtT rfl rfl) en_21 rfl (fun w2 hp => rcount_calls _ _ hs) (fun _ h => h) (TR.t rfl rfl (by exact wtT rfl rfl) (op_load ts_int rfl m0 rfl) (fun _ h => h) (TR.p rfl rfl (by exact wtT rfl rfl) (op_eql rfl rfl) (TR.p rfl rfl wt0 (op_pickT rfl rfl) (TR.p rfl rfl wt0 (op_assign rfl) (TR.nil (TQ.then (TC.ret ?_))))))))))
       refine ret1 rfl rfl (fun w' hp => ?_)
       exact ⟨by grind [fitsB], hp.kp⟩
      ·refine TR.off rfl rfl (by exact wtFf rfl rfl) (TR.off rfl rfl (by exact wtFf rfl rfl) (TR.offT rfl rfl (by exact wtFf rfl rfl) (fun _ h => h) (TR.offT rfl rfl (by exact wtFf rfl rfl) (fun _ h => h) (TR.offT rfl rfl (by exact wtFf rfl rfl) (fun _ h => h) (TR.off rfl rfl (by exact wtFf rfl rfl) (TR.p rfl rfl wt0 (op_pickF rfl rfl) (TR.p rfl rfl wt0 (op_assign rfl) (TR.nil (TQ.then (TC.ret ?_))))))))))
       refine ret1 rfl rfl (fun w' hp => ?_)
       exact ⟨by grind [fitsB], hp.kp⟩
     ·refine TR.off rfl rfl (by exact wtFf rfl rfl) (TR.offT rfl rfl (by exact wtFf rfl rfl) (fun _ h => h) (TR.offT rfl rfl (by exact wtFf rfl rfl) (fun _ h => h) (TR.p rfl rfl wt0 (op_pickF rfl rfl) (TR.p rfl rfl wt0 (op_move rfl) (TR.off rfl rfl (by exact wtFf rfl rfl) (TR.off rfl rfl (by exact wtFf rfl rfl) (TR.offT rfl rfl (by exact wtFf rfl rfl) (fun _ h => h) (TR.offT rfl rfl (by exact wtFf rfl rfl) (fun _ h => h) (TR.offT rfl rfl (by exact wtFf rfl rfl) (fun _ h => h) (TR.off rfl rfl (by exact wtFf rfl rfl) (TR.p rfl rfl wt0 (op_pickF rfl rfl) (TR.p rfl rfl wt0 (op_assign rfl) (TR.nil (TQ.then (TC.ret ?_)))))))))))))))
      refine ret1 rfl rfl (fun w' hp => ?_)
      exact ⟨by grind [fitsB], hp.kp⟩

theorem sizes_calls (e : List Part) (v : Value) (w : World) (hT : Tabs w) (hs : ∀ p ∈ e, p.text.size < 9223372036854775807) (hv : RdRow w v 3 e.length (encs e)) :
    Calls Tryd.prog 35 (List.toArray [v]) w fun e' w' => e' = .returned (.tuple #[.int .i64 (sizesF e).1, .int .i64 (sizesF e).2.1, .bool (sizesF e).2.2]) ∧ Kp NoB w w' := by
 have hlen : e.length ≤ 9223372036854775807 := by obtain ⟨_, A, c, _, h1, h2, _⟩ := hv; simp only [maxLen] at h2; omega
 refine calls_start Tryd.func35 rfl rfl rfl (Hp.i1 (r := .rd v 3 e.length (encs e)) hv) ?_
 refine TC.seq (TC.region (TL.opP rfl (op_assign rfl) (TL.opP rfl (op_assign rfl) (TL.opP rfl (op_assign rfl) (TL.nil (TQ.then (TC.seq (TC.seq (TC.region (TL.opP rfl (op_move rfl) (TL.opV rfl (op_lenV rfl un_sl_api_Part rfl rd0) (TL.opP rfl (op_move rfl) (TL.nil (TQ.then (TC.block (TC.loop (ι := Nat × Int × Int) (fun (k, f, t) => [(0, v), (2, .int .i64 f), (3, .int .i64 t), (7, v), (8, .int .i64 (e.length : Int)), (9, .int .i64 (k : Int))]) (fun (k, f, t) => [.rd v 3 e.length (encs e)]) (fun (k, f, t) => k ≤ e.length ∧ sizesGo (prevAt e k) (e.drop k) f t = sizesF e ∧ 0 ≤ f ∧ f ≤ 1099511627776 ∧ 0 ≤ t ∧ t ≤ 1099511627776) (fun (k, f, t) => e.length - k) ((0, 0, 0)) (⟨Nat.zero_le _, rfl, by omega, by omega, by omega, by omega⟩) ⟨rfl, rfl, rfl, rfl, rfl, rfl, trivial⟩ (fun _ h => h) ?_))))))))))))))))
 rintro ⟨k, f, t⟩ ⟨hk, hgo, hf0, hf1, ht0, ht1⟩
 show TC _ _ _ _ [(0, v), (2, .int .i64 f), (3, .int .i64 t), (7, v), (8, .int .i64 (e.length : Int)), (9, .int .i64 (k : Int))] _ _ ([.rd v 3 e.length (encs e)])
 refine TC.seq (TC.region (TL.opP rfl (op_lss rfl rfl) (TL.nil (TQ.then (TC.seq ?_)))))
 first | refine TC.condD rfl (fun c1 => ?_) (fun c1 => ?_) | refine TC.condB rfl (fun c1 => ?_) (fun c1 => ?_)
 ·have hkl : k < e.length := by omega
  obtain ⟨p, hpk⟩ : ∃ p, e.getD k default = p := ⟨_, rfl⟩
  have hd := drop_getD hkl hpk
  have hpe : p ∈ e := by rw [← hpk, List.getD_eq_getElem?_getD, List.getElem?_eq_getElem hkl]; exact List.getElem_mem hkl
  refine TC.skip (TQ.then (TC.seq (TC.block (TC.seq (TC.region (TL.opP rfl (op_move rfl) (TL.opV rfl (op_index tsl_api_Part rfl rd0 rfl (by omega) (by omega)) (TL.opV rfl (op_loadRS tst_api_Part rfl rd0 (cs := p.cs) rfl (lkS hkl hpk) (by decide)) ?_))))))))
  refine TL.opX rfl (OpX.alloc tz_api_Part rfl) ?_; rintro _ _ ⟨g6, rfl, rfl⟩
  refine TL.opP rfl (op_assign rfl) ?_
  refine TL.opX0 (OpX.storeS tst_api_Part rfl rfl rfl rfl rfl (List.all_eq_true.1 rfl)) ?_; rintro _ _ rfl
  refine TL.nil (TQ.then (TC.seq ?_))
  refine TC.join1 [(0, v), (2, .int .i64 f), (3, .int .i64 t), (7, v), (8, .int .i64 (e.length : Int)), (9, .int .i64 (k : Int)), (5, .int .i64 (k : Int)), (6, .pointer (some ⟨g6, 0, none⟩)), (45, .bool (stopB (prevAt e k) p))] ([.blk g6 (.cells p.cs.toArray 50 (0, 0)), .rd v 3 e.length (encs e)]) ?_ ?_
  ·refine TC.draw [] (.cons (.t, 0) (.cons (.t, 1) (.cons (.p, 2) (.cons (.p, 3) (.cons (.p, 4) (.cons (.p, 5) (.cons (.p, 6) (.cons (.p, 7) (.cons (.p, 8) (.cons (.p, 9) (.cons (.p, 13) (.cons (.t, 10) (.cons (.p, 11) (.cons (.t, 12) (.cons (.t, 14) (.cons (.p, 15) (.cons (.p, 16) (.cons (.p, 17) (.cons (.p, 18) (.cons (.p, 19) (.cons (.t, 20) (.cons (.p, 21) (.cons (.t, 22) (.cons (.p, 23) (.cons (.p, 24) (.cons (.p, 25) (.cons (.t, 26) (.cons (.p, 27) (.cons (.p, 28) (.cons (.p, 29) (.cons (.p, 30) (.cons (.p, 31) (.nil))))))))))))))))))))))))))))))))) mo (by kernel_rfl) (TR.t rfl rfl wt0 (op_loadS tst_api_Part rfl m0 rfl) (fun _ h => h) (TR.tcall rfl rfl wt0 en_46 rfl (fun w2 hp => fits_calls p w2 (hT.kp hp.kp) (hs p hpe)) (fun _ h => h) ?_))
   refine TR.p rfl rfl wt0 (op_not rfl rfl) (TR.p rfl rfl wt0 (op_move rfl) ?_)
   first | refine TR.splitD (fun c2 => ?_) (fun c2 => ?_) | refine TR.splitB (fun c2 => ?_) (fun c2 => ?_)
   ·refine TR.off rfl rfl (by exact wtFt rfl rfl) (TR.off rfl rfl (by exact wtFt rfl rfl) (TR.off rfl rfl (by exact wtFt rfl rfl) (TR.off rfl rfl (by exact wtU rfl rfl) (TR.off rfl rfl (by exact wtU rfl rfl) (TR.off rfl rfl (by exact wtU rfl rfl) (TR.off rfl rfl (by exact wtU rfl rfl) (TR.offT rfl rfl (by exact wtU rfl rfl) (fun _ h => h) (TR.off rfl rfl (by exact wtU rfl rfl) (TR.offT rfl rfl (by exact wtU rfl rfl) (fun _ h => h) (TR.offT rfl rfl (by exact wtU rfl rfl) (fun _ h => h) (TR.off rfl rfl (by exact wtU rfl rfl) (TR.off rfl rfl (by exact wtU rfl rfl) (TR.off rfl rfl (by exact wtU rfl rfl) (TR.off rfl rfl (by exact wtU rfl rfl) (TR.off rfl rfl (by exact wtU rfl rfl) (TR.offT rfl rfl (by exact wtU rfl rfl) (fun _ h => h) ?_))))))))))))))))
    refine TR.off rfl rfl (by exact wtU rfl rfl) (TR.offT rfl rfl (by exact wtU rfl rfl) (fun _ h => h) (TR.off rfl rfl (by exact wtU rfl rfl) (TR.off rfl rfl (by exact wtU rfl rfl) (TR.off rfl rfl (by exact wtU rfl rfl) (TR.offT rfl rfl (by exact wtU rfl rfl) (fun _ h => h) (TR.off rfl rfl (by exact wtU rfl rfl) (TR.off rfl rfl (by exact wtU rfl rfl) (TR.off rfl rfl (by exact wtU rfl rfl) (TR.off rfl rfl (by exact wtFt rfl rfl) (TR.p rfl rfl wt0 (op_pickT rfl rfl) (TR.nil ?_)))))))))))
    exact TQ.join1 ⟨rfl, rfl, rfl, rfl, rfl, rfl, rfl, rfl, gb rfl (by grind [stopB, prevAt]), trivial⟩ (fun _ h => h)
   ·refine TR.p rfl rfl (by exact wtT rfl rfl) (op_move rfl) (TR.p rfl rfl (by exact wtT rfl rfl) (op_gtr rfl rfl) (TR.p rfl rfl (by exact wtT rfl rfl) (op_move rfl) ?_))
    first | refine TR.splitD (fun c3 => ?_) (fun c3 => ?_) | refine TR.splitB (fun c3 => ?_) (fun c3 => ?_)
    ·refine TR.p rfl rfl (by exact wtT rfl rfl) (op_move rfl) (TR.p rfl rfl (by exact wtT rfl rfl) (op_move rfl) (TR.p rfl rfl (by exact wtT rfl rfl) (op_sub rfl rfl rfl (by omega) (by omega)) (TR.p rfl rfl (by exact wtT rfl rfl) (op_field fld_api_Part_Kind rfl) (TR.t rfl rfl (by exact wtT rfl rfl) (op_index tsl_api_Part rfl rd1 rfl (by omega) (by omega)) (fun _ h => h) (TR.p rfl rfl (by exact wtT rfl rfl) (op_fieldA fld_api_Part_Kind rfl) ?_)))))
     refine TR.t rfl rfl (by exact wtT rfl rfl) (op_loadR ts_int rfl rd1 (lk (xs := e) (i := k-1) (j := 0) (by omega) (by show _ = (k-1)*3+0; omega) rfl)) (fun _ h => h) ?_
     refine TR.t rfl rfl (by exact wtT rfl rfl) (op_load ts_int rfl m0 rfl) (fun _ h => h) (TR.p rfl rfl (by exact wtT rfl rfl) (op_eql rfl rfl) (TR.p rfl rfl (by exact wtT rfl rfl) (op_move rfl) ?_))
     first | refine TR.splitD (fun c4 => ?_) (fun c4 => ?_) | refine TR.splitB (fun c4 => ?_) (fun c4 => ?_)
     ·refine TR.off rfl rfl (by exact wtFt rfl rfl) (TR.off rfl rfl (by exact wtFt rfl rfl) (TR.off rfl rfl (by exact wtFt rfl rfl) (TR.offT rfl rfl (by exact wtFt rfl rfl) (fun _ h => h) (TR.off rfl rfl (by exact wtFt rfl rfl) (TR.offT rfl rfl (by exact wtFt rfl rfl) (fun _ h => h) (TR.off rfl rfl (by exact wtFt rfl rfl) (TR.off rfl rfl (by exact wtFt rfl rfl) (TR.off rfl rfl (by exact wtU rfl rfl) (TR.offT rfl rfl (by exact wtU rfl rfl) (fun _ h => h) (TR.off rfl rfl (by exact wtU rfl rfl) (TR.off rfl rfl (by exact wtFt rfl rfl) (TR.p rfl rfl (by exact wtT rfl rfl) (op_pickT rfl rfl) (TR.p rfl rfl (by exact wtT rfl rfl) (op_pickT rfl rfl) (TR.p rfl rfl wt0 (op_pickF rfl rfl) (TR.nil ?_)))))))))))))))
      exact TQ.join1 ⟨rfl, rfl, rfl, rfl, rfl, rfl, rfl, rfl, gb rfl (by grind [stopB, prevAt]), trivial⟩ (fun _ h => h)
     ·refine TR.p rfl rfl (by exact wtT rfl rfl) (op_move rfl) (TR.p rfl rfl (by exact wtT rfl rfl) (op_move rfl) (TR.p rfl rfl (by exact wtT rfl rfl) (op_sub rfl rfl rfl (by omega) (by omega)) (TR.t rfl rfl (by exact wtT rfl rfl) (op_index tsl_api_Part rfl rd1 rfl (by omega) (by omega)) (fun _ h => h) (TR.p rfl rfl (by exact wtT rfl rfl) (op_fieldA fld_api_Part_Kind rfl) ?_))))
      refine TR.t rfl rfl (by exact wtT rfl rfl) (op_loadR ts_int rfl rd1 (lk (xs := e) (i := k-1) (j := 0) (by omega) (by show _ = (k-1)*3+0; omega) rfl)) (fun _ h => h) ?_
      refine TR.p rfl rfl (by exact wtT rfl rfl) (op_eql rfl rfl) (TR.p rfl rfl (by exact wtT rfl rfl) (op_move rfl) ?_)
      first | refine TR.splitD (fun c5 => ?_) (fun c5 => ?_) | refine TR.splitB (fun c5 => ?_) (fun c5 => ?_)
      ·refine TR.p rfl rfl (by exact wtT rfl rfl) (op_field fld_api_Part_Kind rfl) (TR.t rfl rfl (by exact wtT rfl rfl) (op_load ts_int rfl m0 rfl) (fun _ h => h) (TR.p rfl rfl (by exact wtT rfl rfl) (op_eql rfl rfl) (TR.p rfl rfl (by exact wtT rfl rfl) (op_pickT rfl rfl) (TR.p rfl rfl (by exact wtT rfl rfl) (op_pickF rfl rfl) (TR.p rfl rfl (by exact wtT rfl rfl) (op_pickT rfl rfl) (TR.p rfl rfl wt0 (op_pickF rfl rfl) (TR.nil ?_)))))))
       exact TQ.join1 ⟨rfl, rfl, rfl, rfl, rfl, rfl, rfl, rfl, gb rfl (by grind [stopB, prevAt]), trivial⟩ (fun _ h => h)
      ·refine TR.off rfl rfl (by exact wtFf rfl rfl) (TR.offT rfl rfl (by exact wtFf rfl rfl) (fun _ h => h) (TR.off rfl rfl (by exact wtFf rfl rfl) (TR.p rfl rfl (by exact wtT rfl rfl) (op_pickF rfl rfl) (TR.p rfl rfl (by exact wtT rfl rfl) (op_pickF rfl rfl) (TR.p rfl rfl (by exact wtT rfl rfl) (op_pickT rfl rfl) (TR.p rfl rfl wt0 (op_pickF rfl rfl) (TR.nil ?_)))))))
       exact TQ.join1 ⟨rfl, rfl, rfl, rfl, rfl, rfl, rfl, rfl, gb rfl (by grind [stopB, prevAt]), trivial⟩ (fun _ h => h)
    ·refine TR.off rfl rfl (by exact wtFf rfl rfl) (TR.off rfl rfl (by exact wtFf rfl rfl) (TR.off rfl rfl (by exact wtFf rfl rfl) (TR.off rfl rfl (by exact wtFf rfl rfl) (TR.offT rfl rfl (by exact wtFf rfl rfl) (fun _ h => h) (TR.off rfl rfl (by exact wtFf rfl rfl) (TR.offT rfl rfl (by exact wtFf rfl rfl) (fun _ h => h) (TR.offT rfl rfl (by exact wtFf rfl rfl) (fun _ h => h) (TR.off rfl rfl (by exact wtFf rfl rfl) (TR.off rfl rfl (by exact wtFf rfl rfl) (TR.off rfl rfl (by exact wtU rfl rfl) (TR.off rfl rfl (by exact wtU rfl rfl) (TR.off rfl rfl (by exact wtU rfl rfl) (TR.offT rfl rfl (by exact wtU rfl rfl) (fun _ h => h) (TR.off rfl rfl (by exact wtU rfl rfl) (TR.offT rfl rfl (by exact wtU rfl rfl) (fun _ h => h) ?_)))))))))))))))
     refine TR.off rfl rfl (by exact wtU rfl rfl) (TR.off rfl rfl (by exact wtU rfl rfl) (TR.off rfl rfl (by exact wtU rfl rfl) (TR.offT rfl rfl (by exact wtU rfl rfl) (fun _ h => h) (TR.off rfl rfl (by exact wtU rfl rfl) (TR.off rfl rfl (by exact wtU rfl rfl) (TR.off rfl rfl (by exact wtFf rfl rfl) (TR.p rfl rfl (by exact wtT rfl rfl) (op_pickF rfl rfl) (TR.p rfl rfl wt0 (op_pickF rfl rfl) (TR.nil ?_)))))))))
     exact TQ.join1 ⟨rfl, rfl, rfl, rfl, rfl, rfl, rfl, rfl, gb rfl (by grind [stopB, prevAt]), trivial⟩ (fun _ h => h)
  ·first | refine TC.condD rfl (fun c6 => ?_) (fun c6 => ?_) | refine TC.condB rfl (fun c6 => ?_) (fun c6 => ?_)
   ·refine TC.seq (TC.region (TL.opP rfl (op_assign rfl) (TL.opP rfl (op_assign rfl) (TL.opP rfl (op_assign rfl) (TL.nil (TQ.then (TC.ret (TQ.then_ret (TQ.block_ret (TQ.then_ret (TQ.loop_ret (TQ.block_ret (TQ.then_ret ?_)))))))))))))
    refine ret3 rfl rfl rfl rfl (fun w' hp => ?_)
    exact ⟨by rw [← hgo]; first | (rw [List.drop_eq_nil_of_le (by omega)]; rfl) | (rw [hd]; simp only [sizesGo]; grind [addF, addT]), hp.kp⟩
   ·have hfit := fitsB_n (stopB_fits c6)
    refine TC.skip (TQ.then (TC.seq (TC.seq (TC.region (TL.opP rfl (op_field fld_api_Part_Kind rfl) (TL.opV rfl (op_load ts_int rfl m0 rfl) (TL.opP rfl (op_neq rfl rfl) (TL.nil (TQ.then ?_)))))))))
    first | refine TC.condD rfl (fun c7 => ?_) (fun c7 => ?_) | refine TC.condB rfl (fun c7 => ?_) (fun c7 => ?_)
    ·refine TC.region (TL.opP rfl (op_move rfl) (TL.opP rfl (op_field fld_api_Part_N rfl) (TL.opV rfl (op_load ts_int rfl m0 rfl) (TL.opP rfl (op_add rfl rfl rfl (by omega) (by omega)) (TL.opP rfl (op_assign rfl) (TL.nil (TQ.then (TC.seq (TC.seq (TC.region (TL.opP rfl (op_field fld_api_Part_Kind rfl) (TL.opV rfl (op_load ts_int rfl m0 rfl) (TL.opP rfl (op_neq rfl rfl) (TL.nil (TQ.then ?_)))))))))))))))
     first | refine TC.condD rfl (fun c8 => ?_) (fun c8 => ?_) | refine TC.condB rfl (fun c8 => ?_) (fun c8 => ?_)
     ·refine TC.region (TL.opP rfl (op_move rfl) (TL.opP rfl (op_field fld_api_Part_N rfl) (TL.opV rfl (op_load ts_int rfl m0 rfl) (TL.opP rfl (op_add rfl rfl rfl (by omega) (by omega)) (TL.opP rfl (op_assign rfl) (TL.nil (TQ.then (TC.seq (TC.region (TL.opP rfl (op_move rfl) (TL.opP rfl (op_gtr rfl rfl) (TL.opP rfl (op_move rfl) ?_))))))))))))
      first | refine TL.splitD (fun c9 => ?_) (fun c9 => ?_) | refine TL.splitB (fun c9 => ?_) (fun c9 => ?_)
      ·refine TL.gFt rfl rfl rfl (TL.gFt rfl rfl rfl (TL.opP rfl (op_pickT rfl rfl) (TL.nil (TQ.then (TC.condT rfl (TC.seq (TC.region (TL.opP rfl (op_assign rfl) (TL.opP rfl (op_assign rfl) (TL.opP rfl (op_assign rfl) (TL.nil (TQ.then (TC.ret (TQ.block_ret (TQ.then_ret (TQ.loop_ret (TQ.block_ret (TQ.then_ret ?_))))))))))))))))))
       refine ret3 rfl rfl rfl rfl (fun w' hp => ?_)
       exact ⟨by rw [← hgo]; first | (rw [List.drop_eq_nil_of_le (by omega)]; rfl) | (rw [hd]; simp only [sizesGo]; grind [addF, addT]), hp.kp⟩
      ·refine TL.gT rfl rfl (TL.opP rfl (op_move rfl) (TL.gT rfl rfl (TL.opP rfl (op_gtr rfl rfl) (TL.opP rfl (op_pickF rfl rfl) (TL.nil (TQ.then ?_))))))
       first | refine TC.condD rfl (fun c10 => ?_) (fun c10 => ?_) | refine TC.condB rfl (fun c10 => ?_) (fun c10 => ?_)
       ·refine TC.seq (TC.region (TL.opP rfl (op_assign rfl) (TL.opP rfl (op_assign rfl) (TL.opP rfl (op_assign rfl) (TL.nil (TQ.then (TC.ret (TQ.block_ret (TQ.then_ret (TQ.loop_ret (TQ.block_ret (TQ.then_ret ?_))))))))))))
        refine ret3 rfl rfl rfl rfl (fun w' hp => ?_)
        exact ⟨by rw [← hgo]; first | (rw [List.drop_eq_nil_of_le (by omega)]; rfl) | (rw [hd]; simp only [sizesGo]; grind [addF, addT]), hp.kp⟩
       ·refine TC.skip (TQ.block_normal (TQ.then (TC.region (TL.opP rfl (op_add rfl rfl rfl (by omega) (by omega)) (TL.opP rfl (op_move rfl) (TL.nil ?_))))))
        exact TQ.round (k + 1, addF p f, addT p t) (⟨by omega, by simp only [prevAt, Nat.add_sub_cancel, hpk]; rw [if_neg (by omega)]; rw [← hgo, hd, sizesGo, c6]; grind [addF, addT], by grind [addF], by grind [addF], by grind [addT], by grind [addT]⟩) (by show _ - (k + 1) < _ - k; omega) ⟨rfl, gi rfl (by grind [addF]), gi rfl (by grind [addT]), rfl, rfl, rfl, trivial⟩ (fun _ h => h.tail)
     ·refine TC.skip (TQ.then (TC.seq (TC.region (TL.opP rfl (op_move rfl) (TL.opP rfl (op_gtr rfl rfl) (TL.opP rfl (op_move rfl) ?_))))))
      first | refine TL.splitD (fun c11 => ?_) (fun c11 => ?_) | refine TL.splitB (fun c11 => ?_) (fun c11 => ?_)
      ·refine TL.gFt rfl rfl rfl (TL.gFt rfl rfl rfl (TL.opP rfl (op_pickT rfl rfl) (TL.nil (TQ.then (TC.condT rfl (TC.seq (TC.region (TL.opP rfl (op_assign rfl) (TL.opP rfl (op_assign rfl) (TL.opP rfl (op_assign rfl) (TL.nil (TQ.then (TC.ret (TQ.block_ret (TQ.then_ret (TQ.loop_ret (TQ.block_ret (TQ.then_ret ?_))))))))))))))))))
       refine ret3 rfl rfl rfl rfl (fun w' hp => ?_)
       exact ⟨by rw [← hgo]; first | (rw [List.drop_eq_nil_of_le (by omega)]; rfl) | (rw [hd]; simp only [sizesGo]; grind [addF, addT]), hp.kp⟩
      ·refine TL.gT rfl rfl (TL.opP rfl (op_move rfl) (TL.gT rfl rfl (TL.opP rfl (op_gtr rfl rfl) (TL.opP rfl (op_pickF rfl rfl) (TL.nil (TQ.then ?_))))))
       first | refine TC.condD rfl (fun c12 => ?_) (fun c12 => ?_) | refine TC.condB rfl (fun c12 => ?_) (fun c12 => ?_)
       ·refine TC.seq (TC.region (TL.opP rfl (op_assign rfl) (TL.opP rfl (op_assign rfl) (TL.opP rfl (op_assign rfl) (TL.nil (TQ.then (TC.ret (TQ.block_ret (TQ.then_ret (TQ.loop_ret (TQ.block_ret (TQ.then_ret ?_))))))))))))
        refine ret3 rfl rfl rfl rfl (fun w' hp => ?_)
        exact ⟨by rw [← hgo]; first | (rw [List.drop_eq_nil_of_le (by omega)]; rfl) | (rw [hd]; simp only [sizesGo]; grind [addF, addT]), hp.kp⟩
       ·refine TC.skip (TQ.block_normal (TQ.then (TC.region (TL.opP rfl (op_add rfl rfl rfl (by omega) (by omega)) (TL.opP rfl (op_move rfl) (TL.nil ?_))))))
        exact TQ.round (k + 1, addF p f, addT p t) (⟨by omega, by simp only [prevAt, Nat.add_sub_cancel, hpk]; rw [if_neg (by omega)]; rw [← hgo, hd, sizesGo, c6]; grind [addF, addT], by grind [addF], by grind [addF], by grind [addT], by grind [addT]⟩) (by show _ - (k + 1) < _ - k; omega) ⟨rfl, gi rfl (by grind [addF]), gi rfl (by grind [addT]), rfl, rfl, rfl, trivial⟩ (fun _ h => h.tail)
    ·refine TC.skip (TQ.then (TC.seq (TC.seq (TC.region (TL.opP rfl (op_field fld_api_Part_Kind rfl) (TL.opV rfl (op_load ts_int rfl m0 rfl) (TL.opP rfl (op_neq rfl rfl) (TL.nil (TQ.then ?_)))))))))
     first | refine TC.condD rfl (fun c13 => ?_) (fun c13 => ?_) | refine TC.condB rfl (fun c13 => ?_) (fun c13 => ?_)
     ·refine TC.region (TL.opP rfl (op_move rfl) (TL.opP rfl (op_field fld_api_Part_N rfl) (TL.opV rfl (op_load ts_int rfl m0 rfl) (TL.opP rfl (op_add rfl rfl rfl (by omega) (by omega)) (TL.opP rfl (op_assign rfl) (TL.nil (TQ.then (TC.seq (TC.region (TL.opP rfl (op_move rfl) (TL.opP rfl (op_gtr rfl rfl) (TL.opP rfl (op_move rfl) ?_))))))))))))
      first | refine TL.splitD (fun c14 => ?_) (fun c14 => ?_) | refine TL.splitB (fun c14 => ?_) (fun c14 => ?_)
      ·refine TL.gFt rfl rfl rfl (TL.gFt rfl rfl rfl (TL.opP rfl (op_pickT rfl rfl) (TL.nil (TQ.then (TC.condT rfl (TC.seq (TC.region (TL.opP rfl (op_assign rfl) (TL.opP rfl (op_assign rfl) (TL.opP rfl (op_assign rfl) (TL.nil (TQ.then (TC.ret (TQ.block_ret (TQ.then_ret (TQ.loop_ret (TQ.block_ret (TQ.then_ret ?_))))))))))))))))))
       refine ret3 rfl rfl rfl rfl (fun w' hp => ?_)
       exact ⟨by rw [← hgo]; first | (rw [List.drop_eq_nil_of_le (by omega)]; rfl) | (rw [hd]; simp only [sizesGo]; grind [addF, addT]), hp.kp⟩
      ·refine TL.gT rfl rfl (TL.opP rfl (op_move rfl) (TL.gT rfl rfl (TL.opP rfl (op_gtr rfl rfl) (TL.opP rfl (op_pickF rfl rfl) (TL.nil (TQ.then ?_))))))
       first | refine TC.condD rfl (fun c15 => ?_) (fun c15 => ?_) | refine TC.condB rfl (fun c15 => ?_) (fun c15 => ?_)
       ·refine TC.seq (TC.region (TL.opP rfl (op_assign rfl) (TL.opP rfl (op_assign rfl) (TL.opP rfl (op_assign rfl) (TL.nil (TQ.then (TC.ret (TQ.block_ret (TQ.then_ret (TQ.loop_ret (TQ.block_ret (TQ.then_ret ?_))))))))))))
        refine ret3 rfl rfl rfl rfl (fun w' hp => ?_)
        exact ⟨by rw [← hgo]; first | (rw [List.drop_eq_nil_of_le (by omega)]; rfl) | (rw [hd]; simp only [sizesGo]; grind [addF, addT]), hp.kp⟩
       ·refine TC.skip (TQ.block_normal (TQ.then (TC.region (TL.opP rfl (op_add rfl rfl rfl (by omega) (by omega)) (TL.opP rfl (op_move rfl) (TL.nil ?_))))))
        exact TQ.round (k + 1, addF p f, addT p t) (⟨by omega, by simp only [prevAt, Nat.add_sub_cancel, hpk]; rw [if_neg (by omega)]; rw [← hgo, hd, sizesGo, c6]; grind [addF, addT], by grind [addF], by grind [addF], by grind [addT], by grind [addT]⟩) (by show _ - (k + 1) < _ - k; omega) ⟨rfl, gi rfl (by grind [addF]), gi rfl (by grind [addT]), rfl, rfl, rfl, trivial⟩ (fun _ h => h.tail)
     ·refine TC.skip (TQ.then (TC.seq (TC.region (TL.opP rfl (op_move rfl) (TL.opP rfl (op_gtr rfl rfl) (TL.opP rfl (op_move rfl) ?_))))))
      first | refine TL.splitD (fun c16 => ?_) (fun c16 => ?_) | refine TL.splitB (fun c16 => ?_) (fun c16 => ?_)
      ·refine TL.gFt rfl rfl rfl (TL.gFt rfl rfl rfl (TL.opP rfl (op_pickT rfl rfl) (TL.nil (TQ.then (TC.condT rfl (TC.seq (TC.region (TL.opP rfl (op_assign rfl) (TL.opP rfl (op_assign rfl) (TL.opP rfl (op_assign rfl) (TL.nil (TQ.then (TC.ret (TQ.block_ret (TQ.then_ret (TQ.loop_ret (TQ.block_ret (TQ.then_ret ?_))))))))))))))))))
       refine ret3 rfl rfl rfl rfl (fun w' hp => ?_)
       exact ⟨by rw [← hgo]; first | (rw [List.drop_eq_nil_of_le (by omega)]; rfl) | (rw [hd]; simp only [sizesGo]; grind [addF, addT]), hp.kp⟩
      ·refine TL.gT rfl rfl (TL.opP rfl (op_move rfl) (TL.gT rfl rfl (TL.opP rfl (op_gtr rfl rfl) (TL.opP rfl (op_pickF rfl rfl) (TL.nil (TQ.then ?_))))))
       first | refine TC.condD rfl (fun c17 => ?_) (fun c17 => ?_) | refine TC.condB rfl (fun c17 => ?_) (fun c17 => ?_)
       ·refine TC.seq (TC.region (TL.opP rfl (op_assign rfl) (TL.opP rfl (op_assign rfl) (TL.opP rfl (op_assign rfl) (TL.nil (TQ.then (TC.ret (TQ.block_ret (TQ.then_ret (TQ.loop_ret (TQ.block_ret (TQ.then_ret ?_))))))))))))
        refine ret3 rfl rfl rfl rfl (fun w' hp => ?_)
        exact ⟨by rw [← hgo]; first | (rw [List.drop_eq_nil_of_le (by omega)]; rfl) | (rw [hd]; simp only [sizesGo]; grind [addF, addT]), hp.kp⟩
       ·refine TC.skip (TQ.block_normal (TQ.then (TC.region (TL.opP rfl (op_add rfl rfl rfl (by omega) (by omega)) (TL.opP rfl (op_move rfl) (TL.nil ?_))))))
        exact TQ.round (k + 1, addF p f, addT p t) (⟨by omega, by simp only [prevAt, Nat.add_sub_cancel, hpk]; rw [if_neg (by omega)]; rw [← hgo, hd, sizesGo, c6]; grind [addF, addT], by grind [addF], by grind [addF], by grind [addT], by grind [addT]⟩) (by show _ - (k + 1) < _ - k; omega) ⟨rfl, gi rfl (by grind [addF]), gi rfl (by grind [addT]), rfl, rfl, rfl, trivial⟩ (fun _ h => h.tail)
 ·refine TC.exit (TQ.then_exit (TQ.loop_exit (TQ.block_hit (TQ.then (TC.seq (TC.region (TL.opP rfl (op_move rfl) (TL.opP rfl (op_move rfl) (TL.opP rfl (op_assign rfl) (TL.opP rfl (op_assign rfl) (TL.opP rfl (op_assign rfl) (TL.nil (TQ.then (TC.ret ?_))))))))))))))
  refine ret3 rfl rfl rfl rfl (fun w' hp => ?_)
  exact ⟨by rw [← hgo]; first | (rw [List.drop_eq_nil_of_le (by omega)]; rfl) | (rw [hd]; simp only [sizesGo]; grind [addF, addT]), hp.kp⟩

end Go.SK

set_option linter.unusedVariables false
set_option linter.unusedSimpArgs false
set_option maxRecDepth 100000
namespace Go.SK
open Go Go.RowKit Go.Proofs
variable {S : Nat → Prop} {w0 : World} {F : List Res}
theorem bs_api_Part_0 : ∀ w : World, (Instr.buildSlice 23 0 #[]).run Tryd.prog w = .ok (.slice (some ⟨w.heap.size, 0, none⟩) 0 0) (w.alloc (.cells (encs ([] : List Part)).toArray 50 (0, 0))) := by intro w; kernel_rfl
theorem bs_api_Part_1 (p : Part) : ∀ w : World, (Instr.buildSlice 23 1 #[(0, p.val)]).run Tryd.prog w = .ok (.slice (some ⟨w.heap.size, 0, none⟩) 1 1) (w.alloc (.cells (encs [p]).toArray 50 (0, 0))) := by intro w; kernel_rfl
theorem bs_api_Part_4 (p q r s : Part) : ∀ w : World, (Instr.buildSlice 23 4 #[(0, p.val), (1, q.val), (2, r.val), (3, s.val)]).run Tryd.prog w = .ok (.slice (some ⟨w.heap.size, 0, none⟩) 4 4) (w.alloc (.cells (encs [p, q, r, s]).toArray 50 (0, 0))) := by intro w; kernel_rfl
theorem keep_calls (n : Int) (w : World) :
    Calls Tryd.prog 40 (List.toArray [.int .i64 n]) w fun e w' => e = .returned (keepP n).val ∧ Kp NoB w w' := by
 refine calls_start Tryd.func40 rfl rfl rfl (Hp.init0 w) ?_
 refine TC.seq (TC.region ?_)
 refine TL.opX rfl (OpX.alloc tz_api_Part rfl) ?_; rintro _ _ ⟨g2, rfl, rfl⟩
 refine TL.nil (TQ.then (TC.seq (TC.region (TL.opP rfl (op_move rfl) (TL.opP rfl (op_build (ps := #[(0, _), (1, _)]) rfl (bl_api_Part_01 _ _)) ?_)))))
 refine TL.opX0 (OpX.storeS tst_api_Part rfl rfl rfl rfl rfl (List.all_eq_true.1 rfl)) ?_; rintro _ _ rfl
 refine TL.nil (TQ.then (TC.ret ?_))
 refine retc tst_api_Part rfl rfl m0 rfl (fun w' hp => ?_)
 exact ⟨rfl, hp.kp⟩

theorem drop_calls (n : Int) (w : World) :
    Calls Tryd.prog 33 (List.toArray [.int .i64 n]) w fun e w' => e = .returned (dropP n).val ∧ Kp NoB w w' := by
 refine calls_start Tryd.func33 rfl rfl rfl (Hp.init0 w) ?_
 refine TC.seq (TC.region ?_)
 refine TL.opX rfl (OpX.alloc tz_api_Part rfl) ?_; rintro _ _ ⟨g2, rfl, rfl⟩
 refine TL.nil (TQ.then (TC.seq (TC.region (TL.opP rfl (op_move rfl) (TL.opP rfl (op_build (ps := #[(0, _), (1, _)]) rfl (bl_api_Part_01 _ _)) ?_)))))
 refine TL.opX0 (OpX.storeS tst_api_Part rfl rfl rfl rfl rfl (List.all_eq_true.1 rfl)) ?_; rintro _ _ rfl
 refine TL.nil (TQ.then (TC.ret ?_))
 refine retc tst_api_Part rfl rfl m0 rfl (fun w' hp => ?_)
 exact ⟨rfl, hp.kp⟩

theorem put_calls (s : ByteArray) (w : World) (hs : s.size < 9223372036854775807) :
    Calls Tryd.prog 32 (List.toArray [.string s]) w fun e w' => e = .returned (putP s).val ∧ Kp NoB w w' := by
 refine calls_start Tryd.func32 rfl rfl rfl (Hp.init0 w) ?_
 refine TC.seq (TC.region ?_)
 refine TL.opX rfl (OpX.alloc tz_api_Part rfl) ?_; rintro _ _ ⟨g2, rfl, rfl⟩
 refine TL.nil (TQ.then (TC.seq (TC.region (TL.opP rfl (op_move rfl) (TL.callq rfl en_21 rfl (fun w2 hp => rcount_calls _ _ hs) (TL.opP rfl (op_move rfl) (TL.opP rfl (op_build (ps := #[(0, _), (1, _), (2, _)]) rfl (bl_api_Part_012 _ _ _)) ?_)))))))
 refine TL.opX0 (OpX.storeS tst_api_Part rfl rfl rfl rfl rfl (List.all_eq_true.1 rfl)) ?_; rintro _ _ rfl
 refine TL.nil (TQ.then (TC.ret ?_))
 refine retc tst_api_Part rfl rfl m0 rfl (fun w' hp => ?_)
 exact ⟨rfl, hp.kp⟩

abbrev OneC (S : Nat → Prop) (w0 : World) (F : List Res) (r : List Part) (p : Part) (g : Nat) (v : Value) : Prop :=
  CallX Tryd.prog 45 [.pointer (some ⟨g, 0, none⟩), p.val] S w0 (.blk g (.cells [v].toArray 73 (0, 0)) :: .row v 50 3 r.length (encs r.reverse) :: F) (fun u L' => u = .tuple #[] ∧ ∃ v', L' = .blk g (.cells [v'].toArray 73 (0, 0)) :: .row v' 50 3 (addR r p).length (encs (addR r p).reverse) :: F)
theorem one_s {F : List Res} (r : List Part) (p : Part) (g : Nat) (v : Value) (hb : OneB r p) (ih : ∀ r' : List Part, r'.length < r.length → OneB r' p → ∀ (v : Value) (F : List Res), OneC S w0 F r' p g v) :
    CallX Tryd.prog 45 [.pointer (some ⟨g, 0, none⟩), p.val] S w0 (.blk g (.cells [v].toArray 73 (0, 0)) :: .row v 50 3 r.length (encs r.reverse) :: F) (fun u L' => u = .tuple #[] ∧ ∃ v', L' = .blk g (.cells [v'].toArray 73 (0, 0)) :: .row v' 50 3 (addR r p).length (encs (addR r p).reverse) :: F) := by
 intro w hp
 have hlen := hb.len
 have hp0 := hb.p0
 refine calls_start Tryd.func45 rfl rfl rfl (hp) ?_
 refine TC.seq (TC.region ?_)
 refine TL.opX rfl (OpX.box (cs := p.cs) rfl rfl) ?_; rintro _ _ ⟨g3, rfl, rfl⟩
 refine TL.nil (TQ.then (TC.seq (TC.region (TL.opP rfl (op_move rfl) (TL.opP rfl (op_nilCheck rfl) (TL.opP rfl (op_field fld_edit_maker_out rfl) (TL.opV rfl (op_load ts_sl_api_Part rfl m1 rfl) (TL.opV rfl (op_lenV rfl un_sl_api_Part rfl rw2) (TL.opP rfl (op_assign rfl) (TL.nil (TQ.then (TC.seq (TC.block (TC.seq (TC.region (TL.opP rfl (op_field fld_api_Part_N rfl) (TL.opV rfl (op_load ts_int rfl m0 rfl) (TL.opP rfl (op_eql rfl rfl) (TL.opP rfl (op_assign rfl) (TL.nil (TQ.then ?_)))))))))))))))))))))
 first | refine TC.condD rfl (fun c1 => ?_) (fun c1 => ?_) | refine TC.condB rfl (fun c1 => ?_) (fun c1 => ?_)
 ·refine TC.ret (TQ.block_ret (TQ.then_ret ?_))
  refine ret0 rfl (fun w' hp => ?_)
  refine ⟨_, _, rfl, ⟨rfl, v, rfl⟩, ?_⟩
  have hq := (hp.tail)
  first
    | (rw [addR_zero c1]; exact hq)
    | (rw [addR_nil c1]; exact hq)
    | (rw [addR_more c1 c3]; exact hq)
    | (rw [addR_push c1 c3 (.inl c5), ← encs_push]; exact hq)
    | (rw [addR_push c1 c3 (.inr c6), ← encs_push]; exact hq)
    | (rw [addR_deep c1 c3 (by grind), ← encs_push]; exact hq)
 ·refine TC.seq (TC.draw [] (.cons (.p, 0) (.cons (.p, 1) (.cons (.p, 2) (.cons (.p, 3) (.cons (.p, 4) (.cons (.p, 5) (.cons (.p, 7) (.cons (.p, 8) (.cons (.p, 12) (.cons (.t, 6) (.cons (.t, 9) (.cons (.p, 10) (.cons (.t, 11) (.cons (.t, 13) (.cons (.p, 14) (.cons (.p, 15) (.cons (.p, 16) (.nil)))))))))))))))))) mo (by kernel_rfl) (TR.p rfl rfl wt0 (op_move rfl) (TR.p rfl rfl wt0 (op_gtr rfl rfl) (TR.p rfl rfl wt0 (op_move rfl) ?_))))
  first | refine TR.splitD (fun c2 => ?_) (fun c2 => ?_) | refine TR.splitB (fun c2 => ?_) (fun c2 => ?_)
  ·obtain ⟨q, r, rfl⟩ : ∃ q r', r = q :: r' := by cases r with | nil => simp at c2 | cons q r' => exact ⟨q, r', rfl⟩
   have hbh := hb.head
   have hlc : (q :: r).length = r.length + 1 := rfl
   have hal := (addR_facts r p hb.tail.pos hb.p0).2.2.2
   refine TR.p rfl rfl (by exact wtT rfl rfl) (op_move rfl) (TR.p rfl rfl (by exact wtT rfl rfl) (op_nilCheck rfl) (TR.p rfl rfl (by exact wtT rfl rfl) (op_field fld_edit_maker_out rfl) (TR.p rfl rfl (by exact wtT rfl rfl) (op_move rfl) (TR.p rfl rfl (by exact wtT rfl rfl) (op_sub rfl rfl rfl (by omega) (by omega)) (TR.p rfl rfl (by exact wtT rfl rfl) (op_field fld_api_Part_Kind rfl) (TR.t rfl rfl (by exact wtT rfl rfl) (op_load ts_sl_api_Part rfl m1 rfl) (fun _ h => h) (TR.t rfl rfl (by exact wtT rfl rfl) (op_index tsl_api_Part rfl rw2 rfl (by omega) (by omega)) (fun _ h => h) (TR.p rfl rfl (by exact wtT rfl rfl) (op_fieldA fld_api_Part_Kind rfl) (TR.t rfl rfl (by exact wtT rfl rfl) (op_loadR ts_int rfl rw2 (lkR 0 (by omega) rfl)) (fun _ h => h) ?_)))))))))
   refine TR.t rfl rfl (by exact wtT rfl rfl) (op_load ts_int rfl m0 rfl) (fun _ h => h) (TR.p rfl rfl (by exact wtT rfl rfl) (op_eql rfl rfl) (TR.p rfl rfl wt0 (op_pickT rfl rfl) (TR.p rfl rfl wt0 (op_assign rfl) (TR.nil (TQ.then ?_)))))
   first | refine TC.condD rfl (fun c3 => ?_) (fun c3 => ?_) | refine TC.condB rfl (fun c3 => ?_) (fun c3 => ?_)
   ·refine TC.seq (TC.draw [14] (.cons (.p, 0) (.cons (.p, 1) (.cons (.p, 2) (.cons (.p, 4) (.cons (.p, 5) (.cons (.p, 9) (.cons (.t, 3) (.cons (.t, 6) (.cons (.p, 7) (.cons (.t, 8) (.cons (.t, 10) (.cons (.p, 11) (.cons (.t, 12) (.cons (.p, 13) (.cons (.z, 14) (.nil)))))))))))))))) mo (by kernel_rfl) (TR.p rfl rfl wt0 (op_move rfl) (TR.p rfl rfl wt0 (op_nilCheck rfl) (TR.p rfl rfl wt0 (op_field fld_edit_maker_out rfl) (TR.p rfl rfl wt0 (op_move rfl) (TR.p rfl rfl wt0 (op_sub rfl rfl rfl (by omega) (by omega)) (TR.p rfl rfl wt0 (op_field fld_api_Part_N rfl) (TR.t rfl rfl wt0 (op_load ts_sl_api_Part rfl m1 rfl) (fun _ h => h) (TR.t rfl rfl wt0 (op_index tsl_api_Part rfl rw2 rfl (by omega) (by omega)) (fun _ h => h) ?_)))))))))
    refine TR.p rfl rfl wt0 (op_fieldA fld_api_Part_N rfl) (TR.t rfl rfl wt0 (op_loadR ts_int rfl rw2 (lkR 1 (by omega) rfl)) (fun _ h => h) (TR.t rfl rfl wt0 (op_load ts_int rfl m0 rfl) (fun _ h => h) (TR.p rfl rfl wt0 (op_add rfl rfl rfl (by omega) (by omega)) (TR.t rfl rfl wt0 (op_index tsl_api_Part rfl rw2 rfl (by omega) (by omega)) (fun _ h => h) (TR.p rfl rfl wt0 (op_fieldA fld_api_Part_N rfl) (TR.hp (fun _ h => h.pick2) ?_))))))
    refine TR.z0 rfl wt0 (OpX.storeRow (k := 1) (fun w => by kernel_rfl) rfl rfl rfl (ys := [.int .i64 (q.n + p.n)]) rfl (by decide) (List.all_eq_true.1 rfl) (by omega) (stR (q' := ⟨q.kind, q.n + p.n, q.text⟩) 1 _ (by omega) rfl (by decide))) ?_; rintro _ _ rfl
    refine TR.nil (TQ.then (TC.seq (TC.draw [14] (.cons (.p, 0) (.cons (.p, 1) (.cons (.p, 2) (.cons (.p, 4) (.cons (.p, 5) (.cons (.p, 9) (.cons (.t, 3) (.cons (.t, 6) (.cons (.p, 7) (.cons (.t, 8) (.cons (.t, 10) (.cons (.p, 11) (.cons (.t, 12) (.cons (.p, 13) (.cons (.z, 14) (.nil)))))))))))))))) mo (by kernel_rfl) (TR.p rfl rfl wt0 (op_move rfl) (TR.p rfl rfl wt0 (op_nilCheck rfl) (TR.p rfl rfl wt0 (op_field fld_edit_maker_out rfl) (TR.p rfl rfl wt0 (op_move rfl) (TR.p rfl rfl wt0 (op_sub rfl rfl rfl (by omega) (by omega)) (TR.p rfl rfl wt0 (op_field fld_api_Part_Text rfl) (TR.t rfl rfl wt0 (op_load ts_sl_api_Part rfl m2 rfl) (fun _ h => h) (TR.t rfl rfl wt0 (op_index tsl_api_Part rfl rw0 rfl (by omega) (by omega)) (fun _ h => h) ?_)))))))))))
    refine TR.p rfl rfl wt0 (op_fieldA fld_api_Part_Text rfl) (TR.t rfl rfl wt0 (op_loadR ts_string rfl rw0 (lkR (q := ⟨q.kind, q.n + p.n, q.text⟩) 2 (by omega) rfl)) (fun _ h => h) (TR.t rfl rfl wt0 (op_load ts_string rfl m1 rfl) (fun _ h => h) ?_))
    refine TR.p rfl rfl wt0 (op_sadd rfl rfl (by show q.text.size + p.text.size ≤ _; omega)) ?_
    refine TR.t rfl rfl wt0 (op_index tsl_api_Part rfl rw0 rfl (by omega) (by omega)) (fun _ h => h) (TR.p rfl rfl wt0 (op_fieldA fld_api_Part_Text rfl) ?_)
    refine TR.z0 rfl wt0 (OpX.storeRow (k := 1) (fun w => by kernel_rfl) rfl rfl rfl (ys := [.string (q.text ++ p.text)]) rfl (by decide) (List.all_eq_true.1 rfl) (by omega) (stR (q := ⟨q.kind, q.n + p.n, q.text⟩) (q' := q.more p) 2 _ (by omega) rfl (by decide))) ?_; rintro _ _ rfl
    refine TR.nil (TQ.then (TC.ret (TQ.block_ret (TQ.then_ret ?_))))
    refine ret0 rfl (fun w' hp => ?_)
    refine ⟨_, _, rfl, ⟨rfl, v, rfl⟩, ?_⟩
    have hq := (hp.drop1.pick1)
    first
      | (rw [addR_zero c1]; exact hq)
      | (rw [addR_nil c1]; exact hq)
      | (rw [addR_more c1 c3]; exact hq)
      | (rw [addR_push c1 c3 (.inl c5), ← encs_push]; exact hq)
      | (rw [addR_push c1 c3 (.inr c6), ← encs_push]; exact hq)
      | (rw [addR_deep c1 c3 (by grind), ← encs_push]; exact hq)
   ·refine TC.seq (TC.region (TL.opP rfl (op_move rfl) (TL.opP rfl (op_eql rfl rfl) (TL.opP rfl (op_move rfl) ?_))))
    first | refine TL.splitD (fun c4 => ?_) (fun c4 => ?_) | refine TL.splitB (fun c4 => ?_) (fun c4 => ?_)
    ·exact absurd c4 (by omega)
    ·refine TL.gT rfl rfl (TL.opP rfl (op_field fld_api_Part_Kind rfl) (TL.gT rfl rfl (TL.opV rfl (op_load ts_int rfl m0 rfl) (TL.gT rfl rfl (TL.opP rfl (op_neq rfl rfl) (TL.opP rfl (op_pickF rfl rfl) (TL.opP rfl (op_move rfl) ?_)))))))
     first | refine TL.splitD (fun c5 => ?_) (fun c5 => ?_) | refine TL.splitB (fun c5 => ?_) (fun c5 => ?_)
     ·refine TL.gFt rfl rfl rfl (TL.gFt rfl rfl rfl (TL.gFt rfl rfl rfl (TL.gFt rfl rfl rfl (TL.gFt rfl rfl rfl (TL.gFt rfl rfl rfl (TL.gFt rfl rfl rfl (TL.gFt rfl rfl rfl (TL.gFt rfl rfl rfl (TL.gFt rfl rfl rfl (TL.opP rfl (op_pickT rfl rfl) (TL.opP rfl (op_assign rfl) (TL.nil (TQ.then (TC.condT rfl (TC.seq (TC.draw [7, 10] (.cons (.p, 0) (.cons (.p, 1) (.cons (.p, 2) (.cons (.p, 3) (.cons (.t, 4) (.cons (.t, 5) (.cons (.o, 6) (.cons (.z, 7) (.cons (.p, 8) (.cons (.p, 9) (.cons (.z, 10) (.nil)))))))))))) mo (by kernel_rfl) (TR.p rfl rfl wt0 (op_move rfl) (TR.p rfl rfl wt0 (op_move rfl) (TR.p rfl rfl wt0 (op_nilCheck rfl) (TR.p rfl rfl wt0 (op_field fld_edit_maker_out rfl) (TR.t rfl rfl wt0 (op_load ts_sl_api_Part rfl m1 rfl) (fun _ h => h) ?_)))))))))))))))))))))
      refine TR.t rfl rfl wt0 (op_loadS tst_api_Part rfl m0 rfl) (fun _ h => h) ?_
      refine TR.o rfl rfl wt0 (OpX.buildSlice (ps := #[(0, _)]) rfl (bs_api_Part_1 _)) (by rintro _ _ ⟨g86, rfl, rfl⟩; intro w h; exact h.tail) ?_; rintro _ _ ⟨g86, rfl, rfl⟩
      refine TR.hp (fun _ h => blk_row (k := 3) (m := 1) h rfl (by decide)) (TR.hp (fun _ h => h.pick3) ?_)
      refine TR.z rfl rfl wt0 (OpX.append (bytes := 32) tsl_api_Part (by decide) (by decide) rfl rw1 (encs_one _) (by omega) rfl) ?_; rintro v1 _ rfl
      refine TR.know (fun _ h => row1 h) (fun o1 => (TR.p rfl rfl wt0 (op_nilCheck rfl) (TR.p rfl rfl wt0 (op_field fld_edit_maker_out rfl) (TR.hp (fun _ h => h.pick3) ?_))))
      refine TR.z0 rfl wt0 (OpX.store1 ts_sl_api_Part rfl rfl (by first | rfl | assumption) rfl rfl) ?_; rintro _ _ rfl
      refine TR.nil (TQ.then (TC.ret (TQ.block_ret (TQ.then_ret ?_))))
      refine ret0 rfl (fun w' hp => ?_)
      refine ⟨_, _, rfl, ⟨rfl, v1, rfl⟩, ?_⟩
      have hq := (hp.drop3.drop2)
      first
        | (rw [addR_zero c1]; exact hq)
        | (rw [addR_nil c1]; exact hq)
        | (rw [addR_more c1 c3]; exact hq)
        | (rw [addR_push c1 c3 (.inl c5), ← encs_push]; exact hq)
        | (rw [addR_push c1 c3 (.inr c6), ← encs_push]; exact hq)
        | (rw [addR_deep c1 c3 (by grind), ← encs_push]; exact hq)
     ·refine TL.gT rfl rfl (TL.opP rfl (op_move rfl) (TL.gT rfl rfl (TL.opP rfl (op_nilCheck rfl) (TL.gT rfl rfl (TL.opP rfl (op_field fld_edit_maker_out rfl) (TL.gT rfl rfl (TL.opV rfl (op_load ts_sl_api_Part rfl m1 rfl) (TL.gT rfl rfl (TL.opP rfl (op_move rfl) (TL.gT rfl rfl (TL.opP rfl (op_sub rfl rfl rfl (by omega) (by omega)) (TL.gT rfl rfl (TL.opV rfl (op_index tsl_api_Part rfl rw2 rfl (by omega) (by omega)) (TL.gT rfl rfl (TL.opP rfl (op_fieldA fld_api_Part_Kind rfl) (TL.gT rfl rfl (TL.opV rfl (op_loadR ts_int rfl rw2 (lkR 0 (by omega) rfl)) (TL.gT rfl rfl (TL.opP rfl (op_neq rfl rfl) (TL.opP rfl (op_pickF rfl rfl) (TL.opP rfl (op_assign rfl) (TL.nil (TQ.then ?_)))))))))))))))))))))))
      first | refine TC.condD rfl (fun c6 => ?_) (fun c6 => ?_) | refine TC.condB rfl (fun c6 => ?_) (fun c6 => ?_)
      ·refine TC.seq (TC.draw [7, 10] (.cons (.p, 0) (.cons (.p, 1) (.cons (.p, 2) (.cons (.p, 3) (.cons (.t, 4) (.cons (.t, 5) (.cons (.o, 6) (.cons (.z, 7) (.cons (.p, 8) (.cons (.p, 9) (.cons (.z, 10) (.nil)))))))))))) mo (by kernel_rfl) (TR.p rfl rfl wt0 (op_move rfl) (TR.p rfl rfl wt0 (op_move rfl) (TR.p rfl rfl wt0 (op_nilCheck rfl) (TR.p rfl rfl wt0 (op_field fld_edit_maker_out rfl) (TR.t rfl rfl wt0 (op_load ts_sl_api_Part rfl m1 rfl) (fun _ h => h) (TR.t rfl rfl wt0 (op_loadS tst_api_Part rfl m0 rfl) (fun _ h => h) ?_)))))))
       refine TR.o rfl rfl wt0 (OpX.buildSlice (ps := #[(0, _)]) rfl (bs_api_Part_1 _)) (by rintro _ _ ⟨g86, rfl, rfl⟩; intro w h; exact h.tail) ?_; rintro _ _ ⟨g86, rfl, rfl⟩
       refine TR.hp (fun _ h => blk_row (k := 3) (m := 1) h rfl (by decide)) (TR.hp (fun _ h => h.pick3) ?_)
       refine TR.z rfl rfl wt0 (OpX.append (bytes := 32) tsl_api_Part (by decide) (by decide) rfl rw1 (encs_one _) (by omega) rfl) ?_; rintro v2 _ rfl
       refine TR.know (fun _ h => row1 h) (fun o2 => (TR.p rfl rfl wt0 (op_nilCheck rfl) (TR.p rfl rfl wt0 (op_field fld_edit_maker_out rfl) (TR.hp (fun _ h => h.pick3) ?_))))
       refine TR.z0 rfl wt0 (OpX.store1 ts_sl_api_Part rfl rfl (by first | rfl | assumption) rfl rfl) ?_; rintro _ _ rfl
       refine TR.nil (TQ.then (TC.ret (TQ.block_ret (TQ.then_ret ?_))))
       refine ret0 rfl (fun w' hp => ?_)
       refine ⟨_, _, rfl, ⟨rfl, v2, rfl⟩, ?_⟩
       have hq := (hp.drop3.drop2)
       first
         | (rw [addR_zero c1]; exact hq)
         | (rw [addR_nil c1]; exact hq)
         | (rw [addR_more c1 c3]; exact hq)
         | (rw [addR_push c1 c3 (.inl c5), ← encs_push]; exact hq)
         | (rw [addR_push c1 c3 (.inr c6), ← encs_push]; exact hq)
         | (rw [addR_deep c1 c3 (by grind), ← encs_push]; exact hq)
      ·refine TC.skip (TQ.block_normal (TQ.then (TC.seq (TC.region (TL.opP rfl (op_move rfl) (TL.opP rfl (op_nilCheck rfl) (TL.opP rfl (op_field fld_edit_maker_out rfl) (TL.opV rfl (op_load ts_sl_api_Part rfl m1 rfl) (TL.opP rfl (op_move rfl) (TL.opP rfl (op_sub rfl rfl rfl (by omega) (by omega)) (TL.opV rfl (op_index tsl_api_Part rfl rw2 rfl (by omega) (by omega)) (TL.opV rfl (op_loadRS tst_api_Part rfl rw2 (cs := q.cs) rfl (lkRS (by omega)) (by decide)) ?_))))))))))))
       refine TL.opX rfl (OpX.alloc tz_api_Part rfl) ?_; rintro _ _ ⟨g5, rfl, rfl⟩
       refine TL.opX0 (OpX.storeS tst_api_Part rfl rfl rfl rfl rfl (List.all_eq_true.1 rfl)) ?_; rintro _ _ rfl
       refine TL.nil (TQ.then (TC.seq (TC.region (TL.opP rfl (op_move rfl) (TL.opP rfl (op_move rfl) (TL.opP rfl (op_nilCheck rfl) (TL.opP rfl (op_field fld_edit_maker_out rfl) (TL.opV rfl (op_load ts_sl_api_Part rfl m2 rfl) (TL.opP rfl (op_move rfl) (TL.opP rfl (op_sub rfl rfl rfl (by omega) (by omega)) (TL.hp (fun _ h => h.pick3) (TL.opV rfl (op_cut 0 r.length tsl_api_Part rfl rw0 (vlo := none) (vhi := (some _)) rfl rfl (.inl ⟨rfl, rfl⟩) (.inr ⟨_, _, rfl, by omega⟩) (by omega) (by omega)) (TL.hp (fun _ h => takeR h) ?_)))))))))))))
       refine TL.know (fun _ h => row1 h) (fun ocut => (TL.opP rfl (op_nilCheck rfl) (TL.opP rfl (op_field fld_edit_maker_out rfl) (TL.hp (fun _ h => h.pick3) ?_))))
       refine TL.opX0 (OpX.store1 ts_sl_api_Part rfl rfl (by first | rfl | assumption) rfl rfl) ?_; rintro _ _ rfl
       refine TL.nil (TQ.then (TC.seq (TC.region (TL.opP rfl (op_move rfl) (TL.opV rfl (op_loadS tst_api_Part rfl m3 rfl) ?_)))))
       refine TL.opX rfl (OpX.callX en_45 rfl (ih r (by omega) hb.tail _ _)) ?_; rintro _ _ ⟨rfl, w3, rfl⟩
       refine TL.nil (TQ.then (TC.draw [7, 10] (.cons (.p, 0) (.cons (.p, 1) (.cons (.p, 2) (.cons (.p, 3) (.cons (.t, 4) (.cons (.t, 5) (.cons (.o, 6) (.cons (.z, 7) (.cons (.p, 8) (.cons (.p, 9) (.cons (.z, 10) (.nil)))))))))))) mo (by kernel_rfl) (TR.p rfl rfl wt0 (op_move rfl) (TR.p rfl rfl wt0 (op_move rfl) (TR.p rfl rfl wt0 (op_nilCheck rfl) (TR.p rfl rfl wt0 (op_field fld_edit_maker_out rfl) (TR.t rfl rfl wt0 (op_load ts_sl_api_Part rfl m0 rfl) (fun _ h => h) (TR.t rfl rfl wt0 (op_loadS tst_api_Part rfl m2 rfl) (fun _ h => h) ?_))))))))
       refine TR.o rfl rfl wt0 (OpX.buildSlice (ps := #[(0, _)]) rfl (bs_api_Part_1 _)) (by rintro _ _ ⟨g117, rfl, rfl⟩; intro w h; exact h.tail) ?_; rintro _ _ ⟨g117, rfl, rfl⟩
       refine TR.hp (fun _ h => blk_row (k := 3) (m := 1) h rfl (by decide)) (TR.hp (fun _ h => h.pick2) ?_)
       refine TR.z rfl rfl wt0 (OpX.append (bytes := 32) tsl_api_Part (by decide) (by decide) rfl rw1 (encs_one _) (by omega) rfl) ?_; rintro v4 _ rfl
       refine TR.know (fun _ h => row1 h) (fun o4 => (TR.p rfl rfl wt0 (op_nilCheck rfl) (TR.p rfl rfl wt0 (op_field fld_edit_maker_out rfl) (TR.hp (fun _ h => h.pick2) ?_))))
       refine TR.z0 rfl wt0 (OpX.store1 ts_sl_api_Part rfl rfl (by first | rfl | assumption) rfl rfl) ?_; rintro _ _ rfl
       refine TR.nil ?_
       refine end0 rfl (fun w' hp => ?_)
       refine ⟨_, _, rfl, ⟨rfl, v4, rfl⟩, ?_⟩
       have hq := (hp.drop4.drop3.drop2)
       first
         | (rw [addR_zero c1]; exact hq)
         | (rw [addR_nil c1]; exact hq)
         | (rw [addR_more c1 c3]; exact hq)
         | (rw [addR_push c1 c3 (.inl c5), ← encs_push]; exact hq)
         | (rw [addR_push c1 c3 (.inr c6), ← encs_push]; exact hq)
         | (rw [addR_deep c1 c3 (by grind), ← encs_push]; exact hq)
  ·obtain rfl : r = [] := by cases r with | nil => rfl | cons q r' => simp at c2
   refine TR.off rfl rfl (by exact wtFf rfl rfl) (TR.off rfl rfl (by exact wtFf rfl rfl) (TR.off rfl rfl (by exact wtFf rfl rfl) (TR.off rfl rfl (by exact wtFf rfl rfl) (TR.off rfl rfl (by exact wtFf rfl rfl) (TR.off rfl rfl (by exact wtFf rfl rfl) (TR.offT rfl rfl (by exact wtFf rfl rfl) (fun _ h => h) (TR.offT rfl rfl (by exact wtFf rfl rfl) (fun _ h => h) (TR.off rfl rfl (by exact wtFf rfl rfl) (TR.offT rfl rfl (by exact wtFf rfl rfl) (fun _ h => h) (TR.offT rfl rfl (by exact wtFf rfl rfl) (fun _ h => h) (TR.off rfl rfl (by exact wtFf rfl rfl) (TR.p rfl rfl wt0 (op_pickF rfl rfl) (TR.p rfl rfl wt0 (op_assign rfl) (TR.nil (TQ.then (TC.condF rfl (TC.seq (TC.region (TL.opP rfl (op_move rfl) (TL.opP rfl (op_eql rfl rfl) ?_))))))))))))))))))))
   refine TL.opP rfl (op_move rfl) ?_
   first | refine TL.splitD (fun c7 => ?_) (fun c7 => ?_) | refine TL.splitB (fun c7 => ?_) (fun c7 => ?_)
   ·refine TL.gFt rfl rfl rfl (TL.gFt rfl rfl rfl (TL.gFt rfl rfl rfl (TL.opP rfl (op_pickT rfl rfl) (TL.opP rfl (op_move rfl) (TL.gFt rfl rfl rfl (TL.gFt rfl rfl rfl (TL.gFt rfl rfl rfl (TL.gFt rfl rfl rfl (TL.gFt rfl rfl rfl (TL.gFt rfl rfl rfl (TL.gFt rfl rfl rfl (TL.gFt rfl rfl rfl (TL.gFt rfl rfl rfl (TL.gFt rfl rfl rfl (TL.opP rfl (op_pickT rfl rfl) (TL.opP rfl (op_assign rfl) (TL.nil (TQ.then (TC.condT rfl (TC.seq (TC.draw [7, 10] (.cons (.p, 0) (.cons (.p, 1) (.cons (.p, 2) (.cons (.p, 3) (.cons (.t, 4) (.cons (.t, 5) (.cons (.o, 6) (.cons (.z, 7) (.cons (.p, 8) (.cons (.p, 9) (.cons (.z, 10) (.nil)))))))))))) mo (by kernel_rfl) (TR.p rfl rfl wt0 (op_move rfl) (TR.p rfl rfl wt0 (op_move rfl) (TR.p rfl rfl wt0 (op_nilCheck rfl) ?_))))))))))))))))))))))))
    refine TR.p rfl rfl wt0 (op_field fld_edit_maker_out rfl) (TR.t rfl rfl wt0 (op_load ts_sl_api_Part rfl m1 rfl) (fun _ h => h) (TR.t rfl rfl wt0 (op_loadS tst_api_Part rfl m0 rfl) (fun _ h => h) ?_))
    refine TR.o rfl rfl wt0 (OpX.buildSlice (ps := #[(0, _)]) rfl (bs_api_Part_1 _)) (by rintro _ _ ⟨g86, rfl, rfl⟩; intro w h; exact h.tail) ?_; rintro _ _ ⟨g86, rfl, rfl⟩
    refine TR.hp (fun _ h => blk_row (k := 3) (m := 1) h rfl (by decide)) (TR.hp (fun _ h => h.pick3) ?_)
    refine TR.z rfl rfl wt0 (OpX.append (bytes := 32) tsl_api_Part (by decide) (by decide) rfl rw1 (encs_one _) (by omega) rfl) ?_; rintro v5 _ rfl
    refine TR.know (fun _ h => row1 h) (fun o5 => (TR.p rfl rfl wt0 (op_nilCheck rfl) (TR.p rfl rfl wt0 (op_field fld_edit_maker_out rfl) (TR.hp (fun _ h => h.pick3) ?_))))
    refine TR.z0 rfl wt0 (OpX.store1 ts_sl_api_Part rfl rfl (by first | rfl | assumption) rfl rfl) ?_; rintro _ _ rfl
    refine TR.nil (TQ.then (TC.ret (TQ.block_ret (TQ.then_ret ?_))))
    refine ret0 rfl (fun w' hp => ?_)
    refine ⟨_, _, rfl, ⟨rfl, v5, rfl⟩, ?_⟩
    have hq := (hp.drop3.drop2)
    first
      | (rw [addR_zero c1]; exact hq)
      | (rw [addR_nil c1]; exact hq)
      | (rw [addR_more c1 c3]; exact hq)
      | (rw [addR_push c1 c3 (.inl c5), ← encs_push]; exact hq)
      | (rw [addR_push c1 c3 (.inr c6), ← encs_push]; exact hq)
      | (rw [addR_deep c1 c3 (by grind), ← encs_push]; exact hq)
   ·exact absurd (c7 : ¬ ((0 : Nat) : Int) = 0) (by omega)

theorem one_x (r : List Part) (p : Part) (g : Nat) (v : Value) (hb : OneB r p) : OneC S w0 F r p g v := by
  generalize hn : r.length = n
  induction n using Nat.strongRecOn generalizing r v F with
  | ind n ih => exact one_s r p g v hb (fun r' h hb' v' F' => ih r'.length (by omega) r' v' hb' rfl)
theorem add_x (ps r : List Part) (g : Nat) (v vl : Value) (hb : ManyB r ps) (hr : Rdb F vl 3 ps.length (encs ps)) :
    CallX Tryd.prog 31 [.pointer (some ⟨g, 0, none⟩), vl] S w0 (.blk g (.cells [v].toArray 73 (0, 0)) :: .row v 50 3 r.length (encs r.reverse) :: F) (fun u L' => u = .tuple #[] ∧ ∃ v', L' = .blk g (.cells [v'].toArray 73 (0, 0)) :: .row v' 50 3 (addRs r ps).length (encs (addRs r ps).reverse) :: F) := by
 intro w hp
 have hlen := hb.len
 refine calls_start Tryd.func31 rfl rfl rfl (hp) ?_
 refine TC.seq (TC.region (TL.opP rfl (op_move rfl) (TL.opV rfl (op_lenV rfl un_sl_api_Part rfl hr.cons.cons) (TL.opP rfl (op_move rfl) (TL.nil (TQ.then (TC.block (TC.loop (ι := Nat × Value) (fun (k, v') => [(0, .pointer (some ⟨g, 0, none⟩)), (6, vl), (7, .int .i64 (ps.length : Int)), (8, .int .i64 (k : Int))]) (fun (k, v') => .blk g (.cells [v'].toArray 73 (0, 0)) :: .row v' 50 3 (addRs r (ps.take k)).length (encs (addRs r (ps.take k)).reverse) :: F) (fun (k, v') => k ≤ ps.length) (fun (k, v') => ps.length - k) ((0, v)) (Nat.zero_le _) ⟨rfl, rfl, rfl, rfl, trivial⟩ (fun _ h => h) ?_))))))))
 rintro ⟨k, v'⟩ (hk : k ≤ ps.length)
 show TC _ _ _ _ [(0, .pointer (some ⟨g, 0, none⟩)), (6, vl), (7, .int .i64 (ps.length : Int)), (8, .int .i64 (k : Int))] _ _ (.blk g (.cells [v'].toArray 73 (0, 0)) :: .row v' 50 3 (addRs r (ps.take k)).length (encs (addRs r (ps.take k)).reverse) :: F)
 refine TC.seq (TC.region (TL.opP rfl (op_lss rfl rfl) (TL.nil (TQ.then (TC.seq ?_)))))
 first | refine TC.condD rfl (fun c1 => ?_) (fun c1 => ?_) | refine TC.condB rfl (fun c1 => ?_) (fun c1 => ?_)
 ·have hkl : k < ps.length := by omega
  obtain ⟨p, hpk⟩ : ∃ p, ps.getD k default = p := ⟨_, rfl⟩
  have hd := drop_getD hkl hpk
  have hpe : p ∈ ps := by rw [← hpk, List.getD_eq_getElem?_getD, List.getElem?_eq_getElem hkl]; exact List.getElem_mem hkl
  refine TC.skip (TQ.then (TC.seq (TC.block (TC.seq (TC.region (TL.opV rfl (op_index tsl_api_Part rfl hr.cons.cons rfl (by omega) (by omega)) (TL.opV rfl (op_loadRS tst_api_Part rfl hr.cons.cons (cs := p.cs) rfl (lkS hkl hpk) (by decide)) ?_)))))))
  refine TL.opX rfl (OpX.alloc tz_api_Part rfl) ?_; rintro _ _ ⟨g5, rfl, rfl⟩
  refine TL.opX0 (OpX.storeS tst_api_Part rfl rfl rfl rfl rfl (List.all_eq_true.1 rfl)) ?_; rintro _ _ rfl
  refine TL.nil (TQ.then (TC.region (TL.opP rfl (op_move rfl) (TL.opV rfl (op_loadS tst_api_Part rfl m0 rfl) (TL.hp (fun _ h => h.pick2.pick2) ?_)))))
  refine TL.opX rfl (OpX.callX en_45 rfl (one_x (addRs r (ps.take k)) p g _ (hb.step hkl hpk))) ?_; rintro _ _ ⟨rfl, w1, rfl⟩
  refine TL.nil (TQ.block_normal (TQ.then (TC.region (TL.opP rfl (op_add rfl rfl rfl (by omega) (by omega)) (TL.opP rfl (op_move rfl) (TL.nil ?_))))))
  exact TQ.round (k + 1, w1) (by show k + 1 ≤ _; omega) (by show _ - (k + 1) < _ - k; omega) ⟨rfl, rfl, rfl, rfl, trivial⟩ (fun _ h => by dsimp only; rw [addRs_take hkl hpk]; exact h.drop2)
 ·refine TC.exit (TQ.then_exit (TQ.loop_exit (TQ.block_hit ?_)))
  refine end0 rfl (fun w' hp => ?_)
  have hq := (hp)
  rw [List.take_of_length_le (by omega)] at hq
  exact ⟨_, _, rfl, ⟨rfl, _, rfl⟩, hq⟩

theorem done_x (r : List Part) (g : Nat) (v : Value) (hs : ∀ p ∈ r, p.text.size < 9223372036854775807) (hT : tabs ∈ F) :
    CallX Tryd.prog 34 [.pointer (some ⟨g, 0, none⟩)] S w0 (.blk g (.cells [v].toArray 73 (0, 0)) :: .row v 50 3 r.length (encs r.reverse) :: F) (fun u L' => u = .tuple #[v, .bool (sizesF r.reverse).2.2] ∧ L' = .blk g (.cells [v].toArray 73 (0, 0)) :: .row v 50 3 r.length (encs r.reverse) :: F) := by
 intro w hp
 refine calls_start Tryd.func34 rfl rfl rfl (hp) ?_
 refine TC.seq (TC.region (TL.opP rfl (op_assign rfl) (TL.opP rfl (op_assign rfl) (TL.nil (TQ.then (TC.seq (TC.region (TL.opP rfl (op_move rfl) (TL.opP rfl (op_nilCheck rfl) (TL.opP rfl (op_field fld_edit_maker_out rfl) (TL.opV rfl (op_load ts_sl_api_Part rfl m0 rfl) ?_)))))))))))
 refine TL.callq rfl en_35 rfl (fun w2 hp => sizes_calls r.reverse v w2 (tabs_at hp (.tail _ (.tail _ hT))) (fun p hp => hs p (List.mem_reverse.1 hp)) (by rw [List.length_reverse]; exact rw1 _ _ _ hp)) ?_
 refine TL.opP rfl (op_move rfl) (TL.opP rfl (op_extract rfl rfl) (TL.opP rfl (op_extract rfl rfl) (TL.opP rfl (op_extract rfl rfl) (TL.opP rfl (op_assign rfl) (TL.opP rfl (op_assign rfl) (TL.opP rfl (op_assign rfl) (TL.nil (TQ.then (TC.seq (TC.region (TL.opP rfl (op_move rfl) (TL.opP rfl (op_nilCheck rfl) (TL.opP rfl (op_field fld_edit_maker_out rfl) (TL.opV rfl (op_load ts_sl_api_Part rfl m0 rfl) (TL.opP rfl (op_move rfl) (TL.opP rfl (op_assign rfl) (TL.opP rfl (op_assign rfl) (TL.nil (TQ.then (TC.ret ?_))))))))))))))))))))
 refine ret2 rfl rfl rfl (fun w' hp => ?_)
 exact ⟨_, _, rfl, ⟨rfl, rfl⟩, (hp)⟩

end Go.SK

set_option linter.unusedVariables false
set_option linter.unusedSimpArgs false
set_option maxRecDepth 100000
namespace Go.SK
open Go Go.RowKit Go.Proofs
variable {S : Nat → Prop} {w0 : World} {F L : List Res}
theorem nsum4 (n a k : Int) (s : ByteArray) : nsum [keepP a, putP s, dropP k, keepP (n - a - k)] = n + rcount s := by simp only [nsum, keepP, putP, dropP]; omega
theorem tsum4 (n a k : Int) (s : ByteArray) : tsum [keepP a, putP s, dropP k, keepP (n - a - k)] = s.size := by simp only [tsum, keepP, putP, dropP]; have : (⟨#[]⟩ : ByteArray).size = 0 := rfl; omega
theorem many4 {n a k : Int} {s : ByteArray} (h : ¬ replBad n a k s) (hs : s.size ≤ 4611686018427387904) : ManyB [] [keepP a, putP s, dropP k, keepP (n - a - k)] := by
  unfold replBad at h
  refine ⟨by simp, ?_, ?_, ?_, by simp⟩
  · intro q hq
    simp only [List.mem_cons, List.not_mem_nil, or_false] at hq
    rcases hq with rfl | rfl | rfl | rfl <;> simp only [keepP, putP, dropP] <;> omega
  · rw [nsum4]; simp only [nsum]; omega
  · rw [tsum4]; simp only [tsum]; omega
theorem check_calls (e : List Part) (n : Int) (v : Value) (w : World) (hT : Tabs w) (hs : ∀ p ∈ e, p.text.size < 9223372036854775807) (hv : RdRow w v 3 e.length (encs e)) :
    Calls Tryd.prog 25 (List.toArray [v, .int .i64 n]) w fun e' w' => e' = .returned (.int .i64 (checkF e n)) ∧ Kp NoB w w' := by
 have hlen : e.length ≤ 9223372036854775807 := by obtain ⟨_, A, c, _, h1, h2, _⟩ := hv; simp only [maxLen] at h2; omega
 refine calls_start Tryd.func25 rfl rfl rfl (Hp.i1 (r := .rd v 3 e.length (encs e)) hv) ?_
 refine TC.seq (TC.region (TL.opP rfl (op_assign rfl) (TL.nil (TQ.then (TC.seq (TC.seq (TC.region (TL.opP rfl (op_move rfl) (TL.callq rfl en_35 rfl (fun w2 hp => sizes_calls e v w2 (hT.kp hp.kp) hs (rd0 _ _ _ hp)) (TL.opP rfl (op_move rfl) (TL.opP rfl (op_extract rfl rfl) (TL.opP rfl (op_extract rfl rfl) (TL.opP rfl (op_extract rfl rfl) (TL.opP rfl (op_assign rfl) (TL.opP rfl (op_assign rfl) (TL.opP rfl (op_assign rfl) (TL.nil (TQ.then (TC.seq (TC.region (TL.opP rfl (op_move rfl) (TL.opP rfl (op_not rfl rfl) (TL.opP rfl (op_move rfl) ?_)))))))))))))))))))))))
 first | refine TL.splitD (fun c1 => ?_) (fun c1 => ?_) | refine TL.splitB (fun c1 => ?_) (fun c1 => ?_)
 ·refine TL.gFt rfl rfl rfl (TL.gFt rfl rfl rfl (TL.gFt rfl rfl rfl (TL.opP rfl (op_pickT rfl rfl) (TL.nil (TQ.then (TC.condT rfl (TC.seq (TC.region (TL.opP rfl (op_assign rfl) (TL.nil (TQ.then (TC.ret (TQ.then_ret ?_)))))))))))))
  refine ret1 rfl rfl (fun w' hp => ?_)
  exact ⟨by simp only [checkF]; grind, hp.kp⟩
 ·refine TL.gT rfl rfl (TL.opP rfl (op_move rfl) (TL.gT rfl rfl (TL.opP rfl (op_move rfl) (TL.gT rfl rfl (TL.opP rfl (op_neq rfl rfl) (TL.opP rfl (op_pickF rfl rfl) (TL.nil (TQ.then ?_))))))))
  first | refine TC.condD rfl (fun c2 => ?_) (fun c2 => ?_) | refine TC.condB rfl (fun c2 => ?_) (fun c2 => ?_)
  ·refine TC.seq (TC.region (TL.opP rfl (op_assign rfl) (TL.nil (TQ.then (TC.ret (TQ.then_ret ?_))))))
   refine ret1 rfl rfl (fun w' hp => ?_)
   exact ⟨by simp only [checkF]; grind, hp.kp⟩
  ·refine TC.skip (TQ.then (TC.seq (TC.region (TL.opP rfl (op_assign rfl) (TL.nil (TQ.then (TC.ret ?_)))))))
   refine ret1 rfl rfl (fun w' hp => ?_)
   exact ⟨by simp only [checkF]; grind, hp.kp⟩

theorem size_calls (e : List Part) (v : Value) (w : World) (hT : Tabs w) (hs : ∀ p ∈ e, p.text.size < 9223372036854775807) (hv : RdRow w v 3 e.length (encs e)) :
    Calls Tryd.prog 42 (List.toArray [v]) w fun e' w' => e' = .returned (.tuple #[.int .i64 (sizeF e).1, .int .i64 (sizeF e).2, .int .i64 (sizeE e)]) ∧ Kp NoB w w' := by
 have hlen : e.length ≤ 9223372036854775807 := by obtain ⟨_, A, c, _, h1, h2, _⟩ := hv; simp only [maxLen] at h2; omega
 refine calls_start Tryd.func42 rfl rfl rfl (Hp.i1 (r := .rd v 3 e.length (encs e)) hv) ?_
 refine TC.seq (TC.region (TL.opP rfl (op_assign rfl) (TL.opP rfl (op_assign rfl) (TL.opP rfl (op_assign rfl) (TL.nil (TQ.then (TC.seq (TC.region (TL.opP rfl (op_move rfl) (TL.callq rfl en_35 rfl (fun w2 hp => sizes_calls e v w2 (hT.kp hp.kp) hs (rd0 _ _ _ hp)) (TL.opP rfl (op_move rfl) (TL.opP rfl (op_extract rfl rfl) (TL.opP rfl (op_extract rfl rfl) (TL.opP rfl (op_extract rfl rfl) (TL.opP rfl (op_assign rfl) (TL.opP rfl (op_assign rfl) (TL.opP rfl (op_assign rfl) (TL.nil (TQ.then (TC.seq (TC.seq (TC.region (TL.opP rfl (op_move rfl) (TL.opP rfl (op_not rfl rfl) (TL.nil (TQ.then ?_))))))))))))))))))))))))))
 first | refine TC.condD rfl (fun c1 => ?_) (fun c1 => ?_) | refine TC.condB rfl (fun c1 => ?_) (fun c1 => ?_)
 ·refine TC.seq (TC.region (TL.opP rfl (op_assign rfl) (TL.opP rfl (op_assign rfl) (TL.opP rfl (op_assign rfl) (TL.nil (TQ.then (TC.ret (TQ.then_ret ?_))))))))
  refine ret3 rfl rfl rfl rfl (fun w' hp => ?_)
  exact ⟨by simp only [sizeF, sizeE]; grind, hp.kp⟩
 ·refine TC.skip (TQ.then (TC.seq (TC.region (TL.opP rfl (op_move rfl) (TL.opP rfl (op_move rfl) (TL.opP rfl (op_assign rfl) (TL.opP rfl (op_assign rfl) (TL.opP rfl (op_assign rfl) (TL.nil (TQ.then (TC.ret ?_)))))))))))
  refine ret3 rfl rfl rfl rfl (fun w' hp => ?_)
  exact ⟨by simp only [sizeF, sizeE]; grind, hp.kp⟩

theorem replace_x (n a k : Int) (s : ByteArray) (hs : s.size ≤ 4611686018427387904) (hT : tabs ∈ L) :
    CallX Tryd.prog 41 [.int .i64 n, .int .i64 a, .int .i64 k, .string s] S w0 (L) (fun u L' => ∃ v', u = .tuple #[v', .int .i64 (replE n a k s)] ∧ L' = .row v' 50 3 (replF n a k s).length (encs (replF n a k s)) :: L) := by
 intro w hp
 refine calls_start Tryd.func41 rfl rfl rfl (hp) ?_
 refine TC.seq (TC.region (TL.opP rfl (op_assign rfl) (TL.opP rfl (op_assign rfl) (TL.nil (TQ.then (TC.seq (TC.seq (TC.region (TL.opP rfl (op_move rfl) (TL.opP rfl (op_lss rfl rfl) (TL.opP rfl (op_move rfl) ?_)))))))))))
 first | refine TL.splitD (fun c1 => ?_) (fun c1 => ?_) | refine TL.splitB (fun c1 => ?_) (fun c1 => ?_)
 ·refine TL.gFt rfl rfl rfl (TL.gFt rfl rfl rfl (TL.opP rfl (op_pickT rfl rfl) (TL.opP rfl (op_move rfl) (TL.gFt rfl rfl rfl (TL.gFt rfl rfl rfl (TL.opP rfl (op_pickT rfl rfl) (TL.opP rfl (op_move rfl) (TL.gFt rfl rfl rfl (TL.gFt rfl rfl rfl (TL.gFt rfl rfl rfl (TL.opP rfl (op_pickT rfl rfl) (TL.opP rfl (op_move rfl) (TL.gFt rfl rfl rfl (TL.gFt rfl rfl rfl (TL.opP rfl (op_pickT rfl rfl) (TL.opP rfl (op_move rfl) (TL.gFt rfl rfl rfl (TL.gFt rfl rfl rfl (TL.gFt rfl rfl rfl (TL.gFt rfl rfl rfl (TL.gFt rfl rfl rfl (TL.opP rfl (op_pickT rfl rfl) (TL.opP rfl (op_move rfl) (TL.gFt rfl rfl rfl (TL.gFt rfl rfl rfl (TL.gFt rfl rfl rfl (TL.opP rfl (op_pickT rfl rfl) (TL.opP rfl (op_move rfl) (TL.gFt rfl rfl rfl ?_)))))))))))))))))))))))))))))
  refine TL.gFt rfl rfl rfl (TL.gFt rfl rfl rfl (TL.gFt rfl rfl rfl (TL.gFt rfl rfl rfl (TL.opP rfl (op_pickT rfl rfl) (TL.nil (TQ.then (TC.condT rfl (TC.seq (TC.region (TL.opP rfl (op_assign rfl) (TL.opP rfl (op_assign rfl) (TL.nil (TQ.then (TC.ret (TQ.then_ret ?_)))))))))))))))
  refine ret2 rfl rfl rfl (fun w' hp => ?_)
  first
    | exact ⟨_, _, rfl, ⟨.slice none 0 0, by rw [replE, if_pos (by unfold replBad; grind)], by rw [replF, if_pos (by unfold replBad; grind)]; rfl⟩, new_nil _ 3 (hp)⟩
    | exact ⟨_, _, rfl, ⟨«v:mr?», by first | (rw [replE, if_neg hok]; done) | (rw [replE, if_neg hok]; rfl), by rw [replF, if_neg hok, List.length_reverse]⟩, (hp)⟩
 ·refine TL.gT rfl rfl (TL.opP rfl (op_move rfl) (TL.gT rfl rfl (TL.opP rfl (op_gtr rfl rfl) (TL.opP rfl (op_pickF rfl rfl) (TL.opP rfl (op_move rfl) ?_)))))
  first | refine TL.splitD (fun c2 => ?_) (fun c2 => ?_) | refine TL.splitB (fun c2 => ?_) (fun c2 => ?_)
  ·refine TL.gFt rfl rfl rfl (TL.gFt rfl rfl rfl (TL.opP rfl (op_pickT rfl rfl) (TL.opP rfl (op_move rfl) (TL.gFt rfl rfl rfl (TL.gFt rfl rfl rfl (TL.gFt rfl rfl rfl (TL.opP rfl (op_pickT rfl rfl) (TL.opP rfl (op_move rfl) (TL.gFt rfl rfl rfl (TL.gFt rfl rfl rfl (TL.opP rfl (op_pickT rfl rfl) (TL.opP rfl (op_move rfl) (TL.gFt rfl rfl rfl (TL.gFt rfl rfl rfl (TL.gFt rfl rfl rfl (TL.gFt rfl rfl rfl (TL.gFt rfl rfl rfl (TL.opP rfl (op_pickT rfl rfl) (TL.opP rfl (op_move rfl) (TL.gFt rfl rfl rfl (TL.gFt rfl rfl rfl (TL.gFt rfl rfl rfl (TL.opP rfl (op_pickT rfl rfl) (TL.opP rfl (op_move rfl) (TL.gFt rfl rfl rfl (TL.gFt rfl rfl rfl (TL.gFt rfl rfl rfl (TL.gFt rfl rfl rfl (TL.gFt rfl rfl rfl (TL.opP rfl (op_pickT rfl rfl) ?_))))))))))))))))))))))))))))))
   refine TL.nil (TQ.then (TC.condT rfl (TC.seq (TC.region (TL.opP rfl (op_assign rfl) (TL.opP rfl (op_assign rfl) (TL.nil (TQ.then (TC.ret (TQ.then_ret ?_))))))))))
   refine ret2 rfl rfl rfl (fun w' hp => ?_)
   first
     | exact ⟨_, _, rfl, ⟨.slice none 0 0, by rw [replE, if_pos (by unfold replBad; grind)], by rw [replF, if_pos (by unfold replBad; grind)]; rfl⟩, new_nil _ 3 (hp)⟩
     | exact ⟨_, _, rfl, ⟨«v:mr?», by first | (rw [replE, if_neg hok]; done) | (rw [replE, if_neg hok]; rfl), by rw [replF, if_neg hok, List.length_reverse]⟩, (hp)⟩
  ·refine TL.gT rfl rfl (TL.opP rfl (op_move rfl) (TL.gT rfl rfl (TL.opP rfl (op_lss rfl rfl) (TL.opP rfl (op_pickF rfl rfl) (TL.opP rfl (op_move rfl) ?_)))))
   first | refine TL.splitD (fun c3 => ?_) (fun c3 => ?_) | refine TL.splitB (fun c3 => ?_) (fun c3 => ?_)
   ·refine TL.gFt rfl rfl rfl (TL.gFt rfl rfl rfl (TL.gFt rfl rfl rfl (TL.opP rfl (op_pickT rfl rfl) (TL.opP rfl (op_move rfl) (TL.gFt rfl rfl rfl (TL.gFt rfl rfl rfl (TL.opP rfl (op_pickT rfl rfl) (TL.opP rfl (op_move rfl) (TL.gFt rfl rfl rfl (TL.gFt rfl rfl rfl (TL.gFt rfl rfl rfl (TL.gFt rfl rfl rfl (TL.gFt rfl rfl rfl (TL.opP rfl (op_pickT rfl rfl) (TL.opP rfl (op_move rfl) (TL.gFt rfl rfl rfl (TL.gFt rfl rfl rfl (TL.gFt rfl rfl rfl (TL.opP rfl (op_pickT rfl rfl) (TL.opP rfl (op_move rfl) (TL.gFt rfl rfl rfl (TL.gFt rfl rfl rfl (TL.gFt rfl rfl rfl (TL.gFt rfl rfl rfl (TL.gFt rfl rfl rfl (TL.opP rfl (op_pickT rfl rfl) (TL.nil (TQ.then (TC.condT rfl (TC.seq (TC.region (TL.opP rfl (op_assign rfl) (TL.opP rfl (op_assign rfl) ?_)))))))))))))))))))))))))))))))))
    refine TL.nil (TQ.then (TC.ret (TQ.then_ret ?_)))
    refine ret2 rfl rfl rfl (fun w' hp => ?_)
    first
      | exact ⟨_, _, rfl, ⟨.slice none 0 0, by rw [replE, if_pos (by unfold replBad; grind)], by rw [replF, if_pos (by unfold replBad; grind)]; rfl⟩, new_nil _ 3 (hp)⟩
      | exact ⟨_, _, rfl, ⟨«v:mr?», by first | (rw [replE, if_neg hok]; done) | (rw [replE, if_neg hok]; rfl), by rw [replF, if_neg hok, List.length_reverse]⟩, (hp)⟩
   ·refine TL.gT rfl rfl (TL.opP rfl (op_move rfl) (TL.gT rfl rfl (TL.opP rfl (op_move rfl) (TL.gT rfl rfl (TL.opP rfl (op_gtr rfl rfl) (TL.opP rfl (op_pickF rfl rfl) (TL.opP rfl (op_move rfl) ?_)))))))
    first | refine TL.splitD (fun c4 => ?_) (fun c4 => ?_) | refine TL.splitB (fun c4 => ?_) (fun c4 => ?_)
    ·refine TL.gFt rfl rfl rfl (TL.gFt rfl rfl rfl (TL.opP rfl (op_pickT rfl rfl) (TL.opP rfl (op_move rfl) (TL.gFt rfl rfl rfl (TL.gFt rfl rfl rfl (TL.gFt rfl rfl rfl (TL.gFt rfl rfl rfl (TL.gFt rfl rfl rfl (TL.opP rfl (op_pickT rfl rfl) (TL.opP rfl (op_move rfl) (TL.gFt rfl rfl rfl (TL.gFt rfl rfl rfl (TL.gFt rfl rfl rfl (TL.opP rfl (op_pickT rfl rfl) (TL.opP rfl (op_move rfl) (TL.gFt rfl rfl rfl (TL.gFt rfl rfl rfl (TL.gFt rfl rfl rfl (TL.gFt rfl rfl rfl (TL.gFt rfl rfl rfl (TL.opP rfl (op_pickT rfl rfl) (TL.nil (TQ.then (TC.condT rfl (TC.seq (TC.region (TL.opP rfl (op_assign rfl) (TL.opP rfl (op_assign rfl) (TL.nil (TQ.then (TC.ret (TQ.then_ret ?_))))))))))))))))))))))))))))))))
     refine ret2 rfl rfl rfl (fun w' hp => ?_)
     first
       | exact ⟨_, _, rfl, ⟨.slice none 0 0, by rw [replE, if_pos (by unfold replBad; grind)], by rw [replF, if_pos (by unfold replBad; grind)]; rfl⟩, new_nil _ 3 (hp)⟩
       | exact ⟨_, _, rfl, ⟨«v:mr?», by first | (rw [replE, if_neg hok]; done) | (rw [replE, if_neg hok]; rfl), by rw [replF, if_neg hok, List.length_reverse]⟩, (hp)⟩
    ·refine TL.gT rfl rfl (TL.opP rfl (op_move rfl) (TL.gT rfl rfl (TL.opP rfl (op_lss rfl rfl) (TL.opP rfl (op_pickF rfl rfl) (TL.opP rfl (op_move rfl) ?_)))))
     first | refine TL.splitD (fun c5 => ?_) (fun c5 => ?_) | refine TL.splitB (fun c5 => ?_) (fun c5 => ?_)
     ·refine TL.gFt rfl rfl rfl (TL.gFt rfl rfl rfl (TL.gFt rfl rfl rfl (TL.gFt rfl rfl rfl (TL.gFt rfl rfl rfl (TL.opP rfl (op_pickT rfl rfl) (TL.opP rfl (op_move rfl) (TL.gFt rfl rfl rfl (TL.gFt rfl rfl rfl (TL.gFt rfl rfl rfl (TL.opP rfl (op_pickT rfl rfl) (TL.opP rfl (op_move rfl) (TL.gFt rfl rfl rfl (TL.gFt rfl rfl rfl (TL.gFt rfl rfl rfl (TL.gFt rfl rfl rfl (TL.gFt rfl rfl rfl (TL.opP rfl (op_pickT rfl rfl) (TL.nil (TQ.then (TC.condT rfl (TC.seq (TC.region (TL.opP rfl (op_assign rfl) (TL.opP rfl (op_assign rfl) (TL.nil (TQ.then (TC.ret (TQ.then_ret ?_))))))))))))))))))))))))))))
      refine ret2 rfl rfl rfl (fun w' hp => ?_)
      first
        | exact ⟨_, _, rfl, ⟨.slice none 0 0, by rw [replE, if_pos (by unfold replBad; grind)], by rw [replF, if_pos (by unfold replBad; grind)]; rfl⟩, new_nil _ 3 (hp)⟩
        | exact ⟨_, _, rfl, ⟨«v:mr?», by first | (rw [replE, if_neg hok]; done) | (rw [replE, if_neg hok]; rfl), by rw [replF, if_neg hok, List.length_reverse]⟩, (hp)⟩
     ·refine TL.gT rfl rfl (TL.opP rfl (op_move rfl) (TL.gT rfl rfl (TL.opP rfl (op_move rfl) (TL.gT rfl rfl (TL.opP rfl (op_move rfl) (TL.gT rfl rfl (TL.opP rfl (op_sub rfl rfl rfl (by omega) (by omega)) (TL.gT rfl rfl (TL.opP rfl (op_gtr rfl rfl) (TL.opP rfl (op_pickF rfl rfl) (TL.opP rfl (op_move rfl) ?_)))))))))))
      first | refine TL.splitD (fun c6 => ?_) (fun c6 => ?_) | refine TL.splitB (fun c6 => ?_) (fun c6 => ?_)
      ·refine TL.gFt rfl rfl rfl (TL.gFt rfl rfl rfl (TL.gFt rfl rfl rfl (TL.opP rfl (op_pickT rfl rfl) (TL.opP rfl (op_move rfl) (TL.gFt rfl rfl rfl (TL.gFt rfl rfl rfl (TL.gFt rfl rfl rfl (TL.gFt rfl rfl rfl (TL.gFt rfl rfl rfl (TL.opP rfl (op_pickT rfl rfl) (TL.nil (TQ.then (TC.condT rfl (TC.seq (TC.region (TL.opP rfl (op_assign rfl) (TL.opP rfl (op_assign rfl) (TL.nil (TQ.then (TC.ret (TQ.then_ret ?_)))))))))))))))))))))
       refine ret2 rfl rfl rfl (fun w' hp => ?_)
       first
         | exact ⟨_, _, rfl, ⟨.slice none 0 0, by rw [replE, if_pos (by unfold replBad; grind)], by rw [replF, if_pos (by unfold replBad; grind)]; rfl⟩, new_nil _ 3 (hp)⟩
         | exact ⟨_, _, rfl, ⟨«v:mr?», by first | (rw [replE, if_neg hok]; done) | (rw [replE, if_neg hok]; rfl), by rw [replF, if_neg hok, List.length_reverse]⟩, (hp)⟩
      ·refine TL.gT rfl rfl (TL.opP rfl (op_move rfl) (TL.gT rfl rfl (TL.callq rfl en_8 rfl (fun w2 hp => valid_calls _ _ (tabs_at hp hT) (by omega)) (TL.gT rfl rfl (TL.opP rfl (op_not rfl rfl) (TL.opP rfl (op_pickF rfl rfl) (TL.opP rfl (op_move rfl) ?_)))))))
       first | refine TL.splitD (fun c7 => ?_) (fun c7 => ?_) | refine TL.splitB (fun c7 => ?_) (fun c7 => ?_)
       ·refine TL.gFt rfl rfl rfl (TL.gFt rfl rfl rfl (TL.gFt rfl rfl rfl (TL.gFt rfl rfl rfl (TL.gFt rfl rfl rfl (TL.opP rfl (op_pickT rfl rfl) (TL.nil (TQ.then (TC.condT rfl (TC.seq (TC.region (TL.opP rfl (op_assign rfl) (TL.opP rfl (op_assign rfl) (TL.nil (TQ.then (TC.ret (TQ.then_ret ?_))))))))))))))))
        refine ret2 rfl rfl rfl (fun w' hp => ?_)
        first
          | exact ⟨_, _, rfl, ⟨.slice none 0 0, by rw [replE, if_pos (by unfold replBad; grind)], by rw [replF, if_pos (by unfold replBad; grind)]; rfl⟩, new_nil _ 3 (hp)⟩
          | exact ⟨_, _, rfl, ⟨«v:mr?», by first | (rw [replE, if_neg hok]; done) | (rw [replE, if_neg hok]; rfl), by rw [replF, if_neg hok, List.length_reverse]⟩, (hp)⟩
       ·refine TL.gT rfl rfl (TL.opP rfl (op_move rfl) (TL.gT rfl rfl (TL.callq rfl en_21 rfl (fun w2 hp => rcount_calls _ _ (by omega)) (TL.gT rfl rfl (TL.opP rfl (op_move rfl) (TL.gT rfl rfl (TL.opP rfl (op_sub rfl rfl rfl (by omega) (by omega)) (TL.gT rfl rfl (TL.opP rfl (op_gtr rfl rfl) (TL.opP rfl (op_pickF rfl rfl) (TL.nil (TQ.then ?_))))))))))))
        first | refine TC.condD rfl (fun c8 => ?_) (fun c8 => ?_) | refine TC.condB rfl (fun c8 => ?_) (fun c8 => ?_)
        ·refine TC.seq (TC.region (TL.opP rfl (op_assign rfl) (TL.opP rfl (op_assign rfl) (TL.nil (TQ.then (TC.ret (TQ.then_ret ?_)))))))
         refine ret2 rfl rfl rfl (fun w' hp => ?_)
         first
           | exact ⟨_, _, rfl, ⟨.slice none 0 0, by rw [replE, if_pos (by unfold replBad; grind)], by rw [replF, if_pos (by unfold replBad; grind)]; rfl⟩, new_nil _ 3 (hp)⟩
           | exact ⟨_, _, rfl, ⟨«v:mr?», by first | (rw [replE, if_neg hok]; done) | (rw [replE, if_neg hok]; rfl), by rw [replF, if_neg hok, List.length_reverse]⟩, (hp)⟩
        ·have hok : ¬ replBad n a k s := by unfold replBad; grind
         refine TC.skip (TQ.then (TC.seq (TC.region ?_)))
         refine TL.opX rfl (OpX.alloc tz_edit_maker rfl) ?_; rintro _ _ ⟨g10, rfl, rfl⟩
         refine TL.hp (fun _ h => new_nil 50 3 h) (TL.nil (TQ.then (TC.seq (TC.region (TL.opP rfl (op_move rfl) (TL.callq rfl en_40 rfl (fun w2 hp => keep_calls _ w2) (TL.opP rfl (op_move rfl) (TL.callq rfl en_32 rfl (fun w2 hp => put_calls _ w2 (by omega)) (TL.opP rfl (op_move rfl) (TL.callq rfl en_33 rfl (fun w2 hp => drop_calls _ w2) (TL.opP rfl (op_move rfl) (TL.opP rfl (op_move rfl) (TL.opP rfl (op_sub rfl rfl rfl (by omega) (by omega)) (TL.opP rfl (op_move rfl) (TL.opP rfl (op_sub rfl rfl rfl (by omega) (by omega)) (TL.callq rfl en_40 rfl (fun w2 hp => keep_calls _ w2) ?_))))))))))))))))
         refine TL.opX rfl (OpX.buildSlice (ps := #[(0, _), (1, _), (2, _), (3, _)]) rfl (bs_api_Part_4 (keepP a) (putP s) (dropP k) (keepP (n - a - k)))) ?_; rintro _ _ ⟨g61, rfl, rfl⟩
         refine TL.hp (fun _ h => blk_row (k := 3) (m := 4) h rfl (by decide)) (TL.hp (fun _ h => h.pick1.pick2) ?_)
         refine TL.opX rfl (OpX.callX en_31 rfl (add_x _ [] _ _ _ (many4 hok hs) rw0)) ?_; rintro _ _ ⟨rfl, w1, rfl⟩
         refine TL.nil (TQ.then (TC.seq (TC.region (TL.opP rfl (op_field fld_edit_maker_out rfl) (TL.opV rfl (op_load ts_sl_api_Part rfl m0 rfl) (TL.opP rfl (op_assign rfl) (TL.opP rfl (op_assign rfl) (TL.nil (TQ.then (TC.ret ?_))))))))))
         refine ret2 rfl rfl rfl (fun w' hp => ?_)
         first
           | exact ⟨_, _, rfl, ⟨.slice none 0 0, by rw [replE, if_pos (by unfold replBad; grind)], by rw [replF, if_pos (by unfold replBad; grind)]; rfl⟩, new_nil _ 3 (hp.drop2.tail)⟩
           | exact ⟨_, _, rfl, ⟨w1, by first | (rw [replE, if_neg hok]; done) | (rw [replE, if_neg hok]; rfl), by rw [replF, if_neg hok, List.length_reverse]⟩, (hp.drop2.tail)⟩


end Go.SK

set_option linter.unusedVariables false
set_option linter.unusedSimpArgs false
set_option maxRecDepth 100000
namespace Go.SK
open Go Go.RowKit Go.Proofs
variable {S : Nat → Prop} {w0 : World} {F L : List Res}
theorem load_x (l : List Part) (tx : List Int) (g : Nat) (vl vt : Value) (hs : ∀ p ∈ l, p.text.size ≤ 70368744177664) :
    CallX Tryd.prog 47 [.pointer (some ⟨g, 0, none⟩)] S w0 (.blk g (.cells [vl, vt].toArray 93 (0, 0)) :: .win vl 50 3 l.length (encs l) :: .rd vt 1 tx.length (tx.map (Value.int .i32)) :: F) (fun u L' => u = .tuple #[] ∧ ∃ vt', L' = .blk g (.cells [vl, vt'].toArray 93 (0, 0)) :: .win vl 50 3 l.length (encs l) :: .rd vt' 1 (loadT l tx).length ((loadT l tx).map (Value.int .i32)) :: F) := by
 intro w hp
 refine calls_start Tryd.func47 rfl rfl rfl (hp) ?_
 refine TC.seq (TC.region (TL.opP rfl (op_move rfl) (TL.opP rfl (op_nilCheck rfl) (TL.opP rfl (op_field fld_edit_walk_l rfl) (TL.opV rfl (op_load ts_sl_api_Part rfl m0 rfl) (TL.opV rfl (op_lenV rfl un_sl_api_Part rfl wn1) (TL.opP rfl (op_gtr rfl rfl) (TL.opP rfl (op_move rfl) ?_))))))))
 first | refine TL.splitD (fun c1 => ?_) (fun c1 => ?_) | refine TL.splitB (fun c1 => ?_) (fun c1 => ?_)
 ·obtain ⟨p, l, rfl⟩ : ∃ p l', l = p :: l' := by cases l with | nil => simp at c1 | cons q r' => exact ⟨q, r', rfl⟩
  have hp1 := Nat.le_trans (dec_len p.text) (hs p (.head _))
  refine TL.gT rfl rfl (TL.opP rfl (op_move rfl) (TL.gT rfl rfl (TL.opP rfl (op_nilCheck rfl) (TL.gT rfl rfl (TL.opP rfl (op_field fld_edit_walk_l rfl) (TL.gT rfl rfl (TL.opV rfl (op_load ts_sl_api_Part rfl m0 rfl) (TL.gT rfl rfl (TL.opV rfl (op_index tsl_api_Part rfl wn1 rfl (by simp) (by simp)) (TL.gT rfl rfl (TL.opP rfl (op_fieldA fld_api_Part_Kind rfl) (TL.gT rfl rfl (TL.opV rfl (op_loadR ts_int rfl wn1 (lkH 0 rfl (by decide) rfl)) (TL.gT rfl rfl (TL.opP rfl (op_eql rfl rfl) (TL.opP rfl (op_pickT rfl rfl) (TL.nil (TQ.then ?_))))))))))))))))))
  first | refine TC.condD rfl (fun c2 => ?_) (fun c2 => ?_) | refine TC.condB rfl (fun c2 => ?_) (fun c2 => ?_)
  ·refine TC.region (TL.opP rfl (op_move rfl) (TL.opP rfl (op_move rfl) (TL.opP rfl (op_nilCheck rfl) (TL.opP rfl (op_field fld_edit_walk_l rfl) (TL.opV rfl (op_load ts_sl_api_Part rfl m0 rfl) (TL.opV rfl (op_index tsl_api_Part rfl wn1 rfl (by simp) (by simp)) (TL.opP rfl (op_fieldA fld_api_Part_Text rfl) (TL.opV rfl (op_loadR ts_string rfl wn1 (lkH 2 rfl (by decide) rfl)) ?_))))))))
   refine TL.opX rfl (OpX.runes un_string tsl_int32 un_int32 rfl (by omega)) ?_; rintro v1 _ rfl
   refine TL.know (fun _ h => row1 h) (fun o1 => (TL.hp (fun _ h => row_rd h) (TL.opP rfl (op_nilCheck rfl) (TL.opP rfl (op_field fld_edit_walk_text rfl) (TL.hp (fun _ h => h.pick1) ?_)))))
   refine TL.opX0 (OpX.store1 ts_sl_int32 rfl rfl (by first | rfl | assumption) rfl rfl) ?_; rintro _ _ rfl
   refine TL.nil ?_
   refine end0 rfl (fun w' hp => ?_)
   exact ⟨_, _, rfl, ⟨rfl, v1, by first | rfl | (rw [loadT, if_pos c2]; first | done | rfl) | (rw [loadT, if_neg c2]; first | done | rfl)⟩, (hp.drop3.pick1.pick2.pick2)⟩
  ·refine TC.skip ?_
   refine end0 rfl (fun w' hp => ?_)
   exact ⟨_, _, rfl, ⟨rfl, vt, by first | rfl | (rw [loadT, if_pos c2]; first | done | rfl) | (rw [loadT, if_neg c2]; first | done | rfl)⟩, (hp)⟩
 ·obtain rfl : l = [] := by cases l with | nil => rfl | cons q r' => simp at c1
  refine TL.gFf rfl rfl rfl (TL.gFf rfl rfl rfl (TL.gFf rfl rfl rfl (TL.gFf rfl rfl rfl (TL.gFf rfl rfl rfl (TL.gFf rfl rfl rfl (TL.gFf rfl rfl rfl (TL.gFf rfl rfl rfl (TL.opP rfl (op_pickF rfl rfl) (TL.nil (TQ.then (TC.condF rfl (TC.skip ?_))))))))))))
  refine end0 rfl (fun w' hp => ?_)
  exact ⟨_, _, rfl, ⟨rfl, vt, by first | rfl | (rw [loadT, if_pos c2]; first | done | rfl) | (rw [loadT, if_neg c2]; first | done | rfl)⟩, (hp)⟩

theorem kind_x (l : List Part) (tx : List Int) (g : Nat) (vl vt : Value) :
    CallX Tryd.prog 37 [.pointer (some ⟨g, 0, none⟩)] S w0 (.blk g (.cells [vl, vt].toArray 93 (0, 0)) :: .win vl 50 3 l.length (encs l) :: .rd vt 1 tx.length (tx.map (Value.int .i32)) :: F) (fun u L' => u = .int .i64 (kindL l) ∧ L' = .blk g (.cells [vl, vt].toArray 93 (0, 0)) :: .win vl 50 3 l.length (encs l) :: .rd vt 1 tx.length (tx.map (Value.int .i32)) :: F) := by
 intro w hp
 refine calls_start Tryd.func37 rfl rfl rfl (hp) ?_
 refine TC.seq (TC.region (TL.opP rfl (op_assign rfl) (TL.nil (TQ.then (TC.seq (TC.seq (TC.region (TL.opP rfl (op_move rfl) (TL.opP rfl (op_nilCheck rfl) (TL.opP rfl (op_field fld_edit_walk_l rfl) (TL.opV rfl (op_load ts_sl_api_Part rfl m0 rfl) (TL.opV rfl (op_lenV rfl un_sl_api_Part rfl wn1) (TL.opP rfl (op_eql rfl rfl) (TL.nil (TQ.then ?_)))))))))))))))
 first | refine TC.condD rfl (fun c1 => ?_) (fun c1 => ?_) | refine TC.condB rfl (fun c1 => ?_) (fun c1 => ?_)
 ·obtain rfl : l = [] := by cases l with | nil => rfl | cons q r' => (simp only [List.length_cons] at c1; omega)
  refine TC.seq (TC.region (TL.opP rfl (op_assign rfl) (TL.nil (TQ.then (TC.ret (TQ.then_ret ?_))))))
  refine ret1 rfl rfl (fun w' hp => ?_)
  exact ⟨_, _, rfl, ⟨rfl, rfl⟩, (hp)⟩
 ·obtain ⟨p, l, rfl⟩ : ∃ p l', l = p :: l' := by cases l with | nil => simp at c1 | cons q r' => exact ⟨q, r', rfl⟩
  refine TC.skip (TQ.then (TC.seq (TC.region (TL.opP rfl (op_move rfl) (TL.opP rfl (op_nilCheck rfl) (TL.opP rfl (op_field fld_edit_walk_l rfl) (TL.opV rfl (op_load ts_sl_api_Part rfl m0 rfl) (TL.opV rfl (op_index tsl_api_Part rfl wn1 rfl (by simp) (by simp)) (TL.opP rfl (op_fieldA fld_api_Part_Kind rfl) (TL.opV rfl (op_loadR ts_int rfl wn1 (lkH 0 rfl (by decide) rfl)) (TL.opP rfl (op_assign rfl) (TL.nil (TQ.then (TC.ret ?_))))))))))))))
  refine ret1 rfl rfl (fun w' hp => ?_)
  exact ⟨_, _, rfl, ⟨rfl, rfl⟩, (hp)⟩

theorem left_x (p : Part) (l : List Part) (tx : List Int) (g : Nat) (vl vt : Value) :
    CallX Tryd.prog 39 [.pointer (some ⟨g, 0, none⟩)] S w0 (.blk g (.cells [vl, vt].toArray 93 (0, 0)) :: .win vl 50 3 (p :: l).length (encs (p :: l)) :: .rd vt 1 tx.length (tx.map (Value.int .i32)) :: F) (fun u L' => u = .int .i64 p.n ∧ L' = .blk g (.cells [vl, vt].toArray 93 (0, 0)) :: .win vl 50 3 (p :: l).length (encs (p :: l)) :: .rd vt 1 tx.length (tx.map (Value.int .i32)) :: F) := by
 intro w hp
 refine calls_start Tryd.func39 rfl rfl rfl (hp) ?_
 refine TC.seq (TC.region (TL.opP rfl (op_assign rfl) (TL.nil (TQ.then (TC.seq (TC.region (TL.opP rfl (op_move rfl) (TL.opP rfl (op_nilCheck rfl) (TL.opP rfl (op_field fld_edit_walk_l rfl) (TL.opV rfl (op_load ts_sl_api_Part rfl m0 rfl) (TL.opV rfl (op_index tsl_api_Part rfl wn1 rfl (by simp) (by simp)) (TL.opP rfl (op_fieldA fld_api_Part_N rfl) (TL.opV rfl (op_loadR ts_int rfl wn1 (lkH 1 rfl (by decide) rfl)) (TL.opP rfl (op_assign rfl) (TL.nil (TQ.then (TC.ret ?_)))))))))))))))))
 refine ret1 rfl rfl (fun w' hp => ?_)
 exact ⟨_, _, rfl, ⟨rfl, rfl⟩, (hp)⟩

theorem take_x (p : Part) (l : List Part) (tx : List Int) (n : Int) (g : Nat) (vl vt : Value) (hn0 : 0 ≤ n) (hn : n ≤ p.n) (hpn : p.n ≤ 1099511627776) (htx : p.kind = 2 → n.toNat ≤ tx.length) (hs : ∀ q ∈ l, q.text.size ≤ 70368744177664) :
    CallX Tryd.prog 38 [.pointer (some ⟨g, 0, none⟩), .int .i64 n] S w0 (.blk g (.cells [vl, vt].toArray 93 (0, 0)) :: .win vl 50 3 (p :: l).length (encs (p :: l)) :: .rd vt 1 tx.length (tx.map (Value.int .i32)) :: F) (fun u L' => u = (takeQ p tx n).val ∧ ∃ vl' vt', L' = .blk g (.cells [vl', vt'].toArray 93 (0, 0)) :: .win vl' 50 3 (takeL p l n).length (encs (takeL p l n)) :: .rd vt' 1 (takeT p l tx n).length ((takeT p l tx n).map (Value.int .i32)) :: F) := by
 intro w hp
 refine calls_start Tryd.func38 rfl rfl rfl (hp) ?_
 refine TC.seq (TC.region ?_)
 refine TL.opX rfl (OpX.alloc tz_api_Part rfl) ?_; rintro _ _ ⟨g4, rfl, rfl⟩
 refine TL.nil (TQ.then (TC.seq (TC.region (TL.opP rfl (op_move rfl) (TL.opP rfl (op_nilCheck rfl) (TL.opP rfl (op_field fld_edit_walk_l rfl) (TL.opV rfl (op_load ts_sl_api_Part rfl m1 rfl) (TL.opV rfl (op_index tsl_api_Part rfl wn2 rfl (by simp) (by simp)) (TL.opV rfl (op_loadRS tst_api_Part rfl wn2 (cs := p.cs) rfl rfl (by decide)) ?_)))))))))
 refine TL.opX rfl (OpX.alloc tz_api_Part rfl) ?_; rintro _ _ ⟨g5, rfl, rfl⟩
 refine TL.opX0 (OpX.storeS tst_api_Part rfl rfl rfl rfl rfl (List.all_eq_true.1 rfl)) ?_; rintro _ _ rfl
 refine TL.nil (TQ.then (TC.seq (TC.region (TL.opP rfl (op_move rfl) (TL.opP rfl (op_field fld_api_Part_N rfl) ?_)))))
 refine TL.opX0 (OpX.store1 ts_int rfl rfl (by first | rfl | assumption) rfl rfl) ?_; rintro _ _ rfl
 refine TL.nil (TQ.then (TC.seq (TC.seq (TC.region (TL.opP rfl (op_field fld_api_Part_Kind rfl) (TL.opV rfl (op_load ts_int rfl m0 rfl) (TL.opP rfl (op_eql rfl rfl) (TL.nil (TQ.then ?_)))))))))
 first | refine TC.condD rfl (fun c1 => ?_) (fun c1 => ?_) | refine TC.condB rfl (fun c1 => ?_) (fun c1 => ?_)
 ·have htx1 := htx c1
  refine TC.drawS (.blk g (.cells [vl, vt].toArray 93 (0, 0)) :: .win vl 50 3 (p :: l).length (encs (p :: l)) :: .rd vt 1 tx.length (tx.map (Value.int .i32)) :: F) [18] (.cons (.p, 0) (.cons (.p, 1) (.cons (.p, 2) (.cons (.p, 3) (.cons (.p, 5) (.cons (.p, 8) (.cons (.p, 9) (.cons (.p, 10) (.cons (.p, 12) (.cons (.t, 4) (.cons (.t, 6) (.cons (.t, 7) (.cons (.p, 14) (.cons (.t, 11) (.cons (.t, 13) (.cons (.o, 15) (.cons (.p, 16) (.cons (.p, 17) (.cons (.z, 18) (.nil)))))))))))))))))))) mo (by kernel_rfl) (TR.p rfl rfl wt0 (op_move rfl) (TR.p rfl rfl wt0 (op_move rfl) (TR.p rfl rfl wt0 (op_nilCheck rfl) (TR.p rfl rfl wt0 (op_field fld_edit_walk_text rfl) (TR.p rfl rfl wt0 (op_move rfl) ?_)))))
  refine TR.p rfl rfl wt0 (op_move rfl) (TR.p rfl rfl wt0 (op_nilCheck rfl) (TR.p rfl rfl wt0 (op_field fld_edit_walk_text rfl) (TR.p rfl rfl wt0 (op_move rfl) (TR.t rfl rfl wt0 (op_load ts_sl_int32 rfl m0 rfl) (fun _ h => h.drop1.tail) (TR.t rfl rfl wt0 (op_cut 0 n.toNat tsl_int32 rfl rd2 (vlo := none) (vhi := (some _)) rfl rfl (.inl ⟨rfl, rfl⟩) (.inr ⟨_, _, rfl, by omega⟩) (by omega) (by omega)) (fun _ h => h.drop1.tail) (TR.t rfl rfl wt0 (op_unrunes tsl_int32 un_int32 un_string rfl (Rdb.ints_take rd2 n.toNat htx1)) (fun _ h => h.drop1.tail) (TR.p rfl rfl wt0 (op_field fld_api_Part_Text rfl) (TR.t rfl rfl wt0 (op_load ts_sl_int32 rfl m0 rfl) (fun _ h => h.drop1.tail) (TR.t rfl rfl wt0 (op_cut n.toNat tx.length tsl_int32 rfl rd2 (vlo := (some _)) (vhi := none) rfl rfl (.inr ⟨_, _, rfl, by omega⟩) (.inl ⟨rfl, rfl⟩) (by omega) (by omega)) (fun _ h => h.drop1.tail) ?_)))))))))
  refine TR.know (fun _ h => (Rdb.cut rd4 n.toNat tx.length (by omega) (by omega)).one h) (fun oc => ?_)
  refine TR.o0 rfl wt0 (OpX.store1 ts_string rfl rfl (by first | rfl | assumption) rfl rfl) (by rintro _ _ rfl; intro w h; exact h.drop1.tail) ?_; rintro _ _ rfl
  refine TR.p rfl rfl wt0 (op_nilCheck rfl) (TR.p rfl rfl wt0 (op_field fld_edit_walk_text rfl) (TR.hp (fun _ h => h.pick2) ?_))
  refine TR.z0 rfl wt0 (OpX.store1 ts_sl_int32 rfl rfl (by first | rfl | assumption) rfl rfl) ?_; rintro _ _ rfl
  refine TR.hp (fun _ h => h.pick4) (TR.hp (fun _ h => rd_drop h n.toNat htx1) (TR.nil (TQ.then (TC.seq (TC.region (TL.opP rfl (op_move rfl) (TL.opP rfl (op_nilCheck rfl) (TL.opP rfl (op_field fld_edit_walk_l rfl) (TL.opV rfl (op_load ts_sl_api_Part rfl m1 rfl) (TL.opV rfl (op_index tsl_api_Part rfl wn4 rfl (by simp) (by simp)) (TL.opP rfl (op_fieldA fld_api_Part_N rfl) (TL.opV rfl (op_loadR ts_int rfl wn4 (lkH 1 rfl (by decide) rfl)) (TL.opP rfl (op_move rfl) (TL.opP rfl (op_sub rfl rfl rfl (by omega) (by omega)) (TL.opV rfl (op_index tsl_api_Part rfl wn4 rfl (by simp) (by simp)) (TL.opP rfl (op_fieldA fld_api_Part_N rfl) (TL.hp (fun _ h => h.pick4) ?_)))))))))))))))))
  refine TL.opX0 (OpX.storeWin (k := 1) (fun w => by kernel_rfl) rfl rfl rfl (ys := [.int .i64 (p.n - n)]) rfl (by decide) (List.all_eq_true.1 rfl) (by simp only [List.length_cons]; omega) (stH (q' := ⟨p.kind, p.n - n, p.text⟩) 1 _ rfl rfl (by decide))) ?_; rintro _ _ rfl
  refine TL.nil (TQ.then (TC.seq (TC.seq (TC.region (TL.opP rfl (op_move rfl) (TL.opP rfl (op_nilCheck rfl) (TL.opP rfl (op_field fld_edit_walk_l rfl) (TL.opV rfl (op_load ts_sl_api_Part rfl m2 rfl) (TL.opV rfl (op_index tsl_api_Part rfl wn0 rfl (by simp) (by simp)) (TL.opP rfl (op_fieldA fld_api_Part_N rfl) (TL.opV rfl (op_loadR ts_int rfl wn0 (lkH (p := ⟨p.kind, p.n - n, p.text⟩) 1 rfl (by decide) rfl)) (TL.opP rfl (op_eql rfl rfl) (TL.nil (TQ.then ?_))))))))))))))
  first | refine TC.condD rfl (fun c2 => ?_) (fun c2 => ?_) | refine TC.condB rfl (fun c2 => ?_) (fun c2 => ?_)
  ·refine TC.seq (TC.region (TL.opP rfl (op_move rfl) (TL.opP rfl (op_move rfl) (TL.opP rfl (op_nilCheck rfl) (TL.opP rfl (op_field fld_edit_walk_l rfl) (TL.opV rfl (op_load ts_sl_api_Part rfl m2 rfl) (TL.opV rfl (op_cut 1 (⟨p.kind, p.n - n, p.text⟩ :: l : List Part).length tsl_api_Part rfl wn0 (vlo := (some _)) (vhi := none) rfl rfl (.inr ⟨_, _, rfl, by simp⟩) (.inl ⟨rfl, rfl⟩) (by simp) (by simp)) ?_)))))))
   refine TL.know (fun _ h => (Rdb.cut wn0 1 (p :: l).length (by simp) (by simp)).one h) (fun oc1 => (TL.opP rfl (op_nilCheck rfl) (TL.opP rfl (op_field fld_edit_walk_l rfl) (TL.hp (fun _ h => h.pick2) ?_))))
   refine TL.opX0 (OpX.store1 ts_sl_api_Part rfl rfl (by first | rfl | assumption) rfl rfl) ?_; rintro _ _ rfl
   refine TL.hp (fun _ h => h.pick1) (TL.hp (fun _ h => winTail (q := ⟨p.kind, p.n - n, p.text⟩) h) (TL.nil (TQ.then (TC.region (TL.opP rfl (op_move rfl) (TL.hp (fun _ h => h.pick2.pick1.pick2) ?_))))))
   refine TL.opX rfl (OpX.callX en_47 rfl (load_x l _ _ _ _ hs)) ?_; rintro _ _ ⟨rfl, w1, rfl⟩
   refine TL.nil (TQ.then (TC.seq (TC.region (TL.opV rfl (op_loadS tst_api_Part rfl m3 rfl) (TL.hp (fun _ h => h.pick4) ?_)))))
   refine TL.opX0 (OpX.storeS tst_api_Part rfl rfl rfl rfl rfl (List.all_eq_true.1 rfl)) ?_; rintro _ _ rfl
   refine TL.nil (TQ.then (TC.ret ?_))
   refine retc tst_api_Part rfl rfl m0 rfl (fun w' hp => ?_)
   have hq := (hp.drop4.tail)
   first
     | exact ⟨_, _, rfl, ⟨by simp only [takeQ, if_pos c1]; rfl, (Value.cut vl 1 (⟨p.kind, p.n - n, p.text⟩ :: l : List Part).length 3), w1, by rw [takeL, takeT, if_pos c2, if_pos c2, if_pos c1]; first | done | rfl⟩, hq⟩
     | exact ⟨_, _, rfl, ⟨by simp only [takeQ, if_pos c1]; rfl, (Value.cut vl 1 (⟨p.kind, p.n - n, p.text⟩ :: l : List Part).length 3), w1, by rw [takeL, takeT, if_neg c2, if_neg c2, if_pos c1]; first | done | rfl⟩, hq⟩
     | exact ⟨_, _, rfl, ⟨by simp only [takeQ, if_neg c1]; rfl, (Value.cut vl 1 (⟨p.kind, p.n - n, p.text⟩ :: l : List Part).length 3), w1, by rw [takeL, takeT, if_pos c3, if_pos c3, if_neg c1]; first | done | rfl⟩, hq⟩
     | exact ⟨_, _, rfl, ⟨by simp only [takeQ, if_neg c1]; rfl, (Value.cut vl 1 (⟨p.kind, p.n - n, p.text⟩ :: l : List Part).length 3), w1, by rw [takeL, takeT, if_neg c3, if_neg c3, if_neg c1]; first | done | rfl⟩, hq⟩
  ·refine TC.skip (TQ.then (TC.seq (TC.region (TL.opV rfl (op_loadS tst_api_Part rfl m3 rfl) (TL.hp (fun _ h => h.pick4) ?_)))))
   refine TL.opX0 (OpX.storeS tst_api_Part rfl rfl rfl rfl rfl (List.all_eq_true.1 rfl)) ?_; rintro _ _ rfl
   refine TL.nil (TQ.then (TC.ret ?_))
   refine retc tst_api_Part rfl rfl m0 rfl (fun w' hp => ?_)
   have hq := (hp.drop4.tail.pick1.pick1.pick2)
   first
     | exact ⟨_, _, rfl, ⟨by simp only [takeQ, if_pos c1]; rfl, vl, (Value.cut vt n.toNat tx.length 1), by rw [takeL, takeT, if_pos c2, if_pos c2, if_pos c1]; first | done | rfl⟩, hq⟩
     | exact ⟨_, _, rfl, ⟨by simp only [takeQ, if_pos c1]; rfl, vl, (Value.cut vt n.toNat tx.length 1), by rw [takeL, takeT, if_neg c2, if_neg c2, if_pos c1]; first | done | rfl⟩, hq⟩
     | exact ⟨_, _, rfl, ⟨by simp only [takeQ, if_neg c1]; rfl, vl, (Value.cut vt n.toNat tx.length 1), by rw [takeL, takeT, if_pos c3, if_pos c3, if_neg c1]; first | done | rfl⟩, hq⟩
     | exact ⟨_, _, rfl, ⟨by simp only [takeQ, if_neg c1]; rfl, vl, (Value.cut vt n.toNat tx.length 1), by rw [takeL, takeT, if_neg c3, if_neg c3, if_neg c1]; first | done | rfl⟩, hq⟩
 ·refine TC.skip (TQ.then (TC.seq (TC.region (TL.opP rfl (op_move rfl) (TL.opP rfl (op_nilCheck rfl) (TL.opP rfl (op_field fld_edit_walk_l rfl) (TL.opV rfl (op_load ts_sl_api_Part rfl m2 rfl) (TL.opV rfl (op_index tsl_api_Part rfl wn3 rfl (by simp) (by simp)) (TL.opP rfl (op_fieldA fld_api_Part_N rfl) (TL.opV rfl (op_loadR ts_int rfl wn3 (lkH 1 rfl (by decide) rfl)) (TL.opP rfl (op_move rfl) (TL.opP rfl (op_sub rfl rfl rfl (by omega) (by omega)) (TL.opV rfl (op_index tsl_api_Part rfl wn3 rfl (by simp) (by simp)) (TL.opP rfl (op_fieldA fld_api_Part_N rfl) (TL.hp (fun _ h => h.pick3) ?_)))))))))))))))
  refine TL.opX0 (OpX.storeWin (k := 1) (fun w => by kernel_rfl) rfl rfl rfl (ys := [.int .i64 (p.n - n)]) rfl (by decide) (List.all_eq_true.1 rfl) (by simp only [List.length_cons]; omega) (stH (q' := ⟨p.kind, p.n - n, p.text⟩) 1 _ rfl rfl (by decide))) ?_; rintro _ _ rfl
  refine TL.nil (TQ.then (TC.seq (TC.seq (TC.region (TL.opP rfl (op_move rfl) (TL.opP rfl (op_nilCheck rfl) (TL.opP rfl (op_field fld_edit_walk_l rfl) (TL.opV rfl (op_load ts_sl_api_Part rfl m3 rfl) (TL.opV rfl (op_index tsl_api_Part rfl wn0 rfl (by simp) (by simp)) (TL.opP rfl (op_fieldA fld_api_Part_N rfl) (TL.opV rfl (op_loadR ts_int rfl wn0 (lkH (p := ⟨p.kind, p.n - n, p.text⟩) 1 rfl (by decide) rfl)) (TL.opP rfl (op_eql rfl rfl) (TL.nil (TQ.then ?_))))))))))))))
  first | refine TC.condD rfl (fun c3 => ?_) (fun c3 => ?_) | refine TC.condB rfl (fun c3 => ?_) (fun c3 => ?_)
  ·refine TC.seq (TC.region (TL.opP rfl (op_move rfl) (TL.opP rfl (op_move rfl) (TL.opP rfl (op_nilCheck rfl) (TL.opP rfl (op_field fld_edit_walk_l rfl) (TL.opV rfl (op_load ts_sl_api_Part rfl m3 rfl) (TL.opV rfl (op_cut 1 (⟨p.kind, p.n - n, p.text⟩ :: l : List Part).length tsl_api_Part rfl wn0 (vlo := (some _)) (vhi := none) rfl rfl (.inr ⟨_, _, rfl, by simp⟩) (.inl ⟨rfl, rfl⟩) (by simp) (by simp)) ?_)))))))
   refine TL.know (fun _ h => (Rdb.cut wn0 1 (p :: l).length (by simp) (by simp)).one h) (fun oc1 => (TL.opP rfl (op_nilCheck rfl) (TL.opP rfl (op_field fld_edit_walk_l rfl) (TL.hp (fun _ h => h.pick3) ?_))))
   refine TL.opX0 (OpX.store1 ts_sl_api_Part rfl rfl (by first | rfl | assumption) rfl rfl) ?_; rintro _ _ rfl
   refine TL.hp (fun _ h => h.pick1) (TL.hp (fun _ h => winTail (q := ⟨p.kind, p.n - n, p.text⟩) h) (TL.nil (TQ.then (TC.region (TL.opP rfl (op_move rfl) (TL.hp (fun _ h => h.pick4.pick1.pick2) ?_))))))
   refine TL.opX rfl (OpX.callX en_47 rfl (load_x l _ _ _ _ hs)) ?_; rintro _ _ ⟨rfl, w2, rfl⟩
   refine TL.nil (TQ.then (TC.seq (TC.region (TL.opV rfl (op_loadS tst_api_Part rfl m3 rfl) (TL.hp (fun _ h => h.pick4) ?_)))))
   refine TL.opX0 (OpX.storeS tst_api_Part rfl rfl rfl rfl rfl (List.all_eq_true.1 rfl)) ?_; rintro _ _ rfl
   refine TL.nil (TQ.then (TC.ret ?_))
   refine retc tst_api_Part rfl rfl m0 rfl (fun w' hp => ?_)
   have hq := (hp.drop4.tail)
   first
     | exact ⟨_, _, rfl, ⟨by simp only [takeQ, if_pos c1]; rfl, (Value.cut vl 1 (⟨p.kind, p.n - n, p.text⟩ :: l : List Part).length 3), w2, by rw [takeL, takeT, if_pos c2, if_pos c2, if_pos c1]; first | done | rfl⟩, hq⟩
     | exact ⟨_, _, rfl, ⟨by simp only [takeQ, if_pos c1]; rfl, (Value.cut vl 1 (⟨p.kind, p.n - n, p.text⟩ :: l : List Part).length 3), w2, by rw [takeL, takeT, if_neg c2, if_neg c2, if_pos c1]; first | done | rfl⟩, hq⟩
     | exact ⟨_, _, rfl, ⟨by simp only [takeQ, if_neg c1]; rfl, (Value.cut vl 1 (⟨p.kind, p.n - n, p.text⟩ :: l : List Part).length 3), w2, by rw [takeL, takeT, if_pos c3, if_pos c3, if_neg c1]; first | done | rfl⟩, hq⟩
     | exact ⟨_, _, rfl, ⟨by simp only [takeQ, if_neg c1]; rfl, (Value.cut vl 1 (⟨p.kind, p.n - n, p.text⟩ :: l : List Part).length 3), w2, by rw [takeL, takeT, if_neg c3, if_neg c3, if_neg c1]; first | done | rfl⟩, hq⟩
  ·refine TC.skip (TQ.then (TC.seq (TC.region (TL.opV rfl (op_loadS tst_api_Part rfl m1 rfl) (TL.hp (fun _ h => h.pick2) ?_)))))
   refine TL.opX0 (OpX.storeS tst_api_Part rfl rfl rfl rfl rfl (List.all_eq_true.1 rfl)) ?_; rintro _ _ rfl
   refine TL.nil (TQ.then (TC.ret ?_))
   refine retc tst_api_Part rfl rfl m0 rfl (fun w' hp => ?_)
   have hq := (hp.drop2.tail.pick2.pick1.pick2)
   first
     | exact ⟨_, _, rfl, ⟨by simp only [takeQ, if_pos c1]; rfl, vl, vt, by rw [takeL, takeT, if_pos c2, if_pos c2, if_pos c1]; first | done | rfl⟩, hq⟩
     | exact ⟨_, _, rfl, ⟨by simp only [takeQ, if_pos c1]; rfl, vl, vt, by rw [takeL, takeT, if_neg c2, if_neg c2, if_pos c1]; first | done | rfl⟩, hq⟩
     | exact ⟨_, _, rfl, ⟨by simp only [takeQ, if_neg c1]; rfl, vl, vt, by rw [takeL, takeT, if_pos c3, if_pos c3, if_neg c1]; first | done | rfl⟩, hq⟩
     | exact ⟨_, _, rfl, ⟨by simp only [takeQ, if_neg c1]; rfl, vl, vt, by rw [takeL, takeT, if_neg c3, if_neg c3, if_neg c1]; first | done | rfl⟩, hq⟩

theorem over_x (e : List Part) (v : Value) (hs : ∀ p ∈ e, p.text.size ≤ 70368744177664) (hl : e.length ≤ 1099511627776) (hr : Rdb L v 3 e.length (encs e)) :
    CallX Tryd.prog 36 [v] S w0 (L) (fun u L' => ∃ g vl vt, u = .pointer (some ⟨g, 0, none⟩) ∧ L' = .blk g (.cells [vl, vt].toArray 93 (0, 0)) :: .win vl 50 3 e.length (encs e) :: .rd vt 1 (loadT e []).length ((loadT e []).map (Value.int .i32)) :: L) := by
 intro w hp
 refine calls_start Tryd.func36 rfl rfl rfl (hp) ?_
 refine TC.seq (TC.region (TL.opP rfl (op_assign rfl) (TL.nil (TQ.then (TC.seq (TC.region ?_))))))
 refine TL.opX rfl (OpX.buildSlice (ps := #[]) rfl (bs_api_Part_0 )) ?_; rintro _ _ ⟨g4, rfl, rfl⟩
 refine TL.hp (fun _ h => blk_row (k := 3) (m := 0) h rfl (by decide)) (TL.opP rfl (op_move rfl) ?_)
 refine TL.opX rfl (OpX.append (bytes := 32) tsl_api_Part (by decide) (by decide) rfl hr.cons (encs_one _) (by omega) (zs := encs e) rfl) ?_; rintro v1 _ rfl
 refine TL.know (fun _ h => row1 h) (fun o1 => ?_)
 refine TL.hp (fun _ h => row_win (by rw [Nat.zero_add] at h; exact h)) ?_
 refine TL.hp (fun _ h => rd_nil 21 1 h) (TL.opP rfl (op_build (ps := #[(0, _)]) rfl (bl_edit_walk_0 _)) ?_)
 refine TL.opX rfl (OpX.box (cs := [v1, .slice none 0 0]) rfl rfl) ?_; rintro _ _ ⟨g8, rfl, rfl⟩
 refine TL.opP rfl (op_assign rfl) (TL.nil (TQ.then (TC.seq (TC.region (TL.opP rfl (op_move rfl) (TL.hp (fun _ h => h.pick1.pick2.pick2) ?_))))))
 refine TL.opX rfl (OpX.callX en_47 rfl (load_x e [] _ _ _ hs)) ?_; rintro _ _ ⟨rfl, w2, rfl⟩
 refine TL.nil (TQ.then (TC.seq (TC.region (TL.opP rfl (op_move rfl) (TL.opP rfl (op_assign rfl) (TL.nil (TQ.then (TC.ret ?_))))))))
 refine ret1 rfl rfl (fun w' hp => ?_)
 exact ⟨_, _, rfl, ⟨g8, v1, w2, rfl, rfl⟩, (hp)⟩

end Go.SK

set_option linter.unusedVariables false
set_option linter.unusedSimpArgs false
set_option maxRecDepth 100000
namespace Go.SK
open Go Go.RowKit Go.Proofs
variable {S : Nat → Prop} {w0 : World} {F L : List Res}

end Go.SK

set_option linter.unusedVariables false
set_option linter.unusedSimpArgs false
set_option maxRecDepth 100000
namespace Go.SK
open Go Go.RowKit Go.Proofs
variable {S : Nat → Prop} {w0 : World} {F L : List Res}
theorem transform_x (a b : List Part) (va vb : Value) (hsa : ∀ p ∈ a, p.text.size < 9223372036854775807) (hsb : ∀ p ∈ b, p.text.size < 9223372036854775807) (hla : a.length ≤ 137438953472) (hlb : b.length ≤ 137438953472) (hT : tabs ∈ L) (ra : Rdb L va 3 a.length (encs a)) (rb : Rdb L vb 3 b.length (encs b)) :
    CallX Tryd.prog 19 [va, vb] S w0 (L) (fun u L' => ∃ v1 v2, u = .tuple #[v1, v2, .int .i64 (trE a b)] ∧ L' = .row v1 50 3 (trF1 a b).length (encs (trF1 a b)) :: .row v2 50 3 (trF2 a b).length (encs (trF2 a b)) :: L) := by
 intro w hp
 refine calls_start Tryd.func19 rfl rfl rfl (hp) ?_
 refine TC.seq (TC.region (TL.opP rfl (op_assign rfl) (TL.opP rfl (op_assign rfl) (TL.opP rfl (op_assign rfl) (TL.nil (TQ.then (TC.seq (TC.region (TL.opP rfl (op_move rfl) (TL.callq rfl en_35 rfl (fun w2 hp => sizes_calls a va w2 (tabs_at hp hT) hsa (ra _ _ _ hp)) (TL.opP rfl (op_move rfl) (TL.opP rfl (op_extract rfl rfl) (TL.opP rfl (op_extract rfl rfl) (TL.opP rfl (op_extract rfl rfl) (TL.opP rfl (op_assign rfl) (TL.opP rfl (op_assign rfl) (TL.opP rfl (op_assign rfl) (TL.nil (TQ.then (TC.seq (TC.seq (TC.region (TL.opP rfl (op_move rfl) (TL.callq rfl en_35 rfl (fun w2 hp => sizes_calls b vb w2 (tabs_at hp hT) hsb (rb _ _ _ hp)) (TL.opP rfl (op_move rfl) (TL.opP rfl (op_extract rfl rfl) (TL.opP rfl (op_extract rfl rfl) ?_)))))))))))))))))))))))))))
 refine TL.opP rfl (op_extract rfl rfl) (TL.opP rfl (op_assign rfl) (TL.opP rfl (op_assign rfl) (TL.opP rfl (op_assign rfl) (TL.nil (TQ.then (TC.seq (TC.region (TL.opP rfl (op_move rfl) (TL.opP rfl (op_not rfl rfl) (TL.opP rfl (op_move rfl) ?_))))))))))
 first | refine TL.splitD (fun c1 => ?_) (fun c1 => ?_) | refine TL.splitB (fun c1 => ?_) (fun c1 => ?_)
 ·refine TL.gFt rfl rfl rfl (TL.gFt rfl rfl rfl (TL.opP rfl (op_pickT rfl rfl) (TL.opP rfl (op_move rfl) (TL.gFt rfl rfl rfl (TL.gFt rfl rfl rfl (TL.gFt rfl rfl rfl (TL.opP rfl (op_pickT rfl rfl) (TL.nil (TQ.then (TC.condT rfl (TC.seq (TC.region (TL.opP rfl (op_assign rfl) (TL.opP rfl (op_assign rfl) (TL.opP rfl (op_assign rfl) (TL.nil (TQ.then (TC.ret (TQ.then_ret ?_)))))))))))))))))))
  refine ret3 rfl rfl rfl rfl (fun w' hp => ?_)
  first
    | (have hbad : trBad a b := by (unfold trBad; grind)
       exact ⟨_, _, rfl, ⟨.slice none 0 0, .slice none 0 0, by rw [(tr_bad hbad).1], by rw [(tr_bad hbad).2.1, (tr_bad hbad).2.2]; rfl⟩, new_nil _ 3 (new_nil _ 3 (hp))⟩)
    | (have hlong : trLong a b := by (unfold trLong; grind)
       exact ⟨_, _, rfl, ⟨.slice none 0 0, .slice none 0 0, by rw [(tr_long hok hlong).1], by rw [(tr_long hok hlong).2.1, (tr_long hok hlong).2.2]; rfl⟩, new_nil _ 3 (new_nil _ 3 (hp))⟩)
    | (have hlong : ¬ trLong a b := by (unfold trLong; grind)
       exact ⟨_, _, rfl, ⟨«v:mr?», «v:or?», by rw [(tr_ok hok hlong).1]; first | done | rfl, by rw [(tr_ok hok hlong).2.1, (tr_ok hok hlong).2.2, List.length_reverse, List.length_reverse]⟩, (hp)⟩)
 ·refine TL.gT rfl rfl (TL.opP rfl (op_move rfl) (TL.gT rfl rfl (TL.opP rfl (op_not rfl rfl) (TL.opP rfl (op_pickF rfl rfl) (TL.opP rfl (op_move rfl) ?_)))))
  first | refine TL.splitD (fun c2 => ?_) (fun c2 => ?_) | refine TL.splitB (fun c2 => ?_) (fun c2 => ?_)
  ·refine TL.gFt rfl rfl rfl (TL.gFt rfl rfl rfl (TL.gFt rfl rfl rfl (TL.opP rfl (op_pickT rfl rfl) (TL.nil (TQ.then (TC.condT rfl (TC.seq (TC.region (TL.opP rfl (op_assign rfl) (TL.opP rfl (op_assign rfl) (TL.opP rfl (op_assign rfl) (TL.nil (TQ.then (TC.ret (TQ.then_ret ?_)))))))))))))))
   refine ret3 rfl rfl rfl rfl (fun w' hp => ?_)
   first
     | (have hbad : trBad a b := by (unfold trBad; grind)
        exact ⟨_, _, rfl, ⟨.slice none 0 0, .slice none 0 0, by rw [(tr_bad hbad).1], by rw [(tr_bad hbad).2.1, (tr_bad hbad).2.2]; rfl⟩, new_nil _ 3 (new_nil _ 3 (hp))⟩)
     | (have hlong : trLong a b := by (unfold trLong; grind)
        exact ⟨_, _, rfl, ⟨.slice none 0 0, .slice none 0 0, by rw [(tr_long hok hlong).1], by rw [(tr_long hok hlong).2.1, (tr_long hok hlong).2.2]; rfl⟩, new_nil _ 3 (new_nil _ 3 (hp))⟩)
     | (have hlong : ¬ trLong a b := by (unfold trLong; grind)
        exact ⟨_, _, rfl, ⟨«v:mr?», «v:or?», by rw [(tr_ok hok hlong).1]; first | done | rfl, by rw [(tr_ok hok hlong).2.1, (tr_ok hok hlong).2.2, List.length_reverse, List.length_reverse]⟩, (hp)⟩)
  ·refine TL.gT rfl rfl (TL.opP rfl (op_move rfl) (TL.gT rfl rfl (TL.opP rfl (op_move rfl) (TL.gT rfl rfl (TL.opP rfl (op_neq rfl rfl) (TL.opP rfl (op_pickF rfl rfl) (TL.nil (TQ.then ?_))))))))
   first | refine TC.condD rfl (fun c3 => ?_) (fun c3 => ?_) | refine TC.condB rfl (fun c3 => ?_) (fun c3 => ?_)
   ·refine TC.seq (TC.region (TL.opP rfl (op_assign rfl) (TL.opP rfl (op_assign rfl) (TL.opP rfl (op_assign rfl) (TL.nil (TQ.then (TC.ret (TQ.then_ret ?_))))))))
    refine ret3 rfl rfl rfl rfl (fun w' hp => ?_)
    first
      | (have hbad : trBad a b := by (unfold trBad; grind)
         exact ⟨_, _, rfl, ⟨.slice none 0 0, .slice none 0 0, by rw [(tr_bad hbad).1], by rw [(tr_bad hbad).2.1, (tr_bad hbad).2.2]; rfl⟩, new_nil _ 3 (new_nil _ 3 (hp))⟩)
      | (have hlong : trLong a b := by (unfold trLong; grind)
         exact ⟨_, _, rfl, ⟨.slice none 0 0, .slice none 0 0, by rw [(tr_long hok hlong).1], by rw [(tr_long hok hlong).2.1, (tr_long hok hlong).2.2]; rfl⟩, new_nil _ 3 (new_nil _ 3 (hp))⟩)
      | (have hlong : ¬ trLong a b := by (unfold trLong; grind)
         exact ⟨_, _, rfl, ⟨«v:mr?», «v:or?», by rw [(tr_ok hok hlong).1]; first | done | rfl, by rw [(tr_ok hok hlong).2.1, (tr_ok hok hlong).2.2, List.length_reverse, List.length_reverse]⟩, (hp)⟩)
   ·have hok : ¬ trBad a b := by unfold trBad; grind
    have hst := TInv.start hok hla hlb
    refine TC.skip (TQ.then (TC.seq (TC.region ?_)))
    refine TL.opX rfl (OpX.alloc tz_edit_maker rfl) ?_; rintro _ _ ⟨g13, rfl, rfl⟩
    refine TL.hp (fun _ h => new_nil 50 3 h) ?_
    refine TL.opX rfl (OpX.alloc tz_edit_maker rfl) ?_; rintro _ _ ⟨g14, rfl, rfl⟩
    refine TL.hp (fun _ h => new_nil 50 3 h) (TL.nil (TQ.then (TC.seq (TC.region (TL.opP rfl (op_move rfl) ?_)))))
    refine TL.opX rfl (OpX.callX en_36 rfl (over_x a va (fits_small hst.fx) (by omega) ra.cons.cons.cons.cons)) ?_; rintro _ _ ⟨gx1, vlx1, vtx1, rfl, rfl⟩
    refine TL.opP rfl (op_move rfl) ?_
    refine TL.opX rfl (OpX.callX en_36 rfl (over_x b vb (fits_small hst.fy) (by omega) rb.cons.cons.cons.cons.cons.cons.cons)) ?_; rintro _ _ ⟨gy2, vly2, vty2, rfl, rfl⟩
    refine TL.opP rfl (op_assign rfl) (TL.opP rfl (op_assign rfl) (TL.nil (TQ.then (TC.seq (TC.block (TC.loop (ι := Nat × List Part × List Part × List Part × List Part × List Part × List Int × List Part × List Int × Value × Value × Value × Value × Value × Value) (fun (f, xs, ys, r, o, lx, tx, ly, ty, mv, ov, vlx, vtx, vly, vty) => [(13, .pointer (some ⟨g13, 0, none⟩)), (14, .pointer (some ⟨g14, 0, none⟩)), (15, .pointer (some ⟨gx1, 0, none⟩)), (16, .pointer (some ⟨gy2, 0, none⟩))]) (fun (f, xs, ys, r, o, lx, tx, ly, ty, mv, ov, vlx, vtx, vly, vty) => .blk g13 (.cells [mv].toArray 73 (0, 0)) :: .row mv 50 3 r.length (encs r.reverse) :: .blk g14 (.cells [ov].toArray 73 (0, 0)) :: .row ov 50 3 o.length (encs o.reverse) :: .blk gx1 (.cells [vlx, vtx].toArray 93 (0, 0)) :: .win vlx 50 3 lx.length (encs lx) :: .rd vtx 1 tx.length (tx.map (Value.int .i32)) :: .blk gy2 (.cells [vly, vty].toArray 93 (0, 0)) :: .win vly 50 3 ly.length (encs ly) :: .rd vty 1 ty.length (ty.map (Value.int .i32)) :: L) (fun (f, xs, ys, r, o, lx, tx, ly, ty, mv, ov, vlx, vtx, vly, vty) => TInv (trR1 a b) (trR2 a b) f xs ys r o lx tx ly ty) (fun (f, xs, ys, r, o, lx, tx, ly, ty, mv, ov, vlx, vtx, vly, vty) => f) ((a.length + b.length, a, b, [], [], a, loadT a [], b, loadT b [], .slice none 0 0, .slice none 0 0, vlx1, vtx1, vly2, vty2)) (hst) ⟨rfl, rfl, rfl, rfl, trivial⟩ (fun _ h => h.pick2.pick2.pick2.pick5.pick5.pick5.pick6.pick7.pick8.pick9) ?_))))))
    rintro ⟨f, xs, ys, r, o, lx, tx, ly, ty, mv, ov, vlx, vtx, vly, vty⟩ (hI : TInv (trR1 a b) (trR2 a b) f xs ys r o lx tx ly ty)
    show TC _ _ _ _ [(13, .pointer (some ⟨g13, 0, none⟩)), (14, .pointer (some ⟨g14, 0, none⟩)), (15, .pointer (some ⟨gx1, 0, none⟩)), (16, .pointer (some ⟨gy2, 0, none⟩))] _ _ (.blk g13 (.cells [mv].toArray 73 (0, 0)) :: .row mv 50 3 r.length (encs r.reverse) :: .blk g14 (.cells [ov].toArray 73 (0, 0)) :: .row ov 50 3 o.length (encs o.reverse) :: .blk gx1 (.cells [vlx, vtx].toArray 93 (0, 0)) :: .win vlx 50 3 lx.length (encs lx) :: .rd vtx 1 tx.length (tx.map (Value.int .i32)) :: .blk gy2 (.cells [vly, vty].toArray 93 (0, 0)) :: .win vly 50 3 ly.length (encs ly) :: .rd vty 1 ty.length (ty.map (Value.int .i32)) :: L)
    refine TC.seq ?_
    refine TC.join1 [(13, .pointer (some ⟨g13, 0, none⟩)), (14, .pointer (some ⟨g14, 0, none⟩)), (15, .pointer (some ⟨gx1, 0, none⟩)), (16, .pointer (some ⟨gy2, 0, none⟩)), (57, .bool (decide (kindL lx ≠ 0 ∨ kindL ly ≠ 0)))] (.blk g13 (.cells [mv].toArray 73 (0, 0)) :: .row mv 50 3 r.length (encs r.reverse) :: .blk g14 (.cells [ov].toArray 73 (0, 0)) :: .row ov 50 3 o.length (encs o.reverse) :: .blk gx1 (.cells [vlx, vtx].toArray 93 (0, 0)) :: .win vlx 50 3 lx.length (encs lx) :: .rd vtx 1 tx.length (tx.map (Value.int .i32)) :: .blk gy2 (.cells [vly, vty].toArray 93 (0, 0)) :: .win vly 50 3 ly.length (encs ly) :: .rd vty 1 ty.length (ty.map (Value.int .i32)) :: L) ?_ ?_
    ·refine TC.region (TL.opP rfl (op_move rfl) (TL.hp (fun _ h => h.pick6.pick6.pick6) ?_))
     refine TL.opX rfl (OpX.callX en_37 rfl (kind_x _ _ _ _ _)) ?_; rintro _ _ ⟨rfl, rfl⟩
     refine TL.opP rfl (op_neq rfl rfl) (TL.opP rfl (op_move rfl) ?_)
     first | refine TL.splitD (fun c4 => ?_) (fun c4 => ?_) | refine TL.splitB (fun c4 => ?_) (fun c4 => ?_)
     ·refine TL.gFt rfl rfl rfl (TL.gFt rfl rfl rfl (TL.gFt rfl rfl rfl (TL.opP rfl (op_pickT rfl rfl) (TL.nil ?_))))
      exact TQ.join1 ⟨rfl, rfl, rfl, rfl, gb rfl (by grind), trivial⟩ (fun _ h => h.pick9.pick9.pick9.pick5.pick5.pick5.pick9.pick9.pick9.pick9)
     ·refine TL.gT rfl rfl (TL.opP rfl (op_move rfl) (TL.gT rfl rfl (TL.hp (fun _ h => h.pick9.pick9.pick9) ?_)))
      refine TL.opX rfl (OpX.callX en_37 rfl (kind_x _ _ _ _ _)) ?_; rintro _ _ ⟨rfl, rfl⟩
      refine TL.gT rfl rfl (TL.opP rfl (op_neq rfl rfl) (TL.opP rfl (op_pickF rfl rfl) (TL.nil ?_)))
      exact TQ.join1 ⟨rfl, rfl, rfl, rfl, gb rfl (by grind), trivial⟩ (fun _ h => h.pick2.pick2.pick2.pick5.pick5.pick5.pick9.pick9.pick9.pick9)
    ·first | refine TC.condD rfl (fun c5 => ?_) (fun c5 => ?_) | refine TC.condB rfl (fun c5 => ?_) (fun c5 => ?_)
     ·refine TC.skip (TQ.then (TC.block (TC.block (TC.seq (TC.region (TL.opP rfl (op_move rfl) (TL.hp (fun _ h => h.pick6.pick6.pick6) ?_)))))))
      refine TL.opX rfl (OpX.callX en_37 rfl (kind_x _ _ _ _ _)) ?_; rintro _ _ ⟨rfl, rfl⟩
      refine TL.opP rfl (op_eql rfl rfl) (TL.opP rfl (op_assign rfl) (TL.nil (TQ.then ?_)))
      first | refine TC.condD rfl (fun c6 => ?_) (fun c6 => ?_) | refine TC.condB rfl (fun c6 => ?_) (fun c6 => ?_)
      ·obtain ⟨q, l, rfl, hq, hmb, hmo, f', xs', hlt, hc⟩ := hI.stepX c6
       refine TC.seq (TC.region (TL.opP rfl (op_move rfl) (TL.opP rfl (op_move rfl) ?_)))
       refine TL.opX rfl (OpX.callX en_39 rfl (left_x _ _ _ _ _ _)) ?_; rintro _ _ ⟨rfl, rfl⟩
       refine TL.opX rfl (OpX.callX en_38 rfl (take_x q l _ (q.n) _ _ _ hq.n0 hq.n1 hq.n2 hq.tx hq.hs)) ?_; rintro _ _ ⟨rfl, vlx7, vtx7, rfl⟩
       refine TL.opX rfl (OpX.alloc tz_api_Part rfl) ?_; rintro _ _ ⟨g17, rfl, rfl⟩
       refine TL.opX0 (OpX.storeS tst_api_Part rfl rfl rfl rfl rfl (List.all_eq_true.1 rfl)) ?_; rintro _ _ rfl
       refine TL.nil (TQ.then (TC.seq (TC.region (TL.opV rfl (op_loadS tst_api_Part rfl m0 rfl) ?_))))
       refine TL.opX rfl (OpX.buildSlice (ps := #[(0, _)]) rfl (bs_api_Part_1 (takeQ q tx q.n))) ?_; rintro _ _ ⟨g90, rfl, rfl⟩
       refine TL.hp (fun _ h => blk_row (k := 3) (m := 1) h rfl (by decide)) (TL.hp (fun _ h => h.pick6.pick6) ?_)
       refine TL.opX rfl (OpX.callX en_31 rfl (add_x [takeQ q tx q.n] r _ _ _ hmb rw0)) ?_; rintro _ _ ⟨rfl, mv8, rfl⟩
       refine TL.nil (TQ.then (TC.region (TL.opP rfl (op_field fld_api_Part_N rfl) (TL.opV rfl (op_load ts_int rfl m3 rfl) (TL.callq rfl en_40 rfl (fun w2 hp => keep_calls _ w2) ?_)))))
       refine TL.opX rfl (OpX.buildSlice (ps := #[(0, _)]) rfl (bs_api_Part_1 (keepP q.n))) ?_; rintro _ _ ⟨g95, rfl, rfl⟩
       refine TL.hp (fun _ h => blk_row (k := 3) (m := 1) h rfl (by decide)) (TL.hp (fun _ h => h.pick9.pick9) ?_)
       refine TL.opX rfl (OpX.callX en_31 rfl (add_x [keepP q.n] o _ _ _ hmo rw0)) ?_; rintro _ _ ⟨rfl, ov9, rfl⟩
       refine TL.nil (TQ.block_normal (TQ.block_normal ?_))
       exact TQ.round (f', _, _, (addRs r [takeQ q tx q.n]), (addRs o [keepP q.n]), (takeL q l (q.n)), (takeT q l tx (q.n)), ly, ty, mv8, ov9, vlx7, vtx7, vly, vty) (by first | exact hc | (rw [if_pos (show p.kind = 1 from c8), if_pos (show q.kind = 1 from c9)] at hc; exact hc) | (rw [if_pos (show p.kind = 1 from c8), if_neg (show ¬ q.kind = 1 from c9)] at hc; exact hc) | (rw [if_neg (show ¬ p.kind = 1 from c8), if_pos (show q.kind = 1 from c10)] at hc; exact hc) | (rw [if_neg (show ¬ p.kind = 1 from c8), if_neg (show ¬ q.kind = 1 from c10)] at hc; exact hc)) (hlt) ⟨rfl, rfl, rfl, rfl, trivial⟩ (fun _ h => h.drop6.drop5.drop2.pick9.pick9.pick9.pick9.pick9.pick9.pick7.pick7.pick9.pick9)
      ·refine TC.seq (TC.region (TL.opP rfl (op_move rfl) (TL.hp (fun _ h => h.pick9.pick9.pick9) ?_)))
       refine TL.opX rfl (OpX.callX en_37 rfl (kind_x _ _ _ _ _)) ?_; rintro _ _ ⟨rfl, rfl⟩
       refine TL.opP rfl (op_eql rfl rfl) (TL.opP rfl (op_assign rfl) (TL.nil (TQ.then ?_)))
       first | refine TC.condD rfl (fun c7 => ?_) (fun c7 => ?_) | refine TC.condB rfl (fun c7 => ?_) (fun c7 => ?_)
       ·obtain ⟨p, l', rfl, hq, hmb, hmo, f', ys', hlt, hc⟩ := hI.stepY c6 c7
        refine TC.seq (TC.region (TL.opP rfl (op_move rfl) (TL.opP rfl (op_move rfl) ?_)))
        refine TL.opX rfl (OpX.callX en_39 rfl (left_x _ _ _ _ _ _)) ?_; rintro _ _ ⟨rfl, rfl⟩
        refine TL.opX rfl (OpX.callX en_38 rfl (take_x p l' _ (p.n) _ _ _ hq.n0 hq.n1 hq.n2 hq.tx hq.hs)) ?_; rintro _ _ ⟨rfl, vly12, vty12, rfl⟩
        refine TL.opX rfl (OpX.alloc tz_api_Part rfl) ?_; rintro _ _ ⟨g18, rfl, rfl⟩
        refine TL.opX0 (OpX.storeS tst_api_Part rfl rfl rfl rfl rfl (List.all_eq_true.1 rfl)) ?_; rintro _ _ rfl
        refine TL.nil (TQ.then (TC.seq (TC.region (TL.opP rfl (op_field fld_api_Part_N rfl) (TL.opV rfl (op_load ts_int rfl m0 rfl) (TL.callq rfl en_40 rfl (fun w2 hp => keep_calls _ w2) ?_))))))
        refine TL.opX rfl (OpX.buildSlice (ps := #[(0, _)]) rfl (bs_api_Part_1 (keepP p.n))) ?_; rintro _ _ ⟨g108, rfl, rfl⟩
        refine TL.hp (fun _ h => blk_row (k := 3) (m := 1) h rfl (by decide)) (TL.hp (fun _ h => h.pick9.pick9) ?_)
        refine TL.opX rfl (OpX.callX en_31 rfl (add_x [keepP p.n] r _ _ _ hmb rw0)) ?_; rintro _ _ ⟨rfl, mv13, rfl⟩
        refine TL.nil (TQ.then (TC.region (TL.opV rfl (op_loadS tst_api_Part rfl m3 rfl) ?_)))
        refine TL.opX rfl (OpX.buildSlice (ps := #[(0, _)]) rfl (bs_api_Part_1 (takeQ p ty p.n))) ?_; rintro _ _ ⟨g111, rfl, rfl⟩
        refine TL.hp (fun _ h => blk_row (k := 3) (m := 1) h rfl (by decide)) (TL.hp (fun _ h => h.pick12.pick12) ?_)
        refine TL.opX rfl (OpX.callX en_31 rfl (add_x [takeQ p ty p.n] o _ _ _ hmo rw0)) ?_; rintro _ _ ⟨rfl, ov14, rfl⟩
        refine TL.nil (TQ.block_normal (TQ.block_normal ?_))
        exact TQ.round (f', _, _, (addRs r [keepP p.n]), (addRs o [takeQ p ty p.n]), lx, tx, (takeL p l' (p.n)), (takeT p l' ty (p.n)), mv13, ov14, vlx, vtx, vly12, vty12) (by first | exact hc | (rw [if_pos (show p.kind = 1 from c8), if_pos (show q.kind = 1 from c9)] at hc; exact hc) | (rw [if_pos (show p.kind = 1 from c8), if_neg (show ¬ q.kind = 1 from c9)] at hc; exact hc) | (rw [if_neg (show ¬ p.kind = 1 from c8), if_pos (show q.kind = 1 from c10)] at hc; exact hc) | (rw [if_neg (show ¬ p.kind = 1 from c8), if_neg (show ¬ q.kind = 1 from c10)] at hc; exact hc)) (hlt) ⟨rfl, rfl, rfl, rfl, trivial⟩ (fun _ h => h.drop6.drop5.drop2.pick6.pick6.pick6.pick9.pick9.pick9.pick7.pick7.pick9.pick9)
       ·obtain ⟨q, l, p, l', rfl, rfl, hq, hp', hmb, hmo, f', xs', ys', hlt, hc⟩ := hI.stepB c5 c6 c7
        refine TC.seq (TC.region (TL.opP rfl (op_move rfl) (TL.hp (fun _ h => h.pick5.pick5.pick5) ?_)))
        refine TL.opX rfl (OpX.callX en_39 rfl (left_x _ _ _ _ _ _)) ?_; rintro _ _ ⟨rfl, rfl⟩
        refine TL.opP rfl (op_move rfl) (TL.hp (fun _ h => h.pick5.pick5.pick5) ?_)
        refine TL.opX rfl (OpX.callX en_39 rfl (left_x _ _ _ _ _ _)) ?_; rintro _ _ ⟨rfl, rfl⟩
        refine TL.opP rfl (op_min rfl) (TL.opP rfl (op_assign rfl) (TL.nil (TQ.then (TC.seq (TC.region (TL.opP rfl (op_move rfl) (TL.opP rfl (op_move rfl) (TL.hp (fun _ h => h.pick5.pick5.pick5) ?_))))))))
        refine TL.opX rfl (OpX.callX en_38 rfl (take_x q l _ (minI q.n p.n) _ _ _ hq.n0 hq.n1 hq.n2 hq.tx hq.hs)) ?_; rintro _ _ ⟨rfl, vlx17, vtx17, rfl⟩
        refine TL.opP rfl (op_move rfl) (TL.opP rfl (op_move rfl) (TL.hp (fun _ h => h.pick5.pick5.pick5) ?_))
        refine TL.opX rfl (OpX.callX en_38 rfl (take_x p l' _ (minI q.n p.n) _ _ _ hp'.n0 hp'.n1 hp'.n2 hp'.tx hp'.hs)) ?_; rintro _ _ ⟨rfl, vly18, vty18, rfl⟩
        refine TL.opX rfl (OpX.alloc tz_api_Part rfl) ?_; rintro _ _ ⟨g20, rfl, rfl⟩
        refine TL.opX rfl (OpX.alloc tz_api_Part rfl) ?_; rintro _ _ ⟨g21, rfl, rfl⟩
        refine TL.hp (fun _ h => h.pick1) ?_
        refine TL.opX0 (OpX.storeS tst_api_Part rfl rfl rfl rfl rfl (List.all_eq_true.1 rfl)) ?_; rintro _ _ rfl
        refine TL.hp (fun _ h => h.pick1) ?_
        refine TL.opX0 (OpX.storeS tst_api_Part rfl rfl rfl rfl rfl (List.all_eq_true.1 rfl)) ?_; rintro _ _ rfl
        refine TL.nil (TQ.then (TC.seq (TC.seq (TC.region (TL.opP rfl (op_field fld_api_Part_Kind rfl) (TL.opV rfl (op_load ts_int rfl m0 rfl) (TL.opP rfl (op_eql rfl rfl) (TL.nil (TQ.then ?_)))))))))
        first | refine TC.condD rfl (fun c8 => ?_) (fun c8 => ?_) | refine TC.condB rfl (fun c8 => ?_) (fun c8 => ?_)
        ·refine TC.region (TL.opV rfl (op_loadS tst_api_Part rfl m1 rfl) ?_)
         refine TL.opX rfl (OpX.buildSlice (ps := #[(0, _)]) rfl (bs_api_Part_1 (takeQ q tx (minI q.n p.n)))) ?_; rintro _ _ ⟨g73, rfl, rfl⟩
         refine TL.hp (fun _ h => blk_row (k := 3) (m := 1) h rfl (by decide)) (TL.hp (fun _ h => h.pick10.pick10) ?_)
         refine TL.opX rfl (OpX.callX en_31 rfl (add_x [takeQ q tx (minI q.n p.n)] r _ _ _ hmb rw0)) ?_; rintro _ _ ⟨rfl, mv19, rfl⟩
         refine TL.nil (TQ.then (TC.seq (TC.region (TL.opP rfl (op_field fld_api_Part_Kind rfl) (TL.opV rfl (op_load ts_int rfl m4 rfl) (TL.opP rfl (op_eql rfl rfl) (TL.nil (TQ.then ?_))))))))
         first | refine TC.condD rfl (fun c9 => ?_) (fun c9 => ?_) | refine TC.condB rfl (fun c9 => ?_) (fun c9 => ?_)
         ·refine TC.region (TL.opV rfl (op_loadS tst_api_Part rfl m3 rfl) ?_)
          refine TL.opX rfl (OpX.buildSlice (ps := #[(0, _)]) rfl (bs_api_Part_1 (takeQ p ty (minI q.n p.n)))) ?_; rintro _ _ ⟨g79, rfl, rfl⟩
          refine TL.hp (fun _ h => blk_row (k := 3) (m := 1) h rfl (by decide)) (TL.hp (fun _ h => h.pick13.pick13) ?_)
          refine TL.opX rfl (OpX.callX en_31 rfl (add_x [takeQ p ty (minI q.n p.n)] o _ _ _ hmo rw0)) ?_; rintro _ _ ⟨rfl, ov20, rfl⟩
          refine TL.nil (TQ.block_normal (TQ.block_normal ?_))
          exact TQ.round (f', _, _, (addRs r [takeQ q tx (minI q.n p.n)]), (addRs o [takeQ p ty (minI q.n p.n)]), (takeL q l (minI q.n p.n)), (takeT q l tx (minI q.n p.n)), (takeL p l' (minI q.n p.n)), (takeT p l' ty (minI q.n p.n)), mv19, ov20, vlx17, vtx17, vly18, vty18) (by first | exact hc | (rw [if_pos (show p.kind = 1 from c8), if_pos (show q.kind = 1 from c9)] at hc; exact hc) | (rw [if_pos (show p.kind = 1 from c8), if_neg (show ¬ q.kind = 1 from c9)] at hc; exact hc) | (rw [if_neg (show ¬ p.kind = 1 from c8), if_pos (show q.kind = 1 from c10)] at hc; exact hc) | (rw [if_neg (show ¬ p.kind = 1 from c8), if_neg (show ¬ q.kind = 1 from c10)] at hc; exact hc)) (hlt) ⟨rfl, rfl, rfl, rfl, trivial⟩ (fun _ h => h.drop7.drop6.drop5.drop2.pick6.pick6.pick6.pick9.pick9.pick9.pick7.pick7.pick9.pick9)
         ·refine TC.skip (TQ.block_normal (TQ.block_normal ?_))
          exact TQ.round (f', _, _, (addRs r [takeQ q tx (minI q.n p.n)]), o, (takeL q l (minI q.n p.n)), (takeT q l tx (minI q.n p.n)), (takeL p l' (minI q.n p.n)), (takeT p l' ty (minI q.n p.n)), mv19, ov, vlx17, vtx17, vly18, vty18) (by first | exact hc | (rw [if_pos (show p.kind = 1 from c8), if_pos (show q.kind = 1 from c9)] at hc; exact hc) | (rw [if_pos (show p.kind = 1 from c8), if_neg (show ¬ q.kind = 1 from c9)] at hc; exact hc) | (rw [if_neg (show ¬ p.kind = 1 from c8), if_pos (show q.kind = 1 from c10)] at hc; exact hc) | (rw [if_neg (show ¬ p.kind = 1 from c8), if_neg (show ¬ q.kind = 1 from c10)] at hc; exact hc)) (hlt) ⟨rfl, rfl, rfl, rfl, trivial⟩ (fun _ h => h.drop4.drop3.drop2.pick4.pick4.pick4.pick7.pick7.pick7.pick9.pick9.pick9.pick9)
        ·refine TC.skip (TQ.then (TC.seq (TC.region (TL.opP rfl (op_field fld_api_Part_Kind rfl) (TL.opV rfl (op_load ts_int rfl m1 rfl) (TL.opP rfl (op_eql rfl rfl) (TL.nil (TQ.then ?_))))))))
         first | refine TC.condD rfl (fun c10 => ?_) (fun c10 => ?_) | refine TC.condB rfl (fun c10 => ?_) (fun c10 => ?_)
         ·refine TC.region (TL.opV rfl (op_loadS tst_api_Part rfl m0 rfl) ?_)
          refine TL.opX rfl (OpX.buildSlice (ps := #[(0, _)]) rfl (bs_api_Part_1 (takeQ p ty (minI q.n p.n)))) ?_; rintro _ _ ⟨g79, rfl, rfl⟩
          refine TL.hp (fun _ h => blk_row (k := 3) (m := 1) h rfl (by decide)) (TL.hp (fun _ h => h.pick12.pick12) ?_)
          refine TL.opX rfl (OpX.callX en_31 rfl (add_x [takeQ p ty (minI q.n p.n)] o _ _ _ hmo rw0)) ?_; rintro _ _ ⟨rfl, ov21, rfl⟩
          refine TL.nil (TQ.block_normal (TQ.block_normal ?_))
          exact TQ.round (f', _, _, r, (addRs o [takeQ p ty (minI q.n p.n)]), (takeL q l (minI q.n p.n)), (takeT q l tx (minI q.n p.n)), (takeL p l' (minI q.n p.n)), (takeT p l' ty (minI q.n p.n)), mv, ov21, vlx17, vtx17, vly18, vty18) (by first | exact hc | (rw [if_pos (show p.kind = 1 from c8), if_pos (show q.kind = 1 from c9)] at hc; exact hc) | (rw [if_pos (show p.kind = 1 from c8), if_neg (show ¬ q.kind = 1 from c9)] at hc; exact hc) | (rw [if_neg (show ¬ p.kind = 1 from c8), if_pos (show q.kind = 1 from c10)] at hc; exact hc) | (rw [if_neg (show ¬ p.kind = 1 from c8), if_neg (show ¬ q.kind = 1 from c10)] at hc; exact hc)) (hlt) ⟨rfl, rfl, rfl, rfl, trivial⟩ (fun _ h => h.drop4.drop3.drop2.pick4.pick4.pick4.pick7.pick7.pick7.pick7.pick7.pick9.pick9)
         ·refine TC.skip (TQ.block_normal (TQ.block_normal ?_))
          exact TQ.round (f', _, _, r, o, (takeL q l (minI q.n p.n)), (takeT q l tx (minI q.n p.n)), (takeL p l' (minI q.n p.n)), (takeT p l' ty (minI q.n p.n)), mv, ov, vlx17, vtx17, vly18, vty18) (by first | exact hc | (rw [if_pos (show p.kind = 1 from c8), if_pos (show q.kind = 1 from c9)] at hc; exact hc) | (rw [if_pos (show p.kind = 1 from c8), if_neg (show ¬ q.kind = 1 from c9)] at hc; exact hc) | (rw [if_neg (show ¬ p.kind = 1 from c8), if_pos (show q.kind = 1 from c10)] at hc; exact hc) | (rw [if_neg (show ¬ p.kind = 1 from c8), if_neg (show ¬ q.kind = 1 from c10)] at hc; exact hc)) (hlt) ⟨rfl, rfl, rfl, rfl, trivial⟩ (fun _ h => h.drop1.tail.pick2.pick2.pick2.pick5.pick5.pick5.pick9.pick9.pick9.pick9)
     ·obtain ⟨rfl, rfl⟩ : r = trR1 a b ∧ o = trR2 a b := hI.stop (by omega) (by omega)
      refine TC.exit (TQ.then_exit (TQ.loop_exit (TQ.block_hit (TQ.then (TC.seq (TC.region ?_))))))
      refine TL.opX rfl (OpX.callX en_34 rfl (done_x _ _ _ hI.texts.1 (.tail _ (.tail _ (.tail _ (.tail _ (.tail _ (.tail _ (.tail _ (.tail _ hT)))))))))) ?_; rintro _ _ ⟨rfl, rfl⟩
      refine TL.opP rfl (op_move rfl) (TL.opP rfl (op_extract rfl rfl) (TL.opP rfl (op_extract rfl rfl) (TL.opP rfl (op_assign rfl) (TL.opP rfl (op_assign rfl) (TL.nil (TQ.then (TC.seq (TC.region (TL.hp (fun _ h => h.pick3.pick3) ?_)))))))))
      refine TL.opX rfl (OpX.callX en_34 rfl (done_x _ _ _ hI.texts.2 (.tail _ (.tail _ (.tail _ (.tail _ (.tail _ (.tail _ (.tail _ (.tail _ hT)))))))))) ?_; rintro _ _ ⟨rfl, rfl⟩
      refine TL.opP rfl (op_move rfl) (TL.opP rfl (op_extract rfl rfl) (TL.opP rfl (op_extract rfl rfl) (TL.opP rfl (op_assign rfl) (TL.opP rfl (op_assign rfl) (TL.nil (TQ.then (TC.seq (TC.seq (TC.region (TL.opP rfl (op_move rfl) (TL.opP rfl (op_not rfl rfl) (TL.opP rfl (op_move rfl) ?_))))))))))))
      first | refine TL.splitD (fun c11 => ?_) (fun c11 => ?_) | refine TL.splitB (fun c11 => ?_) (fun c11 => ?_)
      ·refine TL.gFt rfl rfl rfl (TL.gFt rfl rfl rfl (TL.opP rfl (op_pickT rfl rfl) (TL.nil (TQ.then (TC.condT rfl (TC.seq (TC.region (TL.opP rfl (op_assign rfl) (TL.opP rfl (op_assign rfl) (TL.opP rfl (op_assign rfl) (TL.nil (TQ.then (TC.ret (TQ.then_ret ?_))))))))))))))
       refine ret3 rfl rfl rfl rfl (fun w' hp => ?_)
       first
         | (have hbad : trBad a b := by (unfold trBad; grind)
            exact ⟨_, _, rfl, ⟨.slice none 0 0, .slice none 0 0, by rw [(tr_bad hbad).1], by rw [(tr_bad hbad).2.1, (tr_bad hbad).2.2]; rfl⟩, new_nil _ 3 (new_nil _ 3 (hp.drop9.drop8.drop7.drop6.drop5.drop4.drop3.drop2.drop1.tail))⟩)
         | (have hlong : trLong a b := by (unfold trLong; grind)
            exact ⟨_, _, rfl, ⟨.slice none 0 0, .slice none 0 0, by rw [(tr_long hok hlong).1], by rw [(tr_long hok hlong).2.1, (tr_long hok hlong).2.2]; rfl⟩, new_nil _ 3 (new_nil _ 3 (hp.drop9.drop8.drop7.drop6.drop5.drop4.drop3.drop2.drop1.tail))⟩)
         | (have hlong : ¬ trLong a b := by (unfold trLong; grind)
            exact ⟨_, _, rfl, ⟨mv, ov, by rw [(tr_ok hok hlong).1]; first | done | rfl, by rw [(tr_ok hok hlong).2.1, (tr_ok hok hlong).2.2, List.length_reverse, List.length_reverse]⟩, (hp.drop9.drop8.drop7.drop6.drop5.drop4.drop3.drop2.drop1.tail)⟩)
      ·refine TL.gT rfl rfl (TL.opP rfl (op_move rfl) (TL.gT rfl rfl (TL.opP rfl (op_not rfl rfl) (TL.opP rfl (op_pickF rfl rfl) (TL.nil (TQ.then ?_))))))
       first | refine TC.condD rfl (fun c12 => ?_) (fun c12 => ?_) | refine TC.condB rfl (fun c12 => ?_) (fun c12 => ?_)
       ·refine TC.seq (TC.region (TL.opP rfl (op_assign rfl) (TL.opP rfl (op_assign rfl) (TL.opP rfl (op_assign rfl) (TL.nil (TQ.then (TC.ret (TQ.then_ret ?_))))))))
        refine ret3 rfl rfl rfl rfl (fun w' hp => ?_)
        first
          | (have hbad : trBad a b := by (unfold trBad; grind)
             exact ⟨_, _, rfl, ⟨.slice none 0 0, .slice none 0 0, by rw [(tr_bad hbad).1], by rw [(tr_bad hbad).2.1, (tr_bad hbad).2.2]; rfl⟩, new_nil _ 3 (new_nil _ 3 (hp.drop9.drop8.drop7.drop6.drop5.drop4.drop3.drop2.drop1.tail))⟩)
          | (have hlong : trLong a b := by (unfold trLong; grind)
             exact ⟨_, _, rfl, ⟨.slice none 0 0, .slice none 0 0, by rw [(tr_long hok hlong).1], by rw [(tr_long hok hlong).2.1, (tr_long hok hlong).2.2]; rfl⟩, new_nil _ 3 (new_nil _ 3 (hp.drop9.drop8.drop7.drop6.drop5.drop4.drop3.drop2.drop1.tail))⟩)
          | (have hlong : ¬ trLong a b := by (unfold trLong; grind)
             exact ⟨_, _, rfl, ⟨mv, ov, by rw [(tr_ok hok hlong).1]; first | done | rfl, by rw [(tr_ok hok hlong).2.1, (tr_ok hok hlong).2.2, List.length_reverse, List.length_reverse]⟩, (hp.drop9.drop8.drop7.drop6.drop5.drop4.drop3.drop2.drop1.tail)⟩)
       ·refine TC.skip (TQ.then (TC.seq (TC.region (TL.opP rfl (op_move rfl) (TL.opP rfl (op_move rfl) (TL.opP rfl (op_assign rfl) (TL.opP rfl (op_assign rfl) (TL.opP rfl (op_assign rfl) (TL.nil (TQ.then (TC.ret ?_)))))))))))
        refine ret3 rfl rfl rfl rfl (fun w' hp => ?_)
        first
          | (have hbad : trBad a b := by (unfold trBad; grind)
             exact ⟨_, _, rfl, ⟨.slice none 0 0, .slice none 0 0, by rw [(tr_bad hbad).1], by rw [(tr_bad hbad).2.1, (tr_bad hbad).2.2]; rfl⟩, new_nil _ 3 (new_nil _ 3 (hp.drop9.drop8.drop7.drop6.drop5.drop4.drop2.tail.pick1))⟩)
          | (have hlong : trLong a b := by (unfold trLong; grind)
             exact ⟨_, _, rfl, ⟨.slice none 0 0, .slice none 0 0, by rw [(tr_long hok hlong).1], by rw [(tr_long hok hlong).2.1, (tr_long hok hlong).2.2]; rfl⟩, new_nil _ 3 (new_nil _ 3 (hp.drop9.drop8.drop7.drop6.drop5.drop4.drop2.tail.pick1))⟩)
          | (have hlong : ¬ trLong a b := by (unfold trLong; grind)
             exact ⟨_, _, rfl, ⟨mv, ov, by rw [(tr_ok hok hlong).1]; first | done | rfl, by rw [(tr_ok hok hlong).2.1, (tr_ok hok hlong).2.2, List.length_reverse, List.length_reverse]⟩, (hp.drop9.drop8.drop7.drop6.drop5.drop4.drop2.tail.pick1)⟩)

end Go.SK

set_option linter.unusedVariables false
set_option linter.unusedSimpArgs false
set_option maxRecDepth 100000
namespace Go.SK
open Go Go.RowKit Go.Proofs
variable {S : Nat → Prop} {w0 : World} {F L : List Res}
theorem apply_calls (e : List Part) (s : ByteArray) (v : Value) (hss : s.size ≤ 70368744177664) (w : World) (hT : Tabs w) (hs : ∀ p ∈ e, p.text.size < 9223372036854775807) (hv : RdRow w v 3 e.length (encs e)) :
    Calls Tryd.prog 11 (List.toArray [v, .string s]) w fun e' w' => e' = .returned (.tuple #[.string (applyF e s), .int .i64 (applyE e s)]) ∧ Kp NoB w w' := by
 have hlen : e.length ≤ 9223372036854775807 := by obtain ⟨_, A, c, _, h1, h2, _⟩ := hv; simp only [maxLen] at h2; omega
 have hdl := dec_len s
 refine calls_start Tryd.func11 rfl rfl rfl (Hp.i1 (r := .rd v 3 e.length (encs e)) hv) ?_
 refine TC.seq (TC.region (TL.opP rfl (op_assign rfl) (TL.opP rfl (op_assign rfl) (TL.nil (TQ.then (TC.seq (TC.region (TL.opP rfl (op_move rfl) ?_))))))))
 refine TL.opX rfl (OpX.runes un_string tsl_int32 un_int32 rfl (by omega)) ?_; rintro v1 _ rfl
 refine TL.know (fun _ h => row1 h) (fun o1 => (TL.hp (fun _ h => row_rd h) (TL.opP rfl (op_assign rfl) (TL.nil (TQ.then (TC.seq (TC.seq (TC.region (TL.opP rfl (op_move rfl) (TL.callq rfl en_8 rfl (fun w2 hp => valid_calls s w2 (hT.kp hp.kp) (by omega)) (TL.opP rfl (op_not rfl rfl) (TL.opP rfl (op_move rfl) ?_))))))))))))
 first | refine TL.splitD (fun c1 => ?_) (fun c1 => ?_) | refine TL.splitB (fun c1 => ?_) (fun c1 => ?_)
 ·refine TL.gFt rfl rfl rfl (TL.gFt rfl rfl rfl (TL.gFt rfl rfl rfl (TL.gFt rfl rfl rfl (TL.gFt rfl rfl rfl (TL.opP rfl (op_pickT rfl rfl) (TL.nil (TQ.then (TC.condT rfl (TC.seq (TC.region (TL.opP rfl (op_assign rfl) (TL.opP rfl (op_assign rfl) (TL.nil (TQ.then (TC.ret (TQ.then_ret ?_))))))))))))))))
  refine ret2 rfl rfl rfl (fun w' hp => ?_)
  first
    | (have hbad : applyBad e s := by (unfold applyBad; grind)
       exact ⟨by rw [(apply_bad hbad).1, (apply_bad hbad).2], hp.kp⟩)
    | exact ⟨by rw [(apply_ok hok).1, (apply_ok hok).2, ← hI.stop (by omega)], hp.kp⟩
 ·refine TL.gT rfl rfl (TL.opP rfl (op_move rfl) (TL.gT rfl rfl (TL.opP rfl (op_move rfl) (TL.gT rfl rfl (TL.opV rfl (op_lenV rfl un_sl_int32 rfl rd0) (TL.gT rfl rfl (TL.callq rfl en_25 rfl (fun w2 hp => check_calls e _ v w2 (hT.kp hp.kp) hs (rd1 _ _ _ hp)) (TL.gT rfl rfl (TL.opP rfl (op_neq rfl rfl) (TL.opP rfl (op_pickF rfl rfl) (TL.nil (TQ.then ?_))))))))))))
  first | refine TC.condD rfl (fun c2 => ?_) (fun c2 => ?_) | refine TC.condB rfl (fun c2 => ?_) (fun c2 => ?_)
  ·refine TC.seq (TC.region (TL.opP rfl (op_assign rfl) (TL.opP rfl (op_assign rfl) (TL.nil (TQ.then (TC.ret (TQ.then_ret ?_)))))))
   refine ret2 rfl rfl rfl (fun w' hp => ?_)
   first
     | (have hbad : applyBad e s := by (unfold applyBad; grind)
        exact ⟨by rw [(apply_bad hbad).1, (apply_bad hbad).2], hp.kp⟩)
     | exact ⟨by rw [(apply_ok hok).1, (apply_ok hok).2, ← hI.stop (by omega)], hp.kp⟩
  ·have hok : ¬ applyBad e s := by unfold applyBad; grind
   have hfit := (ok_facts hok).2.2.2.1
   refine TC.skip (TQ.then (TC.seq (TC.region (TL.opP rfl (op_move rfl) (TL.opV rfl (op_lenV rfl un_sl_int32 rfl rd0) ?_)))))
   refine TL.opX rfl (OpX.make0 (m := (dec s).length) tsl_int32 rfl rfl rfl (by decide) (by omega)) ?_; rintro v2 _ rfl
   refine TL.know (fun _ h => row1 h) (fun o2 => (TL.opP rfl (op_assign rfl) (TL.nil (TQ.then (TC.seq (TC.seq (TC.region (TL.opP rfl (op_move rfl) (TL.opV rfl (op_lenV rfl un_sl_api_Part rfl rd2) (TL.opP rfl (op_move rfl) (TL.nil (TQ.then (TC.block (TC.loop (ι := Nat × List Int × List Int × Value × Value) (fun (k, l, out, lv, ov) => [(6, lv), (7, ov), (25, v), (26, .int .i64 (e.length : Int)), (27, .int .i64 (k : Int))]) (fun (k, l, out, lv, ov) => [.rd lv 1 l.length (l.map (Value.int .i32)), .row ov 21 1 out.length (out.map (Value.int .i32)), .rd v 3 e.length (encs e)]) (fun (k, l, out, lv, ov) => AInv e k l out (apGo e (dec s) [])) (fun (k, l, out, lv, ov) => e.length - k) ((0, dec s, [], v1, v2)) (AInv.start hok) ⟨rfl, rfl, rfl, rfl, rfl, trivial⟩ (fun _ h => h.pick2.pick1.pick2) ?_))))))))))))))
   rintro ⟨k, l, out, lv, ov⟩ (hI : AInv e k l out (apGo e (dec s) []))
   have hk := hI.kle
   have hto := hI.to_
   show TC _ _ _ _ [(6, lv), (7, ov), (25, v), (26, .int .i64 (e.length : Int)), (27, .int .i64 (k : Int))] _ _ ([.rd lv 1 l.length (l.map (Value.int .i32)), .row ov 21 1 out.length (out.map (Value.int .i32)), .rd v 3 e.length (encs e)])
   refine TC.seq (TC.region (TL.opP rfl (op_lss rfl rfl) (TL.nil (TQ.then (TC.seq ?_)))))
   first | refine TC.condD rfl (fun c3 => ?_) (fun c3 => ?_) | refine TC.condB rfl (fun c3 => ?_) (fun c3 => ?_)
   ·have hkl : k < e.length := by omega
    obtain ⟨p, hpk⟩ : ∃ p, e.getD k default = p := ⟨_, rfl⟩
    have hd := drop_getD hkl hpk
    have hpe : p ∈ e := by rw [← hpk, List.getD_eq_getElem?_getD, List.getElem?_eq_getElem hkl]; exact List.getElem_mem hkl
    have hfd := fromS_pos (fun q hq => hfit q (List.mem_of_mem_drop hq) : Fits (e.drop k))
    refine TC.skip (TQ.then (TC.seq (TC.block (TC.seq (TC.region (TL.opV rfl (op_index tsl_api_Part rfl rd2 rfl (by omega) (by omega)) (TL.opV rfl (op_loadRS tst_api_Part rfl rd2 (cs := p.cs) rfl (lkS hkl hpk) (by decide)) ?_)))))))
    refine TL.opX rfl (OpX.alloc tz_api_Part rfl) ?_; rintro _ _ ⟨g9, rfl, rfl⟩
    refine TL.opX0 (OpX.storeS tst_api_Part rfl rfl rfl rfl rfl (List.all_eq_true.1 rfl)) ?_; rintro _ _ rfl
    refine TL.nil (TQ.then (TC.seq (TC.region (TL.opP rfl (op_field fld_api_Part_Kind rfl) (TL.opV rfl (op_load ts_int rfl m0 rfl) (TL.nil (TQ.then (TC.block (TC.seq (TC.region (TL.opP rfl (op_eql rfl rfl) (TL.opP rfl (op_assign rfl) (TL.nil (TQ.then ?_))))))))))))))
    first | refine TC.condD rfl (fun c4 => ?_) (fun c4 => ?_) | refine TC.condB rfl (fun c4 => ?_) (fun c4 => ?_)
    ·obtain ⟨hln, hp0, hc⟩ := hI.stepK hfit hkl hpk c4
     have hct := hc.to_
     rw [List.length_append, List.length_take] at hct
     have hfd2 := fromS_pos (fun q hq => hfit q (List.mem_of_mem_drop hq) : Fits (e.drop (k + 1)))
     refine TC.drawS (.blk g9 (.cells p.cs.toArray 50 (0, 0)) :: .rd lv 1 l.length (l.map (Value.int .i32)) :: [.rd v 3 e.length (encs e)]) [] (.cons (.p, 0) (.cons (.p, 1) (.cons (.p, 2) (.cons (.t, 3) (.cons (.t, 4) (.cons (.p, 6) (.cons (.p, 7) (.cons (.t, 8) (.cons (.t, 9) (.cons (.o, 5) (.cons (.p, 10) (.cons (.p, 11) (.nil))))))))))))) mo (by kernel_rfl) (TR.p rfl rfl wt0 (op_move rfl) (TR.p rfl rfl wt0 (op_move rfl) (TR.p rfl rfl wt0 (op_field fld_api_Part_N rfl) (TR.t rfl rfl wt0 (op_load ts_int rfl m0 rfl) (fun _ h => h.drop2) (TR.t rfl rfl wt0 (op_cut 0 p.n.toNat tsl_int32 rfl rd1 (vlo := none) (vhi := (some _)) rfl rfl (.inl ⟨rfl, rfl⟩) (.inr ⟨_, _, rfl, by omega⟩) (by omega) (by omega)) (fun _ h => h.drop2) ?_)))))
     refine TR.p rfl rfl wt0 (op_move rfl) (TR.p rfl rfl wt0 (op_field fld_api_Part_N rfl) (TR.t rfl rfl wt0 (op_load ts_int rfl m0 rfl) (fun _ h => h.drop2) (TR.t rfl rfl wt0 (op_cut p.n.toNat l.length tsl_int32 rfl rd1 (vlo := (some _)) (vhi := none) rfl rfl (.inr ⟨_, _, rfl, by omega⟩) (.inl ⟨rfl, rfl⟩) (by omega) (by omega)) (fun _ h => h.drop2) (TR.hp (fun _ h => h.pick2) ?_))))
     refine TR.o rfl rfl wt0 (OpX.append (bytes := 4) tsl_int32 (by decide) (by decide) rfl (Rdb.ints_take rd2 p.n.toNat hln) (ints_one _) (by omega) (zs := (out ++ l.take p.n.toNat).map (Value.int .i32)) (by simp)) (by rintro v3 _ rfl; intro w h; exact h.tail) ?_; rintro v3 _ rfl
     refine TR.know (fun _ h => row1 h) (fun o3 => (TR.hp (fun _ h => row_len1 h) (TR.p rfl rfl wt0 (op_assign rfl) (TR.p rfl rfl wt0 (op_assign rfl) (TR.hp (fun _ h => h.pick2) (TR.hp (fun _ h => rd_drop h p.n.toNat hln) (TR.nil (TQ.block_normal (TQ.block_normal (TQ.then (TC.region (TL.opP rfl (op_add rfl rfl rfl (by omega) (by omega)) (TL.opP rfl (op_move rfl) (TL.nil ?_))))))))))))))
     exact TQ.round (k + 1, (l.drop p.n.toNat), (out ++ l.take p.n.toNat), (Value.cut lv p.n.toNat l.length 1), v3) (hc) (by show _ - (k + 1) < _ - k; omega) ⟨rfl, rfl, rfl, rfl, rfl, trivial⟩ (fun _ h => h.drop2)
    ·refine TC.seq (TC.region (TL.opP rfl (op_eql rfl rfl) (TL.opP rfl (op_assign rfl) (TL.nil (TQ.then ?_)))))
     first | refine TC.condD rfl (fun c5 => ?_) (fun c5 => ?_) | refine TC.condB rfl (fun c5 => ?_) (fun c5 => ?_)
     ·obtain ⟨hln, hp0, hc⟩ := hI.stepD hfit hkl hpk c4 c5
      refine TC.region (TL.opP rfl (op_move rfl) (TL.opP rfl (op_field fld_api_Part_N rfl) (TL.opV rfl (op_load ts_int rfl m0 rfl) (TL.opV rfl (op_cut p.n.toNat l.length tsl_int32 rfl rd1 (vlo := (some _)) (vhi := none) rfl rfl (.inr ⟨_, _, rfl, by omega⟩) (.inl ⟨rfl, rfl⟩) (by omega) (by omega)) (TL.opP rfl (op_assign rfl) (TL.hp (fun _ h => h.pick1) (TL.hp (fun _ h => rd_drop h p.n.toNat hln) (TL.nil (TQ.block_normal (TQ.block_normal (TQ.then (TC.region (TL.opP rfl (op_add rfl rfl rfl (by omega) (by omega)) (TL.opP rfl (op_move rfl) (TL.nil ?_)))))))))))))))
      exact TQ.round (k + 1, (l.drop p.n.toNat), out, (Value.cut lv p.n.toNat l.length 1), ov) (hc) (by show _ - (k + 1) < _ - k; omega) ⟨rfl, rfl, rfl, rfl, rfl, trivial⟩ (fun _ h => h.drop1)
     ·obtain ⟨hln, hc⟩ := hI.stepP hfit hkl hpk c4 c5
      have hct := hc.to_
      rw [List.length_append] at hct
      have hfd2 := fromS_pos (fun q hq => hfit q (List.mem_of_mem_drop hq) : Fits (e.drop (k + 1)))
      refine TC.region (TL.opP rfl (op_move rfl) (TL.opP rfl (op_field fld_api_Part_Text rfl) (TL.opV rfl (op_load ts_string rfl m0 rfl) ?_)))
      refine TL.opX rfl (OpX.runes un_string tsl_int32 un_int32 rfl (by omega)) ?_; rintro v4 _ rfl
      refine TL.know (fun _ h => row1 h) (fun o4 => (TL.hp (fun _ h => h.pick3) ?_))
      refine TL.opX rfl (OpX.append (bytes := 4) tsl_int32 (by decide) (by decide) rfl rw1 (ints_one _) (by omega) (zs := (out ++ dec p.text).map (Value.int .i32)) (by simp)) ?_; rintro v5 _ rfl
      refine TL.know (fun _ h => row1 h) (fun o5 => (TL.hp (fun _ h => row_len1 h) (TL.opP rfl (op_assign rfl) (TL.nil (TQ.block_normal (TQ.block_normal (TQ.then (TC.region (TL.opP rfl (op_add rfl rfl rfl (by omega) (by omega)) (TL.opP rfl (op_move rfl) (TL.nil ?_)))))))))))
      exact TQ.round (k + 1, l, (out ++ dec p.text), lv, v5) (hc) (by show _ - (k + 1) < _ - k; omega) ⟨rfl, rfl, rfl, rfl, rfl, trivial⟩ (fun _ h => h.drop2.drop1.pick2.pick1.pick2)
   ·refine TC.exit (TQ.then_exit (TQ.loop_exit (TQ.block_hit (TQ.then (TC.seq (TC.region (TL.opP rfl (op_move rfl) (TL.opV rfl (op_unrunes tsl_int32 un_int32 un_string rfl rw1) (TL.opP rfl (op_assign rfl) (TL.opP rfl (op_assign rfl) (TL.nil (TQ.then (TC.ret ?_)))))))))))))
    refine ret2 rfl rfl rfl (fun w' hp => ?_)
    first
      | (have hbad : applyBad e s := by (unfold applyBad; grind)
         exact ⟨by rw [(apply_bad hbad).1, (apply_bad hbad).2], hp.kp⟩)
      | exact ⟨by rw [(apply_ok hok).1, (apply_ok hok).2, ← hI.stop (by omega)], hp.kp⟩

theorem invert_x (e : List Part) (s : ByteArray) (v : Value) (hss : s.size ≤ 70368744177664) (hs : ∀ p ∈ e, p.text.size < 9223372036854775807) (hl : e.length ≤ 137438953472) (hT : tabs ∈ L) (hr : Rdb L v 3 e.length (encs e)) :
    CallX Tryd.prog 18 [v, .string s] S w0 (L) (fun u L' => ∃ v', u = .tuple #[v', .int .i64 (invE e s)] ∧ L' = .row v' 50 3 (invF e s).length (encs (invF e s)) :: L) := by
 intro w hp
 have hdl := dec_len s
 refine calls_start Tryd.func18 rfl rfl rfl (hp) ?_
 refine TC.seq (TC.region (TL.opP rfl (op_assign rfl) (TL.opP rfl (op_assign rfl) (TL.nil (TQ.then (TC.seq (TC.region (TL.opP rfl (op_move rfl) ?_))))))))
 refine TL.opX rfl (OpX.runes un_string tsl_int32 un_int32 rfl (by omega)) ?_; rintro v1 _ rfl
 refine TL.know (fun _ h => row1 h) (fun o1 => (TL.hp (fun _ h => row_rd h) (TL.opP rfl (op_assign rfl) (TL.nil (TQ.then (TC.seq (TC.seq (TC.region (TL.opP rfl (op_move rfl) (TL.callq rfl en_8 rfl (fun w2 hp => valid_calls s w2 (tabs_at hp (.tail _ hT)) (by omega)) (TL.opP rfl (op_not rfl rfl) (TL.opP rfl (op_move rfl) ?_))))))))))))
 first | refine TL.splitD (fun c1 => ?_) (fun c1 => ?_) | refine TL.splitB (fun c1 => ?_) (fun c1 => ?_)
 ·refine TL.gFt rfl rfl rfl (TL.gFt rfl rfl rfl (TL.gFt rfl rfl rfl (TL.gFt rfl rfl rfl (TL.gFt rfl rfl rfl (TL.opP rfl (op_pickT rfl rfl) (TL.nil (TQ.then (TC.condT rfl (TC.seq (TC.region (TL.opP rfl (op_assign rfl) (TL.opP rfl (op_assign rfl) (TL.nil (TQ.then (TC.ret (TQ.then_ret ?_))))))))))))))))
  refine ret2 rfl rfl rfl (fun w' hp => ?_)
  first
    | (have hbad : applyBad e s := by (unfold applyBad; grind)
       exact ⟨_, _, rfl, ⟨.slice none 0 0, by rw [(inv_bad hbad).1], by rw [(inv_bad hbad).2]; rfl⟩, new_nil _ 3 (hp.tail)⟩)
    | exact ⟨_, _, rfl, ⟨.slice none 0 0, by rw [(inv_long hok (by grind)).1], by rw [(inv_long hok (by grind)).2]; rfl⟩, new_nil _ 3 (hp.tail)⟩
    | exact ⟨_, _, rfl, ⟨«v:mr?», by rw [(inv_ok hok (by grind)).1]; first | done | rfl, by rw [(inv_ok hok (by grind)).2, List.length_reverse]⟩, (hp.tail)⟩
 ·refine TL.gT rfl rfl (TL.opP rfl (op_move rfl) (TL.gT rfl rfl (TL.opP rfl (op_move rfl) (TL.gT rfl rfl (TL.opV rfl (op_lenV rfl un_sl_int32 rfl rd0) (TL.gT rfl rfl (TL.callq rfl en_25 rfl (fun w2 hp => check_calls e _ v w2 (tabs_at hp (.tail _ hT)) hs (hr.cons _ _ _ hp)) (TL.gT rfl rfl (TL.opP rfl (op_neq rfl rfl) (TL.opP rfl (op_pickF rfl rfl) (TL.nil (TQ.then ?_))))))))))))
  first | refine TC.condD rfl (fun c2 => ?_) (fun c2 => ?_) | refine TC.condB rfl (fun c2 => ?_) (fun c2 => ?_)
  ·refine TC.seq (TC.region (TL.opP rfl (op_assign rfl) (TL.opP rfl (op_assign rfl) (TL.nil (TQ.then (TC.ret (TQ.then_ret ?_)))))))
   refine ret2 rfl rfl rfl (fun w' hp => ?_)
   first
     | (have hbad : applyBad e s := by (unfold applyBad; grind)
        exact ⟨_, _, rfl, ⟨.slice none 0 0, by rw [(inv_bad hbad).1], by rw [(inv_bad hbad).2]; rfl⟩, new_nil _ 3 (hp.tail)⟩)
     | exact ⟨_, _, rfl, ⟨.slice none 0 0, by rw [(inv_long hok (by grind)).1], by rw [(inv_long hok (by grind)).2]; rfl⟩, new_nil _ 3 (hp.tail)⟩
     | exact ⟨_, _, rfl, ⟨«v:mr?», by rw [(inv_ok hok (by grind)).1]; first | done | rfl, by rw [(inv_ok hok (by grind)).2, List.length_reverse]⟩, (hp.tail)⟩
  ·have hok : ¬ applyBad e s := by unfold applyBad; grind
   have hfit := (ok_facts hok).2.2.2.1
   refine TC.skip (TQ.then (TC.seq (TC.region ?_)))
   refine TL.opX rfl (OpX.alloc tz_edit_maker rfl) ?_; rintro _ _ ⟨g7, rfl, rfl⟩
   refine TL.hp (fun _ h => new_nil 50 3 h) (TL.nil (TQ.then (TC.seq (TC.seq (TC.region (TL.opP rfl (op_move rfl) (TL.opV rfl (op_lenV rfl un_sl_api_Part rfl hr.cons.cons.cons) (TL.opP rfl (op_move rfl) (TL.nil (TQ.then (TC.block (TC.loop (ι := Nat × List Int × List Part × Value × Value) (fun (k, l, r, lv, mv) => [(6, lv), (7, .pointer (some ⟨g7, 0, none⟩)), (24, v), (25, .int .i64 (e.length : Int)), (26, .int .i64 (k : Int))]) (fun (k, l, r, lv, mv) => .blk g7 (.cells [mv].toArray 73 (0, 0)) :: .row mv 50 3 r.length (encs r.reverse) :: .rd lv 1 l.length (l.map (Value.int .i32)) :: L) (fun (k, l, r, lv, mv) => IInv e k l r (invR e s)) (fun (k, l, r, lv, mv) => e.length - k) ((0, dec s, [], v1, .slice none 0 0)) (IInv.start hok hl) ⟨rfl, rfl, rfl, rfl, rfl, trivial⟩ (fun _ h => h.pick2.pick1.pick2) ?_))))))))))))
   rintro ⟨k, l, r, lv, mv⟩ (hI : IInv e k l r (invR e s))
   have hk := hI.kle
   show TC _ _ _ _ [(6, lv), (7, .pointer (some ⟨g7, 0, none⟩)), (24, v), (25, .int .i64 (e.length : Int)), (26, .int .i64 (k : Int))] _ _ (.blk g7 (.cells [mv].toArray 73 (0, 0)) :: .row mv 50 3 r.length (encs r.reverse) :: .rd lv 1 l.length (l.map (Value.int .i32)) :: L)
   refine TC.seq (TC.region (TL.opP rfl (op_lss rfl rfl) (TL.nil (TQ.then (TC.seq ?_)))))
   first | refine TC.condD rfl (fun c3 => ?_) (fun c3 => ?_) | refine TC.condB rfl (fun c3 => ?_) (fun c3 => ?_)
   ·have hkl : k < e.length := by omega
    obtain ⟨p, hpk⟩ : ∃ p, e.getD k default = p := ⟨_, rfl⟩
    have hd := drop_getD hkl hpk
    have hpe : p ∈ e := by rw [← hpk, List.getD_eq_getElem?_getD, List.getElem?_eq_getElem hkl]; exact List.getElem_mem hkl
    refine TC.skip (TQ.then (TC.seq (TC.block (TC.seq (TC.region (TL.opV rfl (op_index tsl_api_Part rfl hr.cons.cons.cons rfl (by omega) (by omega)) (TL.opV rfl (op_loadRS tst_api_Part rfl hr.cons.cons.cons (cs := p.cs) rfl (lkS hkl hpk) (by decide)) ?_)))))))
    refine TL.opX rfl (OpX.alloc tz_api_Part rfl) ?_; rintro _ _ ⟨g9, rfl, rfl⟩
    refine TL.opX0 (OpX.storeS tst_api_Part rfl rfl rfl rfl rfl (List.all_eq_true.1 rfl)) ?_; rintro _ _ rfl
    refine TL.nil (TQ.then (TC.seq (TC.region (TL.opP rfl (op_field fld_api_Part_Kind rfl) (TL.opV rfl (op_load ts_int rfl m0 rfl) (TL.nil (TQ.then (TC.block (TC.seq (TC.region (TL.opP rfl (op_eql rfl rfl) (TL.opP rfl (op_assign rfl) (TL.nil (TQ.then ?_))))))))))))))
    first | refine TC.condD rfl (fun c4 => ?_) (fun c4 => ?_) | refine TC.condB rfl (fun c4 => ?_) (fun c4 => ?_)
    ·obtain ⟨hln, hp0, hmb, hc⟩ := hI.stepK hfit hkl hpk c4
     refine TC.seq (TC.region (TL.opV rfl (op_loadS tst_api_Part rfl m0 rfl) ?_))
     refine TL.opX rfl (OpX.buildSlice (ps := #[(0, _)]) rfl (bs_api_Part_1 p)) ?_; rintro _ _ ⟨g40, rfl, rfl⟩
     refine TL.hp (fun _ h => blk_row (k := 3) (m := 1) h rfl (by decide)) (TL.hp (fun _ h => h.pick3.pick3) ?_)
     refine TL.opX rfl (OpX.callX en_31 rfl (add_x [p] r _ _ _ hmb rw0)) ?_; rintro _ _ ⟨rfl, mv2, rfl⟩
     refine TL.nil (TQ.then (TC.region (TL.opP rfl (op_move rfl) (TL.opP rfl (op_field fld_api_Part_N rfl) (TL.opV rfl (op_load ts_int rfl m3 rfl) (TL.opV rfl (op_cut p.n.toNat l.length tsl_int32 rfl rd4 (vlo := (some _)) (vhi := none) rfl rfl (.inr ⟨_, _, rfl, by omega⟩) (.inl ⟨rfl, rfl⟩) (by omega) (by omega)) (TL.opP rfl (op_assign rfl) (TL.hp (fun _ h => h.pick4) (TL.hp (fun _ h => rd_drop h p.n.toNat hln) (TL.nil (TQ.block_normal (TQ.block_normal (TQ.then (TC.region (TL.opP rfl (op_add rfl rfl rfl (by omega) (by omega)) (TL.opP rfl (op_move rfl) (TL.nil ?_)))))))))))))))))
     exact TQ.round (k + 1, (l.drop p.n.toNat), (addRs r [p]), (Value.cut lv p.n.toNat l.length 1), mv2) (hc) (by show _ - (k + 1) < _ - k; omega) ⟨rfl, rfl, rfl, rfl, rfl, trivial⟩ (fun _ h => h.drop4.drop3.pick2.pick2)
    ·refine TC.seq (TC.region (TL.opP rfl (op_eql rfl rfl) (TL.opP rfl (op_assign rfl) (TL.nil (TQ.then ?_)))))
     first | refine TC.condD rfl (fun c5 => ?_) (fun c5 => ?_) | refine TC.condB rfl (fun c5 => ?_) (fun c5 => ?_)
     ·obtain ⟨hln, hp0, hp1, hmb, hc⟩ := hI.stepD hfit hkl hpk c4 c5
      refine TC.seq (TC.region (TL.opP rfl (op_move rfl) (TL.opP rfl (op_field fld_api_Part_N rfl) (TL.opV rfl (op_load ts_int rfl m0 rfl) (TL.opV rfl (op_cut 0 p.n.toNat tsl_int32 rfl rd3 (vlo := none) (vhi := (some _)) rfl rfl (.inl ⟨rfl, rfl⟩) (.inr ⟨_, _, rfl, by omega⟩) (by omega) (by omega)) (TL.opV rfl (op_unrunes tsl_int32 un_int32 un_string rfl (Rdb.ints_take rd3 p.n.toNat hln)) ?_))))))
      refine TL.callq rfl en_32 rfl (fun w2 hp => put_calls _ w2 (by have := (enc_size (l.take p.n.toNat)).2; rw [List.length_take] at this; omega)) ?_
      refine TL.opX rfl (OpX.buildSlice (ps := #[(0, _)]) rfl (bs_api_Part_1 (putP (enc (l.take p.n.toNat))))) ?_; rintro _ _ ⟨g54, rfl, rfl⟩
      refine TL.hp (fun _ h => blk_row (k := 3) (m := 1) h rfl (by decide)) (TL.hp (fun _ h => h.pick3.pick3) ?_)
      refine TL.opX rfl (OpX.callX en_31 rfl (add_x [putP (enc (l.take p.n.toNat))] r _ _ _ hmb rw0)) ?_; rintro _ _ ⟨rfl, mv3, rfl⟩
      refine TL.nil (TQ.then (TC.region (TL.opP rfl (op_move rfl) (TL.opP rfl (op_field fld_api_Part_N rfl) (TL.opV rfl (op_load ts_int rfl m3 rfl) (TL.opV rfl (op_cut p.n.toNat l.length tsl_int32 rfl rd4 (vlo := (some _)) (vhi := none) rfl rfl (.inr ⟨_, _, rfl, by omega⟩) (.inl ⟨rfl, rfl⟩) (by omega) (by omega)) (TL.opP rfl (op_assign rfl) (TL.hp (fun _ h => h.pick4) (TL.hp (fun _ h => rd_drop h p.n.toNat hln) (TL.nil (TQ.block_normal (TQ.block_normal (TQ.then (TC.region (TL.opP rfl (op_add rfl rfl rfl (by omega) (by omega)) (TL.opP rfl (op_move rfl) (TL.nil ?_)))))))))))))))))
      exact TQ.round (k + 1, (l.drop p.n.toNat), (addRs r [putP (enc (l.take p.n.toNat))]), (Value.cut lv p.n.toNat l.length 1), mv3) (hc) (by show _ - (k + 1) < _ - k; omega) ⟨rfl, rfl, rfl, rfl, rfl, trivial⟩ (fun _ h => h.drop4.drop3.pick2.pick2)
     ·obtain ⟨hmb, hc⟩ := hI.stepP hfit hkl hpk c4 c5
      refine TC.region (TL.opP rfl (op_field fld_api_Part_N rfl) (TL.opV rfl (op_load ts_int rfl m0 rfl) (TL.callq rfl en_33 rfl (fun w2 hp => drop_calls _ w2) ?_)))
      refine TL.opX rfl (OpX.buildSlice (ps := #[(0, _)]) rfl (bs_api_Part_1 (dropP p.n))) ?_; rintro _ _ ⟨g35, rfl, rfl⟩
      refine TL.hp (fun _ h => blk_row (k := 3) (m := 1) h rfl (by decide)) (TL.hp (fun _ h => h.pick3.pick3) ?_)
      refine TL.opX rfl (OpX.callX en_31 rfl (add_x [dropP p.n] r _ _ _ hmb rw0)) ?_; rintro _ _ ⟨rfl, mv4, rfl⟩
      refine TL.nil (TQ.block_normal (TQ.block_normal (TQ.then (TC.region (TL.opP rfl (op_add rfl rfl rfl (by omega) (by omega)) (TL.opP rfl (op_move rfl) (TL.nil ?_)))))))
      exact TQ.round (k + 1, l, (addRs r [dropP p.n]), lv, mv4) (hc) (by show _ - (k + 1) < _ - k; omega) ⟨rfl, rfl, rfl, rfl, rfl, trivial⟩ (fun _ h => h.drop3.drop2)
   ·obtain rfl : r = invR e s := hI.stop (by omega)
    refine TC.exit (TQ.then_exit (TQ.loop_exit (TQ.block_hit (TQ.then (TC.seq (TC.region ?_))))))
    refine TL.opX rfl (OpX.callX en_34 rfl (done_x _ _ _ (hI.texts hfit) (.tail _ hT))) ?_; rintro _ _ ⟨rfl, rfl⟩
    refine TL.opP rfl (op_move rfl) (TL.opP rfl (op_extract rfl rfl) (TL.opP rfl (op_extract rfl rfl) (TL.opP rfl (op_assign rfl) (TL.opP rfl (op_assign rfl) (TL.nil (TQ.then (TC.seq (TC.seq (TC.region (TL.opP rfl (op_move rfl) (TL.opP rfl (op_not rfl rfl) (TL.nil (TQ.then ?_)))))))))))))
    first | refine TC.condD rfl (fun c6 => ?_) (fun c6 => ?_) | refine TC.condB rfl (fun c6 => ?_) (fun c6 => ?_)
    ·refine TC.seq (TC.region (TL.opP rfl (op_assign rfl) (TL.opP rfl (op_assign rfl) (TL.nil (TQ.then (TC.ret (TQ.then_ret ?_)))))))
     refine ret2 rfl rfl rfl (fun w' hp => ?_)
     first
       | (have hbad : applyBad e s := by (unfold applyBad; grind)
          exact ⟨_, _, rfl, ⟨.slice none 0 0, by rw [(inv_bad hbad).1], by rw [(inv_bad hbad).2]; rfl⟩, new_nil _ 3 (hp.drop2.drop1.tail)⟩)
       | exact ⟨_, _, rfl, ⟨.slice none 0 0, by rw [(inv_long hok (by grind)).1], by rw [(inv_long hok (by grind)).2]; rfl⟩, new_nil _ 3 (hp.drop2.drop1.tail)⟩
       | exact ⟨_, _, rfl, ⟨mv, by rw [(inv_ok hok (by grind)).1]; first | done | rfl, by rw [(inv_ok hok (by grind)).2, List.length_reverse]⟩, (hp.drop2.drop1.tail)⟩
    ·refine TC.skip (TQ.then (TC.seq (TC.region (TL.opP rfl (op_move rfl) (TL.opP rfl (op_assign rfl) (TL.opP rfl (op_assign rfl) (TL.nil (TQ.then (TC.ret ?_)))))))))
     refine ret2 rfl rfl rfl (fun w' hp => ?_)
     first
       | (have hbad : applyBad e s := by (unfold applyBad; grind)
          exact ⟨_, _, rfl, ⟨.slice none 0 0, by rw [(inv_bad hbad).1], by rw [(inv_bad hbad).2]; rfl⟩, new_nil _ 3 (hp.drop2.tail)⟩)
       | exact ⟨_, _, rfl, ⟨.slice none 0 0, by rw [(inv_long hok (by grind)).1], by rw [(inv_long hok (by grind)).2]; rfl⟩, new_nil _ 3 (hp.drop2.tail)⟩
       | exact ⟨_, _, rfl, ⟨mv, by rw [(inv_ok hok (by grind)).1]; first | done | rfl, by rw [(inv_ok hok (by grind)).2, List.length_reverse]⟩, (hp.drop2.tail)⟩





end Go.SK
