/- Walks: what fits, and sizes. Walks: the maker. Walks: the small functions of edit. Walks: applying, one form (for texts that need no more of E4 to E7). -/
import Derived.Test.YtpomdenbgdgbhaaDoorNC
import Derived.Test.YtpomdenbgdgbhaaDoorT
import Derived.Test.YtpomdenbgdgbhaaDoorSh
import Derived.Lib.TrimU
set_option linter.unusedVariables false
set_option linter.unusedSimpArgs false
set_option maxRecDepth 100000
namespace Go.SK
open Go Go.RowKit Go.Proofs
def Tabs (w : World) : Prop := Lib.Utf8Tabs (Tryd.laysValid_ren.g 3) (Tryd.laysValid_ren.g 4) w
theorem Tabs.bound {w : World} (h : Tabs w) (k : Nat) (hk : k = Tryd.laysValid_ren.g 3 ∨ k = Tryd.laysValid_ren.g 4) : k < w.heap.size := by
  rcases hk with rfl | rfl
  · exact World.block_lt_of_cell? w _ (h.1 0 (by omega))
  · exact World.block_lt_of_cell? w _ (h.2 0 (by omega)).1
theorem Tabs.move {w w' : World} (h : Tabs w) (hm : ∀ k, (k = Tryd.laysValid_ren.g 3 ∨ k = Tryd.laysValid_ren.g 4) → w'.heap[k]? = w.heap[k]?) : Tabs w' :=
  ⟨fun c hc => (World.cell?_of_block (hm _ (.inl rfl))).trans (h.1 c hc), fun i hi => ⟨(World.cell?_of_block (hm _ (.inr rfl))).trans (h.2 i hi).1, (World.cell?_of_block (hm _ (.inr rfl))).trans (h.2 i hi).2⟩⟩
theorem Tabs.kp {w w' : World} (h : Tabs w) (k : Kp NoB w w') : Tabs w' := h.move fun g hg => k.block g (h.bound g hg) (fun x => x)
/-- The tables, as an entry of the heap's list. -/
def tabs : Res := .ro (fun k => k = Tryd.laysValid_ren.g 3 ∨ k = Tryd.laysValid_ren.g 4) Tabs (fun _ _ hm h => h.move hm) (fun _ h => h.bound)
theorem tabs_at {S : Nat → Prop} {w0 w : World} {L : List Res} (h : Hp S w0 w L) (hm : tabs ∈ L) : Tabs w := h.at_ _ hm
theorem valid_calls (s : ByteArray) (w : World) (hT : Tabs w) (hs : s.size ≤ 9223372036854775807) : Calls Tryd.prog 18 (List.toArray [.string s]) w fun e w' => e = .returned (.bool (valid s)) ∧ Kp NoB w w' :=
  (Any.utf8_ValidString Tryd.laysValid s w hs hT).mono fun e w' h => ⟨h.1, Kp.of_below h.2⟩
theorem rcount_calls (s : ByteArray) (w : World) (hs : s.size < 9223372036854775807) : Calls Tryd.prog 32 (List.toArray [.string s]) w fun e w' => e = .returned (.int .i64 (rcount s)) ∧ Kp NoB w w' :=
  (Tryd.utf8_RuneCountInString s w hs).mono fun e w' h => ⟨h.1, by obtain ⟨p, rfl⟩ := h.2; exact Kp.iter w s p⟩
theorem fits_calls (p : Part) (w : World) (hT : Tabs w) (hs : p.text.size < 9223372036854775807) :
    Calls Tryd.prog 110 (List.toArray [p.val]) w fun e w' => e = .returned (.bool (fitsB p)) ∧ Kp NoB w w' := by
 refine calls_start Tryd.func110 rfl rfl rfl (Hp.init0 w) ?_
 refine TC.seq (TC.region ?_)
 refine TL.opX rfl (OpX.box (cs := _) rfl rfl) ?_; rintro _ _ ⟨g1, rfl, rfl⟩
 refine TL.as rfl rfl (TL.nil (TQ.then (TC.seq (TC.seq (TC.region (TL.opP rfl (op_field fld_api_Part_N rfl) (TL.opV rfl (op_load ts_int rfl m0 rfl) (TL.opP rfl (op_lss rfl rfl) (TL.opP rfl (op_move rfl) ?_)))))))))
 refine TL.sp (fun c1 => ?_) (fun c1 => ?_)
 ·refine TL.gFt rfl rfl rfl (TL.gFt rfl rfl rfl (TL.gFt rfl rfl rfl (TL.opP rfl (op_pickT rfl rfl) (TL.nil (TQ.then (TC.condT rfl (TC.seq (TC.region (TL.as rfl rfl (TL.nil (TQ.then (TC.ret (TQ.then_ret ?_)))))))))))))
  refine ret1 rfl rfl (fun w' hp => ?_)
  exact ⟨by grind [fitsB], hp.kp⟩
 ·refine TL.gT rfl rfl (TL.opP rfl (op_field fld_api_Part_N rfl) (TL.gT rfl rfl (TL.opV rfl (op_load ts_int rfl m0 rfl) (TL.gT rfl rfl (TL.opP rfl (op_gtr rfl rfl) (TL.opP rfl (op_pickF rfl rfl) (TL.nil (TQ.then ?_))))))))
  refine TC.sp rfl (fun c2 => ?_) (fun c2 => ?_)
  ·refine TC.seq (TC.region (TL.as rfl rfl (TL.nil (TQ.then (TC.ret (TQ.then_ret ?_))))))
   refine ret1 rfl rfl (fun w' hp => ?_)
   exact ⟨by grind [fitsB], hp.kp⟩
  ·refine TC.skip (TQ.then (TC.seq (TC.seq (TC.region (TL.opP rfl (op_field fld_api_Part_Kind rfl) (TL.opV rfl (op_load ts_int rfl m0 rfl) (TL.nil (TQ.then (TC.block (TC.seq (TC.seq (TC.region (TL.opP rfl (op_eql rfl rfl) (TL.as rfl rfl (TL.nil (TQ.then ?_))))))))))))))))
   refine TC.sp rfl (fun c3 => ?_) (fun c3 => ?_)
   ·refine TC.skip (TQ.then (TC.condT rfl (TC.seq (TC.region (TL.opP rfl (op_field fld_api_Part_Text rfl) (TL.opV rfl (op_load ts_string rfl m0 rfl) (TL.opP rfl (op_seql rfl rfl) (TL.as rfl rfl (TL.nil (TQ.then (TC.ret (TQ.block_ret (TQ.then_ret ?_)))))))))))))
    refine ret1 rfl rfl (fun w' hp => ?_)
    exact ⟨by grind [fitsB], hp.kp⟩
   ·refine TC.region (TL.opP rfl (op_eql rfl rfl) (TL.as rfl rfl (TL.nil (TQ.then ?_))))
    refine TC.sp rfl (fun c4 => ?_) (fun c4 => ?_)
    ·refine TC.seq (TC.region (TL.opP rfl (op_field fld_api_Part_Text rfl) (TL.opV rfl (op_load ts_string rfl m0 rfl) (TL.opP rfl (op_seql rfl rfl) (TL.as rfl rfl (TL.nil (TQ.then (TC.ret (TQ.block_ret (TQ.then_ret ?_))))))))))
     refine ret1 rfl rfl (fun w' hp => ?_)
     exact ⟨by grind [fitsB], hp.kp⟩
    ·refine TC.skip (TQ.block_normal (TQ.then (TC.seq (TC.draw [] (.cons (.p, 0) (.cons (.t, 1) (.cons (.p, 2) (.cons (.p, 3) (.cons (.p, 4) (.cons (.t, 5) (.cons (.t, 6) (.cons (.p, 7) (.cons (.p, 8) (.cons (.p, 9) (.cons (.p, 12) (.cons (.t, 10) (.cons (.t, 11) (.cons (.t, 13) (.cons (.p, 14) (.cons (.p, 15) (.cons (.p, 16) (.nil)))))))))))))))))) mo (by kernel_rfl) (TR.p rfl rfl wt0 (op_field fld_api_Part_Kind rfl) (TR.t rfl rfl wt0 (op_load ts_int rfl m0 rfl) (fun _ h => h) (TR.p rfl rfl wt0 (op_eql rfl rfl) (TR.p rfl rfl wt0 (op_move rfl) ?_))))))))
     first | refine TR.splitD (fun c5 => ?_) (fun c5 => ?_) | refine TR.splitB (fun c5 => ?_) (fun c5 => ?_)
     ·refine TR.p rfl rfl (by exact wtT rfl rfl) (op_field fld_api_Part_Text rfl) (TR.t rfl rfl (by exact wtT rfl rfl) (op_load ts_string rfl m0 rfl) (fun _ h => h) (TR.tcall rfl rfl (by exact wtT rfl rfl) en_18 rfl (fun w2 hp => valid_calls _ _ (hT.kp hp.kp) (by omega)) (fun _ h => h) (TR.p rfl rfl wt0 (op_pickT rfl rfl) (TR.p rfl rfl wt0 (op_move rfl) ?_))))
      first | refine TR.splitD (fun c6 => ?_) (fun c6 => ?_) | refine TR.splitB (fun c6 => ?_) (fun c6 => ?_)
      ·refine TR.p rfl rfl (by exact wtT rfl rfl) (op_field fld_api_Part_Text rfl) (TR.p rfl rfl (by exact wtT rfl rfl) (op_field fld_api_Part_N rfl) (TR.t rfl rfl (by exact wtT rfl rfl) (op_load ts_string rfl m0 rfl) (fun _ h => h) (TR.tcall rfl rfl (by exact wtT rfl rfl) en_32 rfl (fun w2 hp => rcount_calls _ _ hs) (fun _ h => h) (TR.t rfl rfl (by exact wtT rfl rfl) (op_load ts_int rfl m0 rfl) (fun _ h => h) (TR.p rfl rfl (by exact wtT rfl rfl) (op_eql rfl rfl) (TR.p rfl rfl wt0 (op_pickT rfl rfl) (TR.p rfl rfl wt0 (op_assign rfl) (TR.nil (TQ.then (TC.ret ?_))))))))))
       refine ret1 rfl rfl (fun w' hp => ?_)
       exact ⟨by grind [fitsB], hp.kp⟩
      ·refine TR.off rfl rfl (by exact wtFf rfl rfl) (TR.off rfl rfl (by exact wtFf rfl rfl) (TR.offT rfl rfl (by exact wtFf rfl rfl) (fun _ h => h) (TR.offT rfl rfl (by exact wtFf rfl rfl) (fun _ h => h) (TR.offT rfl rfl (by exact wtFf rfl rfl) (fun _ h => h) (TR.off rfl rfl (by exact wtFf rfl rfl) (TR.p rfl rfl wt0 (op_pickF rfl rfl) (TR.p rfl rfl wt0 (op_assign rfl) (TR.nil (TQ.then (TC.ret ?_))))))))))
       refine ret1 rfl rfl (fun w' hp => ?_)
       exact ⟨by grind [fitsB], hp.kp⟩
     ·refine TR.off rfl rfl (by exact wtFf rfl rfl) (TR.offT rfl rfl (by exact wtFf rfl rfl) (fun _ h => h) (TR.offT rfl rfl (by exact wtFf rfl rfl) (fun _ h => h) (TR.p rfl rfl wt0 (op_pickF rfl rfl) (TR.p rfl rfl wt0 (op_move rfl) (TR.off rfl rfl (by exact wtFf rfl rfl) (TR.off rfl rfl (by exact wtFf rfl rfl) (TR.offT rfl rfl (by exact wtFf rfl rfl) (fun _ h => h) (TR.offT rfl rfl (by exact wtFf rfl rfl) (fun _ h => h) (TR.offT rfl rfl (by exact wtFf rfl rfl) (fun _ h => h) (TR.off rfl rfl (by exact wtFf rfl rfl) (TR.p rfl rfl wt0 (op_pickF rfl rfl) (TR.p rfl rfl wt0 (op_assign rfl) (TR.nil (TQ.then (TC.ret ?_)))))))))))))))
      refine ret1 rfl rfl (fun w' hp => ?_)
      exact ⟨by grind [fitsB], hp.kp⟩

theorem sizes_calls (e : List Part) (v : Value) (w : World) (hT : Tabs w) (hs : ∀ p ∈ e, p.text.size < 9223372036854775807) (hv : RdRow w v 3 e.length (encs e)) :
    Calls Tryd.prog 102 (List.toArray [v]) w fun e' w' => e' = .returned (.tuple #[.int .i64 (sizesF e).1, .int .i64 (sizesF e).2.1, .bool (sizesF e).2.2]) ∧ Kp NoB w w' := by
 have hlen : e.length ≤ 9223372036854775807 := by obtain ⟨_, A, c, _, h1, h2, _⟩ := hv; simp only [maxLen] at h2; omega
 refine calls_start Tryd.func102 rfl rfl rfl (Hp.i1 (r := .rd v 3 e.length (encs e)) hv) ?_
 refine TC.seq (TC.region (TL.as rfl rfl (TL.as rfl rfl (TL.as rfl rfl (TL.nil (TQ.then (TC.seq (TC.seq (TC.region (TL.mv rfl rfl (TL.opV rfl (op_lenV rfl un_sl_api_Part rfl rd0) (TL.mv rfl rfl (TL.nil (TQ.then (TC.block (TC.loop (ι := Nat × Int × Int) (fun (k, f, t) => [(0, v), (2, .int .i64 f), (3, .int .i64 t), (7, v), (8, .int .i64 (e.length : Int)), (9, .int .i64 (k : Int))]) (fun (k, f, t) => [.rd v 3 e.length (encs e)]) (fun (k, f, t) => k ≤ e.length ∧ sizesGo (prevAt e k) (e.drop k) f t = sizesF e ∧ 0 ≤ f ∧ f ≤ 1099511627776 ∧ 0 ≤ t ∧ t ≤ 1099511627776) (fun (k, f, t) => e.length - k) ((0, 0, 0)) (⟨Nat.zero_le _, rfl, by omega, by omega, by omega, by omega⟩) ⟨rfl, rfl, rfl, rfl, rfl, rfl, trivial⟩ (fun _ h => h) ?_))))))))))))))))
 rintro ⟨k, f, t⟩ ⟨hk, hgo, hf0, hf1, ht0, ht1⟩
 show TC _ _ _ _ [(0, v), (2, .int .i64 f), (3, .int .i64 t), (7, v), (8, .int .i64 (e.length : Int)), (9, .int .i64 (k : Int))] _ _ ([.rd v 3 e.length (encs e)])
 refine TC.seq (TC.region (TL.opP rfl (op_lss rfl rfl) (TL.nil (TQ.then (TC.seq ?_)))))
 refine TC.sp rfl (fun c1 => ?_) (fun c1 => ?_)
 ·have hkl : k < e.length := by omega
  obtain ⟨p, hpk⟩ : ∃ p, e.getD k default = p := ⟨_, rfl⟩
  have hd := drop_getD hkl hpk
  have hpe : p ∈ e := by rw [← hpk, List.getD_eq_getElem?_getD, List.getElem?_eq_getElem hkl]; exact List.getElem_mem hkl
  refine TC.skip (TQ.then (TC.seq (TC.block (TC.seq (TC.region (TL.mv rfl rfl (TL.opV rfl (op_index tsl_api_Part rfl rd0 rfl (by omega) (by omega)) (TL.opV rfl (op_loadRS tst_api_Part rfl rd0 (cs := p.cs) rfl (lkS hkl hpk) (by decide)) ?_))))))))
  refine TL.opX rfl (OpX.alloc tz_api_Part rfl) ?_; rintro _ _ ⟨g6, rfl, rfl⟩
  refine TL.opP rfl (op_assign rfl) ?_
  refine TL.opX0 (OpX.storeS tst_api_Part rfl rfl rfl rfl rfl (List.all_eq_true.1 rfl)) ?_; rintro _ _ rfl
  refine TL.nil (TQ.then (TC.seq ?_))
  refine TC.join1 [(0, v), (2, .int .i64 f), (3, .int .i64 t), (7, v), (8, .int .i64 (e.length : Int)), (9, .int .i64 (k : Int)), (5, .int .i64 (k : Int)), (6, .pointer (some ⟨g6, 0, none⟩)), (45, .bool (stopB (prevAt e k) p))] ([.blk g6 (.cells p.cs.toArray 104 (0, 0)), .rd v 3 e.length (encs e)]) ?_ ?_
  ·refine TC.draw [] (.cons (.t, 0) (.cons (.t, 1) (.cons (.p, 2) (.cons (.p, 3) (.cons (.p, 4) (.cons (.p, 5) (.cons (.p, 6) (.cons (.p, 7) (.cons (.p, 8) (.cons (.p, 9) (.cons (.p, 13) (.cons (.t, 10) (.cons (.p, 11) (.cons (.t, 12) (.cons (.t, 14) (.cons (.p, 15) (.cons (.p, 16) (.cons (.p, 17) (.cons (.p, 18) (.cons (.p, 19) (.cons (.t, 20) (.cons (.p, 21) (.cons (.t, 22) (.cons (.p, 23) (.cons (.p, 24) (.cons (.p, 25) (.cons (.t, 26) (.cons (.p, 27) (.cons (.p, 28) (.cons (.p, 29) (.cons (.p, 30) (.cons (.p, 31) (.nil))))))))))))))))))))))))))))))))) mo (by kernel_rfl) (TR.t rfl rfl wt0 (op_loadS tst_api_Part rfl m0 rfl) (fun _ h => h) (TR.tcall rfl rfl wt0 en_110 rfl (fun w2 hp => fits_calls p w2 (hT.kp hp.kp) (hs p hpe)) (fun _ h => h) ?_))
   refine TR.p rfl rfl wt0 (op_not rfl rfl) (TR.p rfl rfl wt0 (op_move rfl) ?_)
   first | refine TR.splitD (fun c2 => ?_) (fun c2 => ?_) | refine TR.splitB (fun c2 => ?_) (fun c2 => ?_)
   ·refine TR.off rfl rfl (by exact wtFt rfl rfl) (TR.off rfl rfl (by exact wtFt rfl rfl) (TR.off rfl rfl (by exact wtFt rfl rfl) (TR.off rfl rfl (by exact wtU rfl rfl) (TR.off rfl rfl (by exact wtU rfl rfl) (TR.off rfl rfl (by exact wtU rfl rfl) (TR.off rfl rfl (by exact wtU rfl rfl) (TR.offT rfl rfl (by exact wtU rfl rfl) (fun _ h => h) (TR.off rfl rfl (by exact wtU rfl rfl) (TR.offT rfl rfl (by exact wtU rfl rfl) (fun _ h => h) (TR.offT rfl rfl (by exact wtU rfl rfl) (fun _ h => h) (TR.off rfl rfl (by exact wtU rfl rfl) (TR.off rfl rfl (by exact wtU rfl rfl) (TR.off rfl rfl (by exact wtU rfl rfl) (TR.off rfl rfl (by exact wtU rfl rfl) (TR.off rfl rfl (by exact wtU rfl rfl) (TR.offT rfl rfl (by exact wtU rfl rfl) (fun _ h => h) ?_))))))))))))))))
    refine TR.off rfl rfl (by exact wtU rfl rfl) (TR.offT rfl rfl (by exact wtU rfl rfl) (fun _ h => h) (TR.off rfl rfl (by exact wtU rfl rfl) (TR.off rfl rfl (by exact wtU rfl rfl) (TR.off rfl rfl (by exact wtU rfl rfl) (TR.offT rfl rfl (by exact wtU rfl rfl) (fun _ h => h) (TR.off rfl rfl (by exact wtU rfl rfl) (TR.off rfl rfl (by exact wtU rfl rfl) (TR.off rfl rfl (by exact wtU rfl rfl) (TR.off rfl rfl (by exact wtFt rfl rfl) (TR.p rfl rfl wt0 (op_pickT rfl rfl) (TR.nil ?_)))))))))))
    exact TQ.join1 ⟨rfl, rfl, rfl, rfl, rfl, rfl, rfl, rfl, gb rfl (by grind [stopB, prevAt]), trivial⟩ (fun _ h => h)
   ·refine TR.p rfl rfl (by exact wtT rfl rfl) (op_move rfl) (TR.p rfl rfl (by exact wtT rfl rfl) (op_gtr rfl rfl) (TR.p rfl rfl (by exact wtT rfl rfl) (op_move rfl) ?_))
    first | refine TR.splitD (fun c3 => ?_) (fun c3 => ?_) | refine TR.splitB (fun c3 => ?_) (fun c3 => ?_)
    ·refine TR.p rfl rfl (by exact wtT rfl rfl) (op_move rfl) (TR.p rfl rfl (by exact wtT rfl rfl) (op_move rfl) (TR.p rfl rfl (by exact wtT rfl rfl) (op_sub rfl rfl rfl (by omega) (by omega)) (TR.p rfl rfl (by exact wtT rfl rfl) (op_field fld_api_Part_Kind rfl) (TR.t rfl rfl (by exact wtT rfl rfl) (op_index tsl_api_Part rfl rd1 rfl (by omega) (by omega)) (fun _ h => h) (TR.p rfl rfl (by exact wtT rfl rfl) (op_fieldA fld_api_Part_Kind rfl) ?_)))))
     refine TR.t rfl rfl (by exact wtT rfl rfl) (op_loadR ts_int rfl rd1 (lk (xs := e) (i := k-1) (j := 0) (by omega) (by show _ = (k-1)*3+0; omega) rfl)) (fun _ h => h) ?_
     refine TR.t rfl rfl (by exact wtT rfl rfl) (op_load ts_int rfl m0 rfl) (fun _ h => h) (TR.p rfl rfl (by exact wtT rfl rfl) (op_eql rfl rfl) (TR.p rfl rfl (by exact wtT rfl rfl) (op_move rfl) ?_))
     first | refine TR.splitD (fun c4 => ?_) (fun c4 => ?_) | refine TR.splitB (fun c4 => ?_) (fun c4 => ?_)
     ·refine TR.off rfl rfl (by exact wtFt rfl rfl) (TR.off rfl rfl (by exact wtFt rfl rfl) (TR.off rfl rfl (by exact wtFt rfl rfl) (TR.offT rfl rfl (by exact wtFt rfl rfl) (fun _ h => h) (TR.off rfl rfl (by exact wtFt rfl rfl) (TR.offT rfl rfl (by exact wtFt rfl rfl) (fun _ h => h) (TR.off rfl rfl (by exact wtFt rfl rfl) (TR.off rfl rfl (by exact wtFt rfl rfl) (TR.off rfl rfl (by exact wtU rfl rfl) (TR.offT rfl rfl (by exact wtU rfl rfl) (fun _ h => h) (TR.off rfl rfl (by exact wtU rfl rfl) (TR.off rfl rfl (by exact wtFt rfl rfl) (TR.p rfl rfl (by exact wtT rfl rfl) (op_pickT rfl rfl) (TR.p rfl rfl (by exact wtT rfl rfl) (op_pickT rfl rfl) (TR.p rfl rfl wt0 (op_pickF rfl rfl) (TR.nil ?_)))))))))))))))
      exact TQ.join1 ⟨rfl, rfl, rfl, rfl, rfl, rfl, rfl, rfl, gb rfl (by grind [stopB, prevAt]), trivial⟩ (fun _ h => h)
     ·refine TR.p rfl rfl (by exact wtT rfl rfl) (op_move rfl) (TR.p rfl rfl (by exact wtT rfl rfl) (op_move rfl) (TR.p rfl rfl (by exact wtT rfl rfl) (op_sub rfl rfl rfl (by omega) (by omega)) (TR.t rfl rfl (by exact wtT rfl rfl) (op_index tsl_api_Part rfl rd1 rfl (by omega) (by omega)) (fun _ h => h) (TR.p rfl rfl (by exact wtT rfl rfl) (op_fieldA fld_api_Part_Kind rfl) ?_))))
      refine TR.t rfl rfl (by exact wtT rfl rfl) (op_loadR ts_int rfl rd1 (lk (xs := e) (i := k-1) (j := 0) (by omega) (by show _ = (k-1)*3+0; omega) rfl)) (fun _ h => h) ?_
      refine TR.p rfl rfl (by exact wtT rfl rfl) (op_eql rfl rfl) (TR.p rfl rfl (by exact wtT rfl rfl) (op_move rfl) ?_)
      first | refine TR.splitD (fun c5 => ?_) (fun c5 => ?_) | refine TR.splitB (fun c5 => ?_) (fun c5 => ?_)
      ·refine TR.p rfl rfl (by exact wtT rfl rfl) (op_field fld_api_Part_Kind rfl) (TR.t rfl rfl (by exact wtT rfl rfl) (op_load ts_int rfl m0 rfl) (fun _ h => h) (TR.p rfl rfl (by exact wtT rfl rfl) (op_eql rfl rfl) (TR.p rfl rfl (by exact wtT rfl rfl) (op_pickT rfl rfl) (TR.p rfl rfl (by exact wtT rfl rfl) (op_pickF rfl rfl) (TR.p rfl rfl (by exact wtT rfl rfl) (op_pickT rfl rfl) (TR.p rfl rfl wt0 (op_pickF rfl rfl) (TR.nil ?_)))))))
       exact TQ.join1 ⟨rfl, rfl, rfl, rfl, rfl, rfl, rfl, rfl, gb rfl (by grind [stopB, prevAt]), trivial⟩ (fun _ h => h)
      ·refine TR.off rfl rfl (by exact wtFf rfl rfl) (TR.offT rfl rfl (by exact wtFf rfl rfl) (fun _ h => h) (TR.off rfl rfl (by exact wtFf rfl rfl) (TR.p rfl rfl (by exact wtT rfl rfl) (op_pickF rfl rfl) (TR.p rfl rfl (by exact wtT rfl rfl) (op_pickF rfl rfl) (TR.p rfl rfl (by exact wtT rfl rfl) (op_pickT rfl rfl) (TR.p rfl rfl wt0 (op_pickF rfl rfl) (TR.nil ?_)))))))
       exact TQ.join1 ⟨rfl, rfl, rfl, rfl, rfl, rfl, rfl, rfl, gb rfl (by grind [stopB, prevAt]), trivial⟩ (fun _ h => h)
    ·refine TR.off rfl rfl (by exact wtFf rfl rfl) (TR.off rfl rfl (by exact wtFf rfl rfl) (TR.off rfl rfl (by exact wtFf rfl rfl) (TR.off rfl rfl (by exact wtFf rfl rfl) (TR.offT rfl rfl (by exact wtFf rfl rfl) (fun _ h => h) (TR.off rfl rfl (by exact wtFf rfl rfl) (TR.offT rfl rfl (by exact wtFf rfl rfl) (fun _ h => h) (TR.offT rfl rfl (by exact wtFf rfl rfl) (fun _ h => h) (TR.off rfl rfl (by exact wtFf rfl rfl) (TR.off rfl rfl (by exact wtFf rfl rfl) (TR.off rfl rfl (by exact wtU rfl rfl) (TR.off rfl rfl (by exact wtU rfl rfl) (TR.off rfl rfl (by exact wtU rfl rfl) (TR.offT rfl rfl (by exact wtU rfl rfl) (fun _ h => h) (TR.off rfl rfl (by exact wtU rfl rfl) (TR.offT rfl rfl (by exact wtU rfl rfl) (fun _ h => h) ?_)))))))))))))))
     refine TR.off rfl rfl (by exact wtU rfl rfl) (TR.off rfl rfl (by exact wtU rfl rfl) (TR.off rfl rfl (by exact wtU rfl rfl) (TR.offT rfl rfl (by exact wtU rfl rfl) (fun _ h => h) (TR.off rfl rfl (by exact wtU rfl rfl) (TR.off rfl rfl (by exact wtU rfl rfl) (TR.off rfl rfl (by exact wtFf rfl rfl) (TR.p rfl rfl (by exact wtT rfl rfl) (op_pickF rfl rfl) (TR.p rfl rfl wt0 (op_pickF rfl rfl) (TR.nil ?_)))))))))
     exact TQ.join1 ⟨rfl, rfl, rfl, rfl, rfl, rfl, rfl, rfl, gb rfl (by grind [stopB, prevAt]), trivial⟩ (fun _ h => h)
  ·refine TC.sp rfl (fun c6 => ?_) (fun c6 => ?_)
   ·refine TC.seq (TC.region (TL.as rfl rfl (TL.as rfl rfl (TL.as rfl rfl (TL.nil (TQ.then (TC.ret (TQ.then_ret (TQ.block_ret (TQ.then_ret (TQ.loop_ret (TQ.block_ret (TQ.then_ret ?_)))))))))))))
    refine ret3 rfl rfl rfl rfl (fun w' hp => ?_)
    exact ⟨by rw [← hgo]; first | (rw [List.drop_eq_nil_of_le (by omega)]; rfl) | (rw [hd]; simp only [sizesGo]; grind [addF, addT]), hp.kp⟩
   ·have hfit := fitsB_n (stopB_fits c6)
    refine TC.skip (TQ.then (TC.seq (TC.seq (TC.region (TL.opP rfl (op_field fld_api_Part_Kind rfl) (TL.opV rfl (op_load ts_int rfl m0 rfl) (TL.opP rfl (op_neq rfl rfl) (TL.nil (TQ.then ?_)))))))))
    refine TC.sp rfl (fun c7 => ?_) (fun c7 => ?_)
    ·refine TC.region (TL.mv rfl rfl (TL.opP rfl (op_field fld_api_Part_N rfl) (TL.opV rfl (op_load ts_int rfl m0 rfl) (TL.opP rfl (op_add rfl rfl rfl (by omega) (by omega)) (TL.as rfl rfl (TL.nil (TQ.then (TC.seq (TC.seq (TC.region (TL.opP rfl (op_field fld_api_Part_Kind rfl) (TL.opV rfl (op_load ts_int rfl m0 rfl) (TL.opP rfl (op_neq rfl rfl) (TL.nil (TQ.then ?_)))))))))))))))
     refine TC.sp rfl (fun c8 => ?_) (fun c8 => ?_)
     ·refine TC.region (TL.mv rfl rfl (TL.opP rfl (op_field fld_api_Part_N rfl) (TL.opV rfl (op_load ts_int rfl m0 rfl) (TL.opP rfl (op_add rfl rfl rfl (by omega) (by omega)) (TL.as rfl rfl (TL.nil (TQ.then (TC.seq (TC.region (TL.mv rfl rfl (TL.opP rfl (op_gtr rfl rfl) (TL.opP rfl (op_move rfl) ?_))))))))))))
      refine TL.sp (fun c9 => ?_) (fun c9 => ?_)
      ·refine TL.gFt rfl rfl rfl (TL.gFt rfl rfl rfl (TL.opP rfl (op_pickT rfl rfl) (TL.nil (TQ.then (TC.condT rfl (TC.seq (TC.region (TL.as rfl rfl (TL.as rfl rfl (TL.as rfl rfl (TL.nil (TQ.then (TC.ret (TQ.block_ret (TQ.then_ret (TQ.loop_ret (TQ.block_ret (TQ.then_ret ?_))))))))))))))))))
       refine ret3 rfl rfl rfl rfl (fun w' hp => ?_)
       exact ⟨by rw [← hgo]; first | (rw [List.drop_eq_nil_of_le (by omega)]; rfl) | (rw [hd]; simp only [sizesGo]; grind [addF, addT]), hp.kp⟩
      ·refine TL.gT rfl rfl (TL.mv rfl rfl (TL.gT rfl rfl (TL.opP rfl (op_gtr rfl rfl) (TL.opP rfl (op_pickF rfl rfl) (TL.nil (TQ.then ?_))))))
       refine TC.sp rfl (fun c10 => ?_) (fun c10 => ?_)
       ·refine TC.seq (TC.region (TL.as rfl rfl (TL.as rfl rfl (TL.as rfl rfl (TL.nil (TQ.then (TC.ret (TQ.block_ret (TQ.then_ret (TQ.loop_ret (TQ.block_ret (TQ.then_ret ?_))))))))))))
        refine ret3 rfl rfl rfl rfl (fun w' hp => ?_)
        exact ⟨by rw [← hgo]; first | (rw [List.drop_eq_nil_of_le (by omega)]; rfl) | (rw [hd]; simp only [sizesGo]; grind [addF, addT]), hp.kp⟩
       ·refine TC.skip (TQ.block_normal (TQ.then (TC.region (TL.opP rfl (op_add rfl rfl rfl (by omega) (by omega)) (TL.mv rfl rfl (TL.nil ?_))))))
        exact TQ.round (k + 1, addF p f, addT p t) (⟨by omega, by simp only [prevAt, Nat.add_sub_cancel, hpk]; rw [if_neg (by omega)]; rw [← hgo, hd, sizesGo, c6]; grind [addF, addT], by grind [addF], by grind [addF], by grind [addT], by grind [addT]⟩) (by show _ - (k + 1) < _ - k; omega) ⟨rfl, gi rfl (by grind [addF]), gi rfl (by grind [addT]), rfl, rfl, rfl, trivial⟩ (fun _ h => h.tail)
     ·refine TC.skip (TQ.then (TC.seq (TC.region (TL.mv rfl rfl (TL.opP rfl (op_gtr rfl rfl) (TL.opP rfl (op_move rfl) ?_))))))
      refine TL.sp (fun c11 => ?_) (fun c11 => ?_)
      ·refine TL.gFt rfl rfl rfl (TL.gFt rfl rfl rfl (TL.opP rfl (op_pickT rfl rfl) (TL.nil (TQ.then (TC.condT rfl (TC.seq (TC.region (TL.as rfl rfl (TL.as rfl rfl (TL.as rfl rfl (TL.nil (TQ.then (TC.ret (TQ.block_ret (TQ.then_ret (TQ.loop_ret (TQ.block_ret (TQ.then_ret ?_))))))))))))))))))
       refine ret3 rfl rfl rfl rfl (fun w' hp => ?_)
       exact ⟨by rw [← hgo]; first | (rw [List.drop_eq_nil_of_le (by omega)]; rfl) | (rw [hd]; simp only [sizesGo]; grind [addF, addT]), hp.kp⟩
      ·refine TL.gT rfl rfl (TL.mv rfl rfl (TL.gT rfl rfl (TL.opP rfl (op_gtr rfl rfl) (TL.opP rfl (op_pickF rfl rfl) (TL.nil (TQ.then ?_))))))
       refine TC.sp rfl (fun c12 => ?_) (fun c12 => ?_)
       ·refine TC.seq (TC.region (TL.as rfl rfl (TL.as rfl rfl (TL.as rfl rfl (TL.nil (TQ.then (TC.ret (TQ.block_ret (TQ.then_ret (TQ.loop_ret (TQ.block_ret (TQ.then_ret ?_))))))))))))
        refine ret3 rfl rfl rfl rfl (fun w' hp => ?_)
        exact ⟨by rw [← hgo]; first | (rw [List.drop_eq_nil_of_le (by omega)]; rfl) | (rw [hd]; simp only [sizesGo]; grind [addF, addT]), hp.kp⟩
       ·refine TC.skip (TQ.block_normal (TQ.then (TC.region (TL.opP rfl (op_add rfl rfl rfl (by omega) (by omega)) (TL.mv rfl rfl (TL.nil ?_))))))
        exact TQ.round (k + 1, addF p f, addT p t) (⟨by omega, by simp only [prevAt, Nat.add_sub_cancel, hpk]; rw [if_neg (by omega)]; rw [← hgo, hd, sizesGo, c6]; grind [addF, addT], by grind [addF], by grind [addF], by grind [addT], by grind [addT]⟩) (by show _ - (k + 1) < _ - k; omega) ⟨rfl, gi rfl (by grind [addF]), gi rfl (by grind [addT]), rfl, rfl, rfl, trivial⟩ (fun _ h => h.tail)
    ·refine TC.skip (TQ.then (TC.seq (TC.seq (TC.region (TL.opP rfl (op_field fld_api_Part_Kind rfl) (TL.opV rfl (op_load ts_int rfl m0 rfl) (TL.opP rfl (op_neq rfl rfl) (TL.nil (TQ.then ?_)))))))))
     refine TC.sp rfl (fun c13 => ?_) (fun c13 => ?_)
     ·refine TC.region (TL.mv rfl rfl (TL.opP rfl (op_field fld_api_Part_N rfl) (TL.opV rfl (op_load ts_int rfl m0 rfl) (TL.opP rfl (op_add rfl rfl rfl (by omega) (by omega)) (TL.as rfl rfl (TL.nil (TQ.then (TC.seq (TC.region (TL.mv rfl rfl (TL.opP rfl (op_gtr rfl rfl) (TL.opP rfl (op_move rfl) ?_))))))))))))
      refine TL.sp (fun c14 => ?_) (fun c14 => ?_)
      ·refine TL.gFt rfl rfl rfl (TL.gFt rfl rfl rfl (TL.opP rfl (op_pickT rfl rfl) (TL.nil (TQ.then (TC.condT rfl (TC.seq (TC.region (TL.as rfl rfl (TL.as rfl rfl (TL.as rfl rfl (TL.nil (TQ.then (TC.ret (TQ.block_ret (TQ.then_ret (TQ.loop_ret (TQ.block_ret (TQ.then_ret ?_))))))))))))))))))
       refine ret3 rfl rfl rfl rfl (fun w' hp => ?_)
       exact ⟨by rw [← hgo]; first | (rw [List.drop_eq_nil_of_le (by omega)]; rfl) | (rw [hd]; simp only [sizesGo]; grind [addF, addT]), hp.kp⟩
      ·refine TL.gT rfl rfl (TL.mv rfl rfl (TL.gT rfl rfl (TL.opP rfl (op_gtr rfl rfl) (TL.opP rfl (op_pickF rfl rfl) (TL.nil (TQ.then ?_))))))
       refine TC.sp rfl (fun c15 => ?_) (fun c15 => ?_)
       ·refine TC.seq (TC.region (TL.as rfl rfl (TL.as rfl rfl (TL.as rfl rfl (TL.nil (TQ.then (TC.ret (TQ.block_ret (TQ.then_ret (TQ.loop_ret (TQ.block_ret (TQ.then_ret ?_))))))))))))
        refine ret3 rfl rfl rfl rfl (fun w' hp => ?_)
        exact ⟨by rw [← hgo]; first | (rw [List.drop_eq_nil_of_le (by omega)]; rfl) | (rw [hd]; simp only [sizesGo]; grind [addF, addT]), hp.kp⟩
       ·refine TC.skip (TQ.block_normal (TQ.then (TC.region (TL.opP rfl (op_add rfl rfl rfl (by omega) (by omega)) (TL.mv rfl rfl (TL.nil ?_))))))
        exact TQ.round (k + 1, addF p f, addT p t) (⟨by omega, by simp only [prevAt, Nat.add_sub_cancel, hpk]; rw [if_neg (by omega)]; rw [← hgo, hd, sizesGo, c6]; grind [addF, addT], by grind [addF], by grind [addF], by grind [addT], by grind [addT]⟩) (by show _ - (k + 1) < _ - k; omega) ⟨rfl, gi rfl (by grind [addF]), gi rfl (by grind [addT]), rfl, rfl, rfl, trivial⟩ (fun _ h => h.tail)
     ·refine TC.skip (TQ.then (TC.seq (TC.region (TL.mv rfl rfl (TL.opP rfl (op_gtr rfl rfl) (TL.opP rfl (op_move rfl) ?_))))))
      refine TL.sp (fun c16 => ?_) (fun c16 => ?_)
      ·refine TL.gFt rfl rfl rfl (TL.gFt rfl rfl rfl (TL.opP rfl (op_pickT rfl rfl) (TL.nil (TQ.then (TC.condT rfl (TC.seq (TC.region (TL.as rfl rfl (TL.as rfl rfl (TL.as rfl rfl (TL.nil (TQ.then (TC.ret (TQ.block_ret (TQ.then_ret (TQ.loop_ret (TQ.block_ret (TQ.then_ret ?_))))))))))))))))))
       refine ret3 rfl rfl rfl rfl (fun w' hp => ?_)
       exact ⟨by rw [← hgo]; first | (rw [List.drop_eq_nil_of_le (by omega)]; rfl) | (rw [hd]; simp only [sizesGo]; grind [addF, addT]), hp.kp⟩
      ·refine TL.gT rfl rfl (TL.mv rfl rfl (TL.gT rfl rfl (TL.opP rfl (op_gtr rfl rfl) (TL.opP rfl (op_pickF rfl rfl) (TL.nil (TQ.then ?_))))))
       refine TC.sp rfl (fun c17 => ?_) (fun c17 => ?_)
       ·refine TC.seq (TC.region (TL.as rfl rfl (TL.as rfl rfl (TL.as rfl rfl (TL.nil (TQ.then (TC.ret (TQ.block_ret (TQ.then_ret (TQ.loop_ret (TQ.block_ret (TQ.then_ret ?_))))))))))))
        refine ret3 rfl rfl rfl rfl (fun w' hp => ?_)
        exact ⟨by rw [← hgo]; first | (rw [List.drop_eq_nil_of_le (by omega)]; rfl) | (rw [hd]; simp only [sizesGo]; grind [addF, addT]), hp.kp⟩
       ·refine TC.skip (TQ.block_normal (TQ.then (TC.region (TL.opP rfl (op_add rfl rfl rfl (by omega) (by omega)) (TL.mv rfl rfl (TL.nil ?_))))))
        exact TQ.round (k + 1, addF p f, addT p t) (⟨by omega, by simp only [prevAt, Nat.add_sub_cancel, hpk]; rw [if_neg (by omega)]; rw [← hgo, hd, sizesGo, c6]; grind [addF, addT], by grind [addF], by grind [addF], by grind [addT], by grind [addT]⟩) (by show _ - (k + 1) < _ - k; omega) ⟨rfl, gi rfl (by grind [addF]), gi rfl (by grind [addT]), rfl, rfl, rfl, trivial⟩ (fun _ h => h.tail)
 ·refine TC.exit (TQ.then_exit (TQ.loop_exit (TQ.block_hit (TQ.then (TC.seq (TC.region (TL.mv rfl rfl (TL.mv rfl rfl (TL.as rfl rfl (TL.as rfl rfl (TL.as rfl rfl (TL.nil (TQ.then (TC.ret ?_))))))))))))))
  refine ret3 rfl rfl rfl rfl (fun w' hp => ?_)
  exact ⟨by rw [← hgo]; first | (rw [List.drop_eq_nil_of_le (by omega)]; rfl) | (rw [hd]; simp only [sizesGo]; grind [addF, addT]), hp.kp⟩

end Go.SK

set_option linter.unusedVariables false
set_option linter.unusedSimpArgs false
set_option maxRecDepth 100000
namespace Go.SK
open Go Go.RowKit Go.Proofs
variable {S : Nat → Prop} {w0 : World} {F : List Res}
theorem bs_api_Part_0 : ∀ w : World, (Instr.buildSlice 36 0 #[]).run Tryd.prog w = .ok (.slice (some ⟨w.heap.size, 0, none⟩) 0 0) (w.alloc (.cells (encs ([] : List Part)).toArray 104 (0, 0))) := by intro w; kernel_rfl
theorem bs_api_Part_1 (p : Part) : ∀ w : World, (Instr.buildSlice 36 1 #[(0, p.val)]).run Tryd.prog w = .ok (.slice (some ⟨w.heap.size, 0, none⟩) 1 1) (w.alloc (.cells (encs [p]).toArray 104 (0, 0))) := by intro w; kernel_rfl
abbrev OneC (S : Nat → Prop) (w0 : World) (F : List Res) (r : List Part) (p : Part) (g : Nat) (v : Value) : Prop :=
  CallX Tryd.prog 129 [.pointer (some ⟨g, 0, none⟩), p.val] S w0 (.blk g (.cells [v].toArray 162 (0, 0)) :: .row v 104 3 r.length (encs r.reverse) :: F) (fun u L' => u = .tuple #[] ∧ ∃ v', L' = .blk g (.cells [v'].toArray 162 (0, 0)) :: .row v' 104 3 (addR r p).length (encs (addR r p).reverse) :: F)
theorem one_s {F : List Res} (r : List Part) (p : Part) (g : Nat) (v : Value) (hb : OneB r p) (ih : ∀ r' : List Part, r'.length < r.length → OneB r' p → ∀ (v : Value) (F : List Res), OneC S w0 F r' p g v) :
    CallX Tryd.prog 129 [.pointer (some ⟨g, 0, none⟩), p.val] S w0 (.blk g (.cells [v].toArray 162 (0, 0)) :: .row v 104 3 r.length (encs r.reverse) :: F) (fun u L' => u = .tuple #[] ∧ ∃ v', L' = .blk g (.cells [v'].toArray 162 (0, 0)) :: .row v' 104 3 (addR r p).length (encs (addR r p).reverse) :: F) := by
 intro w hp
 have hlen := hb.len
 have hp0 := hb.p0
 refine calls_start Tryd.func129 rfl rfl rfl (hp) ?_
 refine TC.seq (TC.region ?_)
 refine TL.opX rfl (OpX.box (cs := p.cs) rfl rfl) ?_; rintro _ _ ⟨g3, rfl, rfl⟩
 refine TL.nil (TQ.then (TC.seq (TC.region (TL.mv rfl rfl (TL.opP rfl (op_nilCheck rfl) (TL.opP rfl (op_field fld_edit_maker_out rfl) (TL.opV rfl (op_load ts_sl_api_Part rfl m1 rfl) (TL.opV rfl (op_lenV rfl un_sl_api_Part rfl rw2) (TL.as rfl rfl (TL.nil (TQ.then (TC.seq (TC.block (TC.seq (TC.region (TL.opP rfl (op_field fld_api_Part_N rfl) (TL.opV rfl (op_load ts_int rfl m0 rfl) (TL.opP rfl (op_eql rfl rfl) (TL.as rfl rfl (TL.nil (TQ.then ?_)))))))))))))))))))))
 refine TC.sp rfl (fun c1 => ?_) (fun c1 => ?_)
 ·refine TC.ret (TQ.block_ret (TQ.then_ret ?_))
  refine ret0 rfl (fun w' hp => ?_)
  refine ⟨_, _, rfl, ⟨rfl, v, rfl⟩, ?_⟩
  have hq := (hp.tail)
  (rw [addR_zero c1]; exact hq)
 ·refine TC.seq (TC.draw [] (.cons (.p, 0) (.cons (.p, 1) (.cons (.p, 2) (.cons (.p, 3) (.cons (.p, 4) (.cons (.p, 5) (.cons (.p, 7) (.cons (.p, 8) (.cons (.p, 12) (.cons (.t, 6) (.cons (.t, 9) (.cons (.p, 10) (.cons (.t, 11) (.cons (.t, 13) (.cons (.p, 14) (.cons (.p, 15) (.cons (.p, 16) (.nil)))))))))))))))))) mo (by kernel_rfl) (TR.p rfl rfl wt0 (op_move rfl) (TR.p rfl rfl wt0 (op_gtr rfl rfl) (TR.p rfl rfl wt0 (op_move rfl) ?_))))
  first | refine TR.splitD (fun c2 => ?_) (fun c2 => ?_) | refine TR.splitB (fun c2 => ?_) (fun c2 => ?_)
  ·obtain ⟨q, r, rfl⟩ : ∃ q r', r = q :: r' := by cases r with | nil => simp at c2 | cons q r' => exact ⟨q, r', rfl⟩
   have hbh := hb.head
   have hlc : (q :: r).length = r.length + 1 := rfl
   have hal := (addR_facts r p hb.tail.pos hb.p0).2.2.2
   refine TR.p rfl rfl (by exact wtT rfl rfl) (op_move rfl) (TR.p rfl rfl (by exact wtT rfl rfl) (op_nilCheck rfl) (TR.p rfl rfl (by exact wtT rfl rfl) (op_field fld_edit_maker_out rfl) (TR.p rfl rfl (by exact wtT rfl rfl) (op_move rfl) (TR.p rfl rfl (by exact wtT rfl rfl) (op_sub rfl rfl rfl (by omega) (by omega)) (TR.p rfl rfl (by exact wtT rfl rfl) (op_field fld_api_Part_Kind rfl) (TR.t rfl rfl (by exact wtT rfl rfl) (op_load ts_sl_api_Part rfl m1 rfl) (fun _ h => h) (TR.t rfl rfl (by exact wtT rfl rfl) (op_index tsl_api_Part rfl rw2 rfl (by omega) (by omega)) (fun _ h => h) (TR.p rfl rfl (by exact wtT rfl rfl) (op_fieldA fld_api_Part_Kind rfl) (TR.t rfl rfl (by exact wtT rfl rfl) (op_loadR ts_int rfl rw2 (lkR 0 (by omega) rfl)) (fun _ h => h) ?_)))))))))
   refine TR.t rfl rfl (by exact wtT rfl rfl) (op_load ts_int rfl m0 rfl) (fun _ h => h) (TR.p rfl rfl (by exact wtT rfl rfl) (op_eql rfl rfl) (TR.p rfl rfl wt0 (op_pickT rfl rfl) (TR.p rfl rfl wt0 (op_assign rfl) (TR.nil (TQ.then ?_)))))
   refine TC.sp rfl (fun c3 => ?_) (fun c3 => ?_)
   ·refine TC.seq (TC.draw [14] (.cons (.p, 0) (.cons (.p, 1) (.cons (.p, 2) (.cons (.p, 4) (.cons (.p, 5) (.cons (.p, 9) (.cons (.t, 3) (.cons (.t, 6) (.cons (.p, 7) (.cons (.t, 8) (.cons (.t, 10) (.cons (.p, 11) (.cons (.t, 12) (.cons (.p, 13) (.cons (.z, 14) (.nil)))))))))))))))) mo (by kernel_rfl) (TR.p rfl rfl wt0 (op_move rfl) (TR.p rfl rfl wt0 (op_nilCheck rfl) (TR.p rfl rfl wt0 (op_field fld_edit_maker_out rfl) (TR.p rfl rfl wt0 (op_move rfl) (TR.p rfl rfl wt0 (op_sub rfl rfl rfl (by omega) (by omega)) (TR.p rfl rfl wt0 (op_field fld_api_Part_N rfl) (TR.t rfl rfl wt0 (op_load ts_sl_api_Part rfl m1 rfl) (fun _ h => h) (TR.t rfl rfl wt0 (op_index tsl_api_Part rfl rw2 rfl (by omega) (by omega)) (fun _ h => h) ?_)))))))))
    refine TR.p rfl rfl wt0 (op_fieldA fld_api_Part_N rfl) (TR.t rfl rfl wt0 (op_loadR ts_int rfl rw2 (lkR 1 (by omega) rfl)) (fun _ h => h) (TR.t rfl rfl wt0 (op_load ts_int rfl m0 rfl) (fun _ h => h) (TR.p rfl rfl wt0 (op_add rfl rfl rfl (by omega) (by omega)) (TR.t rfl rfl wt0 (op_index tsl_api_Part rfl rw2 rfl (by omega) (by omega)) (fun _ h => h) (TR.p rfl rfl wt0 (op_fieldA fld_api_Part_N rfl) (TR.hp (fun _ h => h.pick2) ?_))))))
    refine TR.z0 rfl wt0 (OpX.storeRow (k := 1) (fun w => by kernel_rfl) rfl rfl rfl (ys := [.int .i64 (q.n + p.n)]) rfl (by decide) (List.all_eq_true.1 rfl) (by omega) (stR (q' := ⟨q.kind, q.n + p.n, q.text⟩) 1 _ (by omega) rfl (by decide))) ?_; rintro _ _ rfl
    refine TR.nil (TQ.then (TC.seq (TC.draw [14] (.cons (.p, 0) (.cons (.p, 1) (.cons (.p, 2) (.cons (.p, 4) (.cons (.p, 5) (.cons (.p, 9) (.cons (.t, 3) (.cons (.t, 6) (.cons (.p, 7) (.cons (.t, 8) (.cons (.t, 10) (.cons (.p, 11) (.cons (.t, 12) (.cons (.p, 13) (.cons (.z, 14) (.nil)))))))))))))))) mo (by kernel_rfl) (TR.p rfl rfl wt0 (op_move rfl) (TR.p rfl rfl wt0 (op_nilCheck rfl) (TR.p rfl rfl wt0 (op_field fld_edit_maker_out rfl) (TR.p rfl rfl wt0 (op_move rfl) (TR.p rfl rfl wt0 (op_sub rfl rfl rfl (by omega) (by omega)) (TR.p rfl rfl wt0 (op_field fld_api_Part_Text rfl) (TR.t rfl rfl wt0 (op_load ts_sl_api_Part rfl m2 rfl) (fun _ h => h) (TR.t rfl rfl wt0 (op_index tsl_api_Part rfl rw0 rfl (by omega) (by omega)) (fun _ h => h) ?_)))))))))))
    refine TR.p rfl rfl wt0 (op_fieldA fld_api_Part_Text rfl) (TR.t rfl rfl wt0 (op_loadR ts_string rfl rw0 (lkR (q := ⟨q.kind, q.n + p.n, q.text⟩) 2 (by omega) rfl)) (fun _ h => h) (TR.t rfl rfl wt0 (op_load ts_string rfl m1 rfl) (fun _ h => h) ?_))
    refine TR.p rfl rfl wt0 (op_sadd rfl rfl (by show q.text.size + p.text.size ≤ _; omega)) ?_
    refine TR.t rfl rfl wt0 (op_index tsl_api_Part rfl rw0 rfl (by omega) (by omega)) (fun _ h => h) (TR.p rfl rfl wt0 (op_fieldA fld_api_Part_Text rfl) ?_)
    refine TR.z0 rfl wt0 (OpX.storeRow (k := 1) (fun w => by kernel_rfl) rfl rfl rfl (ys := [.string (q.text ++ p.text)]) rfl (by decide) (List.all_eq_true.1 rfl) (by omega) (stR (q := ⟨q.kind, q.n + p.n, q.text⟩) (q' := q.more p) 2 _ (by omega) rfl (by decide))) ?_; rintro _ _ rfl
    refine TR.nil (TQ.then (TC.ret (TQ.block_ret (TQ.then_ret ?_))))
    refine ret0 rfl (fun w' hp => ?_)
    refine ⟨_, _, rfl, ⟨rfl, v, rfl⟩, ?_⟩
    have hq := (hp.drop1.pick1)
    (rw [addR_more c1 c3]; exact hq)
   ·refine TC.seq (TC.region (TL.mv rfl rfl (TL.opP rfl (op_eql rfl rfl) (TL.opP rfl (op_move rfl) ?_))))
    refine TL.sp (fun c4 => ?_) (fun c4 => ?_)
    ·exact absurd c4 (by omega)
    ·refine TL.gT rfl rfl (TL.opP rfl (op_field fld_api_Part_Kind rfl) (TL.gT rfl rfl (TL.opV rfl (op_load ts_int rfl m0 rfl) (TL.gT rfl rfl (TL.opP rfl (op_neq rfl rfl) (TL.opP rfl (op_pickF rfl rfl) (TL.opP rfl (op_move rfl) ?_)))))))
     refine TL.sp (fun c5 => ?_) (fun c5 => ?_)
     ·refine TL.gFt rfl rfl rfl (TL.gFt rfl rfl rfl (TL.gFt rfl rfl rfl (TL.gFt rfl rfl rfl (TL.gFt rfl rfl rfl (TL.gFt rfl rfl rfl (TL.gFt rfl rfl rfl (TL.gFt rfl rfl rfl (TL.gFt rfl rfl rfl (TL.gFt rfl rfl rfl (TL.opP rfl (op_pickT rfl rfl) (TL.as rfl rfl (TL.nil (TQ.then (TC.condT rfl (TC.seq (TC.draw [7, 10] (.cons (.p, 0) (.cons (.p, 1) (.cons (.p, 2) (.cons (.p, 3) (.cons (.t, 4) (.cons (.t, 5) (.cons (.o, 6) (.cons (.z, 7) (.cons (.p, 8) (.cons (.p, 9) (.cons (.z, 10) (.nil)))))))))))) mo (by kernel_rfl) (TR.p rfl rfl wt0 (op_move rfl) (TR.p rfl rfl wt0 (op_move rfl) (TR.p rfl rfl wt0 (op_nilCheck rfl) (TR.p rfl rfl wt0 (op_field fld_edit_maker_out rfl) (TR.t rfl rfl wt0 (op_load ts_sl_api_Part rfl m1 rfl) (fun _ h => h) ?_)))))))))))))))))))))
      refine TR.t rfl rfl wt0 (op_loadS tst_api_Part rfl m0 rfl) (fun _ h => h) ?_
      refine TR.o rfl rfl wt0 (OpX.buildSlice (ps := #[(0, _)]) rfl (bs_api_Part_1 _)) (by rintro _ _ ⟨g86, rfl, rfl⟩; intro w h; exact h.tail) ?_; rintro _ _ ⟨g86, rfl, rfl⟩
      refine TR.hp (fun _ h => blk_row (k := 3) (m := 1) h rfl (by decide)) (TR.hp (fun _ h => h.pick3) ?_)
      refine TR.z rfl rfl wt0 (OpX.append (bytes := 32) tsl_api_Part (by decide) (by decide) rfl rw1 (encs_one _) (by omega) rfl) ?_; rintro v1 _ rfl
      refine TR.know (fun _ h => row1 h) (fun o1 => (TR.p rfl rfl wt0 (op_nilCheck rfl) (TR.p rfl rfl wt0 (op_field fld_edit_maker_out rfl) (TR.hp (fun _ h => h.pick3) ?_))))
      refine TR.z0 rfl wt0 (OpX.store1 ts_sl_api_Part rfl rfl (by first | rfl | assumption) rfl rfl) ?_; rintro _ _ rfl
      refine TR.nil (TQ.then (TC.ret (TQ.block_ret (TQ.then_ret ?_))))
      refine ret0 rfl (fun w' hp => ?_)
      refine ⟨_, _, rfl, ⟨rfl, v1, rfl⟩, ?_⟩
      have hq := (hp.drop3.drop2)
      (rw [addR_push c1 c3 (.inl c5), ← encs_push]; exact hq)
     ·refine TL.gT rfl rfl (TL.mv rfl rfl (TL.gT rfl rfl (TL.opP rfl (op_nilCheck rfl) (TL.gT rfl rfl (TL.opP rfl (op_field fld_edit_maker_out rfl) (TL.gT rfl rfl (TL.opV rfl (op_load ts_sl_api_Part rfl m1 rfl) (TL.gT rfl rfl (TL.mv rfl rfl (TL.gT rfl rfl (TL.opP rfl (op_sub rfl rfl rfl (by omega) (by omega)) (TL.gT rfl rfl (TL.opV rfl (op_index tsl_api_Part rfl rw2 rfl (by omega) (by omega)) (TL.gT rfl rfl (TL.opP rfl (op_fieldA fld_api_Part_Kind rfl) (TL.gT rfl rfl (TL.opV rfl (op_loadR ts_int rfl rw2 (lkR 0 (by omega) rfl)) (TL.gT rfl rfl (TL.opP rfl (op_neq rfl rfl) (TL.opP rfl (op_pickF rfl rfl) (TL.as rfl rfl (TL.nil (TQ.then ?_)))))))))))))))))))))))
      refine TC.sp rfl (fun c6 => ?_) (fun c6 => ?_)
      ·refine TC.seq (TC.draw [7, 10] (.cons (.p, 0) (.cons (.p, 1) (.cons (.p, 2) (.cons (.p, 3) (.cons (.t, 4) (.cons (.t, 5) (.cons (.o, 6) (.cons (.z, 7) (.cons (.p, 8) (.cons (.p, 9) (.cons (.z, 10) (.nil)))))))))))) mo (by kernel_rfl) (TR.p rfl rfl wt0 (op_move rfl) (TR.p rfl rfl wt0 (op_move rfl) (TR.p rfl rfl wt0 (op_nilCheck rfl) (TR.p rfl rfl wt0 (op_field fld_edit_maker_out rfl) (TR.t rfl rfl wt0 (op_load ts_sl_api_Part rfl m1 rfl) (fun _ h => h) (TR.t rfl rfl wt0 (op_loadS tst_api_Part rfl m0 rfl) (fun _ h => h) ?_)))))))
       refine TR.o rfl rfl wt0 (OpX.buildSlice (ps := #[(0, _)]) rfl (bs_api_Part_1 _)) (by rintro _ _ ⟨g86, rfl, rfl⟩; intro w h; exact h.tail) ?_; rintro _ _ ⟨g86, rfl, rfl⟩
       refine TR.hp (fun _ h => blk_row (k := 3) (m := 1) h rfl (by decide)) (TR.hp (fun _ h => h.pick3) ?_)
       refine TR.z rfl rfl wt0 (OpX.append (bytes := 32) tsl_api_Part (by decide) (by decide) rfl rw1 (encs_one _) (by omega) rfl) ?_; rintro v2 _ rfl
       refine TR.know (fun _ h => row1 h) (fun o2 => (TR.p rfl rfl wt0 (op_nilCheck rfl) (TR.p rfl rfl wt0 (op_field fld_edit_maker_out rfl) (TR.hp (fun _ h => h.pick3) ?_))))
       refine TR.z0 rfl wt0 (OpX.store1 ts_sl_api_Part rfl rfl (by first | rfl | assumption) rfl rfl) ?_; rintro _ _ rfl
       refine TR.nil (TQ.then (TC.ret (TQ.block_ret (TQ.then_ret ?_))))
       refine ret0 rfl (fun w' hp => ?_)
       refine ⟨_, _, rfl, ⟨rfl, v2, rfl⟩, ?_⟩
       have hq := (hp.drop3.drop2)
       (rw [addR_push c1 c3 (.inr c6), ← encs_push]; exact hq)
      ·refine TC.skip (TQ.block_normal (TQ.then (TC.seq (TC.region (TL.mv rfl rfl (TL.opP rfl (op_nilCheck rfl) (TL.opP rfl (op_field fld_edit_maker_out rfl) (TL.opV rfl (op_load ts_sl_api_Part rfl m1 rfl) (TL.mv rfl rfl (TL.opP rfl (op_sub rfl rfl rfl (by omega) (by omega)) (TL.opV rfl (op_index tsl_api_Part rfl rw2 rfl (by omega) (by omega)) (TL.opV rfl (op_loadRS tst_api_Part rfl rw2 (cs := q.cs) rfl (lkRS (by omega)) (by decide)) ?_))))))))))))
       refine TL.opX rfl (OpX.alloc tz_api_Part rfl) ?_; rintro _ _ ⟨g5, rfl, rfl⟩
       refine TL.opX0 (OpX.storeS tst_api_Part rfl rfl rfl rfl rfl (List.all_eq_true.1 rfl)) ?_; rintro _ _ rfl
       refine TL.nil (TQ.then (TC.seq (TC.region (TL.mv rfl rfl (TL.mv rfl rfl (TL.opP rfl (op_nilCheck rfl) (TL.opP rfl (op_field fld_edit_maker_out rfl) (TL.opV rfl (op_load ts_sl_api_Part rfl m2 rfl) (TL.mv rfl rfl (TL.opP rfl (op_sub rfl rfl rfl (by omega) (by omega)) (TL.hp (fun _ h => h.pick3) (TL.opV rfl (op_cut 0 r.length tsl_api_Part rfl rw0 (vlo := none) (vhi := (some _)) rfl rfl (.inl ⟨rfl, rfl⟩) (.inr ⟨_, _, rfl, by omega⟩) (by omega) (by omega)) (TL.hp (fun _ h => takeR h) ?_)))))))))))))
       refine TL.know (fun _ h => row1 h) (fun ocut => (TL.opP rfl (op_nilCheck rfl) (TL.opP rfl (op_field fld_edit_maker_out rfl) (TL.hp (fun _ h => h.pick3) ?_))))
       refine TL.opX0 (OpX.store1 ts_sl_api_Part rfl rfl (by first | rfl | assumption) rfl rfl) ?_; rintro _ _ rfl
       refine TL.nil (TQ.then (TC.seq (TC.region (TL.mv rfl rfl (TL.opV rfl (op_loadS tst_api_Part rfl m3 rfl) ?_)))))
       refine TL.opX rfl (OpX.callX en_129 rfl (ih r (by omega) hb.tail _ _)) ?_; rintro _ _ ⟨rfl, w3, rfl⟩
       refine TL.nil (TQ.then (TC.draw [7, 10] (.cons (.p, 0) (.cons (.p, 1) (.cons (.p, 2) (.cons (.p, 3) (.cons (.t, 4) (.cons (.t, 5) (.cons (.o, 6) (.cons (.z, 7) (.cons (.p, 8) (.cons (.p, 9) (.cons (.z, 10) (.nil)))))))))))) mo (by kernel_rfl) (TR.p rfl rfl wt0 (op_move rfl) (TR.p rfl rfl wt0 (op_move rfl) (TR.p rfl rfl wt0 (op_nilCheck rfl) (TR.p rfl rfl wt0 (op_field fld_edit_maker_out rfl) (TR.t rfl rfl wt0 (op_load ts_sl_api_Part rfl m0 rfl) (fun _ h => h) (TR.t rfl rfl wt0 (op_loadS tst_api_Part rfl m2 rfl) (fun _ h => h) ?_))))))))
       refine TR.o rfl rfl wt0 (OpX.buildSlice (ps := #[(0, _)]) rfl (bs_api_Part_1 _)) (by rintro _ _ ⟨g117, rfl, rfl⟩; intro w h; exact h.tail) ?_; rintro _ _ ⟨g117, rfl, rfl⟩
       refine TR.hp (fun _ h => blk_row (k := 3) (m := 1) h rfl (by decide)) (TR.hp (fun _ h => h.pick2) ?_)
       refine TR.z rfl rfl wt0 (OpX.append (bytes := 32) tsl_api_Part (by decide) (by decide) rfl rw1 (encs_one _) (by omega) rfl) ?_; rintro v4 _ rfl
       refine TR.know (fun _ h => row1 h) (fun o4 => (TR.p rfl rfl wt0 (op_nilCheck rfl) (TR.p rfl rfl wt0 (op_field fld_edit_maker_out rfl) (TR.hp (fun _ h => h.pick2) ?_))))
       refine TR.z0 rfl wt0 (OpX.store1 ts_sl_api_Part rfl rfl (by first | rfl | assumption) rfl rfl) ?_; rintro _ _ rfl
       refine TR.nil ?_
       refine end0 rfl (fun w' hp => ?_)
       refine ⟨_, _, rfl, ⟨rfl, v4, rfl⟩, ?_⟩
       have hq := (hp.drop4.drop3.drop2)
       (rw [addR_deep c1 c3 (by grind), ← encs_push]; exact hq)
  ·obtain rfl : r = [] := by cases r with | nil => rfl | cons q r' => simp at c2
   refine TR.off rfl rfl (by exact wtFf rfl rfl) (TR.off rfl rfl (by exact wtFf rfl rfl) (TR.off rfl rfl (by exact wtFf rfl rfl) (TR.off rfl rfl (by exact wtFf rfl rfl) (TR.off rfl rfl (by exact wtFf rfl rfl) (TR.off rfl rfl (by exact wtFf rfl rfl) (TR.offT rfl rfl (by exact wtFf rfl rfl) (fun _ h => h) (TR.offT rfl rfl (by exact wtFf rfl rfl) (fun _ h => h) (TR.off rfl rfl (by exact wtFf rfl rfl) (TR.offT rfl rfl (by exact wtFf rfl rfl) (fun _ h => h) (TR.offT rfl rfl (by exact wtFf rfl rfl) (fun _ h => h) (TR.off rfl rfl (by exact wtFf rfl rfl) (TR.p rfl rfl wt0 (op_pickF rfl rfl) (TR.p rfl rfl wt0 (op_assign rfl) (TR.nil (TQ.then (TC.condF rfl (TC.seq (TC.region (TL.mv rfl rfl (TL.opP rfl (op_eql rfl rfl) ?_))))))))))))))))))))
   refine TL.opP rfl (op_move rfl) ?_
   refine TL.sp (fun c7 => ?_) (fun c7 => ?_)
   ·refine TL.gFt rfl rfl rfl (TL.gFt rfl rfl rfl (TL.gFt rfl rfl rfl (TL.opP rfl (op_pickT rfl rfl) (TL.mv rfl rfl (TL.gFt rfl rfl rfl (TL.gFt rfl rfl rfl (TL.gFt rfl rfl rfl (TL.gFt rfl rfl rfl (TL.gFt rfl rfl rfl (TL.gFt rfl rfl rfl (TL.gFt rfl rfl rfl (TL.gFt rfl rfl rfl (TL.gFt rfl rfl rfl (TL.gFt rfl rfl rfl (TL.opP rfl (op_pickT rfl rfl) (TL.as rfl rfl (TL.nil (TQ.then (TC.condT rfl (TC.seq (TC.draw [7, 10] (.cons (.p, 0) (.cons (.p, 1) (.cons (.p, 2) (.cons (.p, 3) (.cons (.t, 4) (.cons (.t, 5) (.cons (.o, 6) (.cons (.z, 7) (.cons (.p, 8) (.cons (.p, 9) (.cons (.z, 10) (.nil)))))))))))) mo (by kernel_rfl) (TR.p rfl rfl wt0 (op_move rfl) (TR.p rfl rfl wt0 (op_move rfl) (TR.p rfl rfl wt0 (op_nilCheck rfl) ?_))))))))))))))))))))))))
    refine TR.p rfl rfl wt0 (op_field fld_edit_maker_out rfl) (TR.t rfl rfl wt0 (op_load ts_sl_api_Part rfl m1 rfl) (fun _ h => h) (TR.t rfl rfl wt0 (op_loadS tst_api_Part rfl m0 rfl) (fun _ h => h) ?_))
    refine TR.o rfl rfl wt0 (OpX.buildSlice (ps := #[(0, _)]) rfl (bs_api_Part_1 _)) (by rintro _ _ ⟨g86, rfl, rfl⟩; intro w h; exact h.tail) ?_; rintro _ _ ⟨g86, rfl, rfl⟩
    refine TR.hp (fun _ h => blk_row (k := 3) (m := 1) h rfl (by decide)) (TR.hp (fun _ h => h.pick3) ?_)
    refine TR.z rfl rfl wt0 (OpX.append (bytes := 32) tsl_api_Part (by decide) (by decide) rfl rw1 (encs_one _) (by omega) rfl) ?_; rintro v5 _ rfl
    refine TR.know (fun _ h => row1 h) (fun o5 => (TR.p rfl rfl wt0 (op_nilCheck rfl) (TR.p rfl rfl wt0 (op_field fld_edit_maker_out rfl) (TR.hp (fun _ h => h.pick3) ?_))))
    refine TR.z0 rfl wt0 (OpX.store1 ts_sl_api_Part rfl rfl (by first | rfl | assumption) rfl rfl) ?_; rintro _ _ rfl
    refine TR.nil (TQ.then (TC.ret (TQ.block_ret (TQ.then_ret ?_))))
    refine ret0 rfl (fun w' hp => ?_)
    refine ⟨_, _, rfl, ⟨rfl, v5, rfl⟩, ?_⟩
    have hq := (hp.drop3.drop2)
    (rw [addR_nil c1]; exact hq)
   ·exact absurd (c7 : ¬ ((0 : Nat) : Int) = 0) (by omega)

theorem one_x (r : List Part) (p : Part) (g : Nat) (v : Value) (hb : OneB r p) : OneC S w0 F r p g v := by
  generalize hn : r.length = n
  induction n using Nat.strongRecOn generalizing r v F with
  | ind n ih => exact one_s r p g v hb (fun r' h hb' v' F' => ih r'.length (by omega) r' v' hb' rfl)
theorem add_x (ps r : List Part) (g : Nat) (v vl : Value) (hb : ManyB r ps) (hr : Rdb F vl 3 ps.length (encs ps)) :
    CallX Tryd.prog 98 [.pointer (some ⟨g, 0, none⟩), vl] S w0 (.blk g (.cells [v].toArray 162 (0, 0)) :: .row v 104 3 r.length (encs r.reverse) :: F) (fun u L' => u = .tuple #[] ∧ ∃ v', L' = .blk g (.cells [v'].toArray 162 (0, 0)) :: .row v' 104 3 (addRs r ps).length (encs (addRs r ps).reverse) :: F) := by
 intro w hp
 have hlen := hb.len
 refine calls_start Tryd.func98 rfl rfl rfl (hp) ?_
 refine TC.seq (TC.region (TL.mv rfl rfl (TL.opV rfl (op_lenV rfl un_sl_api_Part rfl hr.cons.cons) (TL.mv rfl rfl (TL.nil (TQ.then (TC.block (TC.loop (ι := Nat × Value) (fun (k, v') => [(0, .pointer (some ⟨g, 0, none⟩)), (6, vl), (7, .int .i64 (ps.length : Int)), (8, .int .i64 (k : Int))]) (fun (k, v') => .blk g (.cells [v'].toArray 162 (0, 0)) :: .row v' 104 3 (addRs r (ps.take k)).length (encs (addRs r (ps.take k)).reverse) :: F) (fun (k, v') => k ≤ ps.length) (fun (k, v') => ps.length - k) ((0, v)) (Nat.zero_le _) ⟨rfl, rfl, rfl, rfl, trivial⟩ (fun _ h => h) ?_))))))))
 rintro ⟨k, v'⟩ (hk : k ≤ ps.length)
 show TC _ _ _ _ [(0, .pointer (some ⟨g, 0, none⟩)), (6, vl), (7, .int .i64 (ps.length : Int)), (8, .int .i64 (k : Int))] _ _ (.blk g (.cells [v'].toArray 162 (0, 0)) :: .row v' 104 3 (addRs r (ps.take k)).length (encs (addRs r (ps.take k)).reverse) :: F)
 refine TC.seq (TC.region (TL.opP rfl (op_lss rfl rfl) (TL.nil (TQ.then (TC.seq ?_)))))
 refine TC.sp rfl (fun c1 => ?_) (fun c1 => ?_)
 ·have hkl : k < ps.length := by omega
  obtain ⟨p, hpk⟩ : ∃ p, ps.getD k default = p := ⟨_, rfl⟩
  have hd := drop_getD hkl hpk
  have hpe : p ∈ ps := by rw [← hpk, List.getD_eq_getElem?_getD, List.getElem?_eq_getElem hkl]; exact List.getElem_mem hkl
  refine TC.skip (TQ.then (TC.seq (TC.block (TC.seq (TC.region (TL.opV rfl (op_index tsl_api_Part rfl hr.cons.cons rfl (by omega) (by omega)) (TL.opV rfl (op_loadRS tst_api_Part rfl hr.cons.cons (cs := p.cs) rfl (lkS hkl hpk) (by decide)) ?_)))))))
  refine TL.opX rfl (OpX.alloc tz_api_Part rfl) ?_; rintro _ _ ⟨g5, rfl, rfl⟩
  refine TL.opX0 (OpX.storeS tst_api_Part rfl rfl rfl rfl rfl (List.all_eq_true.1 rfl)) ?_; rintro _ _ rfl
  refine TL.nil (TQ.then (TC.region (TL.mv rfl rfl (TL.opV rfl (op_loadS tst_api_Part rfl m0 rfl) (TL.hp (fun _ h => h.pick2.pick2) ?_)))))
  refine TL.opX rfl (OpX.callX en_129 rfl (one_x (addRs r (ps.take k)) p g _ (hb.step hkl hpk))) ?_; rintro _ _ ⟨rfl, w1, rfl⟩
  refine TL.nil (TQ.block_normal (TQ.then (TC.region (TL.opP rfl (op_add rfl rfl rfl (by omega) (by omega)) (TL.mv rfl rfl (TL.nil ?_))))))
  exact TQ.round (k + 1, w1) (by show k + 1 ≤ _; omega) (by show _ - (k + 1) < _ - k; omega) ⟨rfl, rfl, rfl, rfl, trivial⟩ (fun _ h => by dsimp only; rw [addRs_take hkl hpk]; exact h.drop2)
 ·refine TC.exit (TQ.then_exit (TQ.loop_exit (TQ.block_hit ?_)))
  refine end0 rfl (fun w' hp => ?_)
  have hq := (hp)
  rw [List.take_of_length_le (by omega)] at hq
  exact ⟨_, _, rfl, ⟨rfl, _, rfl⟩, hq⟩

end Go.SK

set_option linter.unusedVariables false
set_option linter.unusedSimpArgs false
set_option maxRecDepth 100000
namespace Go.SK
open Go Go.RowKit Go.Proofs
variable {S : Nat → Prop} {w0 : World} {F L : List Res}
theorem check_calls (e : List Part) (n : Int) (v : Value) (w : World) (hT : Tabs w) (hs : ∀ p ∈ e, p.text.size < 9223372036854775807) (hv : RdRow w v 3 e.length (encs e)) :
    Calls Tryd.prog 115 (List.toArray [v, .int .i64 n]) w fun e' w' => e' = .returned (.int .i64 (checkF e n)) ∧ Kp NoB w w' := by
 have hlen : e.length ≤ 9223372036854775807 := by obtain ⟨_, A, c, _, h1, h2, _⟩ := hv; simp only [maxLen] at h2; omega
 refine calls_start Tryd.func115 rfl rfl rfl (Hp.i1 (r := .rd v 3 e.length (encs e)) hv) ?_
 refine TC.seq (TC.region (TL.as rfl rfl (TL.nil (TQ.then (TC.seq (TC.seq (TC.region (TL.mv rfl rfl (TL.callq rfl en_102 rfl (fun w2 hp => sizes_calls e v w2 (hT.kp hp.kp) hs (rd0 _ _ _ hp)) (TL.mv rfl rfl (TL.opP rfl (op_extract rfl rfl) (TL.opP rfl (op_extract rfl rfl) (TL.opP rfl (op_extract rfl rfl) (TL.as rfl rfl (TL.as rfl rfl (TL.as rfl rfl (TL.nil (TQ.then (TC.seq (TC.region (TL.mv rfl rfl (TL.opP rfl (op_not rfl rfl) (TL.opP rfl (op_move rfl) ?_)))))))))))))))))))))))
 refine TL.sp (fun c1 => ?_) (fun c1 => ?_)
 ·refine TL.gFt rfl rfl rfl (TL.gFt rfl rfl rfl (TL.gFt rfl rfl rfl (TL.opP rfl (op_pickT rfl rfl) (TL.nil (TQ.then (TC.condT rfl (TC.seq (TC.region (TL.as rfl rfl (TL.nil (TQ.then (TC.ret (TQ.then_ret ?_)))))))))))))
  refine ret1 rfl rfl (fun w' hp => ?_)
  exact ⟨by simp only [checkF]; grind, hp.kp⟩
 ·refine TL.gT rfl rfl (TL.mv rfl rfl (TL.gT rfl rfl (TL.mv rfl rfl (TL.gT rfl rfl (TL.opP rfl (op_neq rfl rfl) (TL.opP rfl (op_pickF rfl rfl) (TL.nil (TQ.then ?_))))))))
  refine TC.sp rfl (fun c2 => ?_) (fun c2 => ?_)
  ·refine TC.seq (TC.region (TL.as rfl rfl (TL.nil (TQ.then (TC.ret (TQ.then_ret ?_))))))
   refine ret1 rfl rfl (fun w' hp => ?_)
   exact ⟨by simp only [checkF]; grind, hp.kp⟩
  ·refine TC.skip (TQ.then (TC.seq (TC.region (TL.as rfl rfl (TL.nil (TQ.then (TC.ret ?_)))))))
   refine ret1 rfl rfl (fun w' hp => ?_)
   exact ⟨by simp only [checkF]; grind, hp.kp⟩


end Go.SK

set_option linter.unusedVariables false
set_option linter.unusedSimpArgs false
set_option maxRecDepth 100000
namespace Go.SK
open Go Go.RowKit Go.Proofs
variable {S : Nat → Prop} {w0 : World} {F L : List Res}
theorem apply_calls (e : List Part) (s : ByteArray) (v : Value) (hss : s.size ≤ 70368744177664) (w : World) (hT : Tabs w) (hs : ∀ p ∈ e, p.text.size < 9223372036854775807) (hv : RdRow w v 3 e.length (encs e)) :
    Calls Tryd.prog 81 (List.toArray [v, .string s]) w fun e' w' => e' = .returned (.tuple #[.string (applyF e s), .int .i64 (applyE e s)]) ∧ Kp NoB w w' := by
 have hlen : e.length ≤ 9223372036854775807 := by obtain ⟨_, A, c, _, h1, h2, _⟩ := hv; simp only [maxLen] at h2; omega
 have hdl := dec_len s
 refine calls_start Tryd.func81 rfl rfl rfl (Hp.i1 (r := .rd v 3 e.length (encs e)) hv) ?_
 refine TC.seq (TC.region (TL.as rfl rfl (TL.as rfl rfl (TL.nil (TQ.then (TC.seq (TC.region (TL.opP rfl (op_move rfl) ?_))))))))
 refine TL.opX rfl (OpX.runes un_string tsl_int32 un_int32 rfl (by omega)) ?_; rintro v1 _ rfl
 refine TL.know (fun _ h => row1 h) (fun o1 => (TL.hp (fun _ h => row_rd h) (TL.as rfl rfl (TL.nil (TQ.then (TC.seq (TC.seq (TC.region (TL.mv rfl rfl (TL.callq rfl en_18 rfl (fun w2 hp => valid_calls s w2 (hT.kp hp.kp) (by omega)) (TL.opP rfl (op_not rfl rfl) (TL.opP rfl (op_move rfl) ?_))))))))))))
 refine TL.sp (fun c1 => ?_) (fun c1 => ?_)
 ·refine TL.gFt rfl rfl rfl (TL.gFt rfl rfl rfl (TL.gFt rfl rfl rfl (TL.gFt rfl rfl rfl (TL.gFt rfl rfl rfl (TL.opP rfl (op_pickT rfl rfl) (TL.nil (TQ.then (TC.condT rfl (TC.seq (TC.region (TL.as rfl rfl (TL.as rfl rfl (TL.nil (TQ.then (TC.ret (TQ.then_ret ?_))))))))))))))))
  refine ret2 rfl rfl rfl (fun w' hp => ?_)
  first
    | (have hbad : applyBad e s := by (unfold applyBad; grind)
       exact ⟨by rw [(apply_bad hbad).1, (apply_bad hbad).2], hp.kp⟩)
    | exact ⟨by rw [(apply_ok hok).1, (apply_ok hok).2, ← hI.stop (by omega)], hp.kp⟩
 ·refine TL.gT rfl rfl (TL.mv rfl rfl (TL.gT rfl rfl (TL.mv rfl rfl (TL.gT rfl rfl (TL.opV rfl (op_lenV rfl un_sl_int32 rfl rd0) (TL.gT rfl rfl (TL.callq rfl en_115 rfl (fun w2 hp => check_calls e _ v w2 (hT.kp hp.kp) hs (rd1 _ _ _ hp)) (TL.gT rfl rfl (TL.opP rfl (op_neq rfl rfl) (TL.opP rfl (op_pickF rfl rfl) (TL.nil (TQ.then ?_))))))))))))
  refine TC.sp rfl (fun c2 => ?_) (fun c2 => ?_)
  ·refine TC.seq (TC.region (TL.as rfl rfl (TL.as rfl rfl (TL.nil (TQ.then (TC.ret (TQ.then_ret ?_)))))))
   refine ret2 rfl rfl rfl (fun w' hp => ?_)
   first
     | (have hbad : applyBad e s := by (unfold applyBad; grind)
        exact ⟨by rw [(apply_bad hbad).1, (apply_bad hbad).2], hp.kp⟩)
     | exact ⟨by rw [(apply_ok hok).1, (apply_ok hok).2, ← hI.stop (by omega)], hp.kp⟩
  ·have hok : ¬ applyBad e s := by unfold applyBad; grind
   have hfit := (ok_facts hok).2.2.2.1
   refine TC.skip (TQ.then (TC.seq (TC.region (TL.mv rfl rfl (TL.opV rfl (op_lenV rfl un_sl_int32 rfl rd0) ?_)))))
   refine TL.opX rfl (OpX.make0 (m := (dec s).length) tsl_int32 rfl rfl rfl (by decide) (by omega)) ?_; rintro v2 _ rfl
   refine TL.know (fun _ h => row1 h) (fun o2 => (TL.as rfl rfl (TL.nil (TQ.then (TC.seq (TC.seq (TC.region (TL.mv rfl rfl (TL.opV rfl (op_lenV rfl un_sl_api_Part rfl rd2) (TL.mv rfl rfl (TL.nil (TQ.then (TC.block (TC.loop (ι := Nat × List Int × List Int × Value × Value) (fun (k, l, out, lv, ov) => [(6, lv), (7, ov), (25, v), (26, .int .i64 (e.length : Int)), (27, .int .i64 (k : Int))]) (fun (k, l, out, lv, ov) => [.rd lv 1 l.length (l.map (Value.int .i32)), .row ov 21 1 out.length (out.map (Value.int .i32)), .rd v 3 e.length (encs e)]) (fun (k, l, out, lv, ov) => AInv e k l out (apGo e (dec s) [])) (fun (k, l, out, lv, ov) => e.length - k) ((0, dec s, [], v1, v2)) (AInv.start hok) ⟨rfl, rfl, rfl, rfl, rfl, trivial⟩ (fun _ h => h.pick2.pick1.pick2) ?_))))))))))))))
   rintro ⟨k, l, out, lv, ov⟩ (hI : AInv e k l out (apGo e (dec s) []))
   have hk := hI.kle
   have hto := hI.to_
   show TC _ _ _ _ [(6, lv), (7, ov), (25, v), (26, .int .i64 (e.length : Int)), (27, .int .i64 (k : Int))] _ _ ([.rd lv 1 l.length (l.map (Value.int .i32)), .row ov 21 1 out.length (out.map (Value.int .i32)), .rd v 3 e.length (encs e)])
   refine TC.seq (TC.region (TL.opP rfl (op_lss rfl rfl) (TL.nil (TQ.then (TC.seq ?_)))))
   refine TC.sp rfl (fun c3 => ?_) (fun c3 => ?_)
   ·have hkl : k < e.length := by omega
    obtain ⟨p, hpk⟩ : ∃ p, e.getD k default = p := ⟨_, rfl⟩
    have hd := drop_getD hkl hpk
    have hpe : p ∈ e := by rw [← hpk, List.getD_eq_getElem?_getD, List.getElem?_eq_getElem hkl]; exact List.getElem_mem hkl
    have hfd := fromS_pos (fun q hq => hfit q (List.mem_of_mem_drop hq) : Fits (e.drop k))
    refine TC.skip (TQ.then (TC.seq (TC.block (TC.seq (TC.region (TL.opV rfl (op_index tsl_api_Part rfl rd2 rfl (by omega) (by omega)) (TL.opV rfl (op_loadRS tst_api_Part rfl rd2 (cs := p.cs) rfl (lkS hkl hpk) (by decide)) ?_)))))))
    refine TL.opX rfl (OpX.alloc tz_api_Part rfl) ?_; rintro _ _ ⟨g9, rfl, rfl⟩
    refine TL.opX0 (OpX.storeS tst_api_Part rfl rfl rfl rfl rfl (List.all_eq_true.1 rfl)) ?_; rintro _ _ rfl
    refine TL.nil (TQ.then (TC.seq (TC.region (TL.opP rfl (op_field fld_api_Part_Kind rfl) (TL.opV rfl (op_load ts_int rfl m0 rfl) (TL.nil (TQ.then (TC.block (TC.seq (TC.region (TL.opP rfl (op_eql rfl rfl) (TL.as rfl rfl (TL.nil (TQ.then ?_))))))))))))))
    refine TC.sp rfl (fun c4 => ?_) (fun c4 => ?_)
    ·obtain ⟨hln, hp0, hc⟩ := hI.stepK hfit hkl hpk c4
     have hct := hc.to_
     rw [List.length_append, List.length_take] at hct
     have hfd2 := fromS_pos (fun q hq => hfit q (List.mem_of_mem_drop hq) : Fits (e.drop (k + 1)))
     refine TC.drawS (.blk g9 (.cells p.cs.toArray 104 (0, 0)) :: .rd lv 1 l.length (l.map (Value.int .i32)) :: [.rd v 3 e.length (encs e)]) [] (.cons (.p, 0) (.cons (.p, 1) (.cons (.p, 2) (.cons (.t, 3) (.cons (.t, 4) (.cons (.p, 6) (.cons (.p, 7) (.cons (.t, 8) (.cons (.t, 9) (.cons (.o, 5) (.cons (.p, 10) (.cons (.p, 11) (.nil))))))))))))) mo (by kernel_rfl) (TR.p rfl rfl wt0 (op_move rfl) (TR.p rfl rfl wt0 (op_move rfl) (TR.p rfl rfl wt0 (op_field fld_api_Part_N rfl) (TR.t rfl rfl wt0 (op_load ts_int rfl m0 rfl) (fun _ h => h.drop2) (TR.t rfl rfl wt0 (op_cut 0 p.n.toNat tsl_int32 rfl rd1 (vlo := none) (vhi := (some _)) rfl rfl (.inl ⟨rfl, rfl⟩) (.inr ⟨_, _, rfl, by omega⟩) (by omega) (by omega)) (fun _ h => h.drop2) ?_)))))
     refine TR.p rfl rfl wt0 (op_move rfl) (TR.p rfl rfl wt0 (op_field fld_api_Part_N rfl) (TR.t rfl rfl wt0 (op_load ts_int rfl m0 rfl) (fun _ h => h.drop2) (TR.t rfl rfl wt0 (op_cut p.n.toNat l.length tsl_int32 rfl rd1 (vlo := (some _)) (vhi := none) rfl rfl (.inr ⟨_, _, rfl, by omega⟩) (.inl ⟨rfl, rfl⟩) (by omega) (by omega)) (fun _ h => h.drop2) (TR.hp (fun _ h => h.pick2) ?_))))
     refine TR.o rfl rfl wt0 (OpX.append (bytes := 4) tsl_int32 (by decide) (by decide) rfl (Rdb.ints_take rd2 p.n.toNat hln) (ints_one _) (by omega) (zs := (out ++ l.take p.n.toNat).map (Value.int .i32)) (by simp)) (by rintro v3 _ rfl; intro w h; exact h.tail) ?_; rintro v3 _ rfl
     refine TR.know (fun _ h => row1 h) (fun o3 => (TR.hp (fun _ h => row_len1 h) (TR.p rfl rfl wt0 (op_assign rfl) (TR.p rfl rfl wt0 (op_assign rfl) (TR.hp (fun _ h => h.pick2) (TR.hp (fun _ h => rd_drop h p.n.toNat hln) (TR.nil (TQ.block_normal (TQ.block_normal (TQ.then (TC.region (TL.opP rfl (op_add rfl rfl rfl (by omega) (by omega)) (TL.mv rfl rfl (TL.nil ?_))))))))))))))
     exact TQ.round (k + 1, (l.drop p.n.toNat), (out ++ l.take p.n.toNat), (Value.cut lv p.n.toNat l.length 1), v3) (hc) (by show _ - (k + 1) < _ - k; omega) ⟨rfl, rfl, rfl, rfl, rfl, trivial⟩ (fun _ h => h.drop2)
    ·refine TC.seq (TC.region (TL.opP rfl (op_eql rfl rfl) (TL.as rfl rfl (TL.nil (TQ.then ?_)))))
     refine TC.sp rfl (fun c5 => ?_) (fun c5 => ?_)
     ·obtain ⟨hln, hp0, hc⟩ := hI.stepD hfit hkl hpk c4 c5
      refine TC.region (TL.mv rfl rfl (TL.opP rfl (op_field fld_api_Part_N rfl) (TL.opV rfl (op_load ts_int rfl m0 rfl) (TL.opV rfl (op_cut p.n.toNat l.length tsl_int32 rfl rd1 (vlo := (some _)) (vhi := none) rfl rfl (.inr ⟨_, _, rfl, by omega⟩) (.inl ⟨rfl, rfl⟩) (by omega) (by omega)) (TL.as rfl rfl (TL.hp (fun _ h => h.pick1) (TL.hp (fun _ h => rd_drop h p.n.toNat hln) (TL.nil (TQ.block_normal (TQ.block_normal (TQ.then (TC.region (TL.opP rfl (op_add rfl rfl rfl (by omega) (by omega)) (TL.mv rfl rfl (TL.nil ?_)))))))))))))))
      exact TQ.round (k + 1, (l.drop p.n.toNat), out, (Value.cut lv p.n.toNat l.length 1), ov) (hc) (by show _ - (k + 1) < _ - k; omega) ⟨rfl, rfl, rfl, rfl, rfl, trivial⟩ (fun _ h => h.drop1)
     ·obtain ⟨hln, hc⟩ := hI.stepP hfit hkl hpk c4 c5
      have hct := hc.to_
      rw [List.length_append] at hct
      have hfd2 := fromS_pos (fun q hq => hfit q (List.mem_of_mem_drop hq) : Fits (e.drop (k + 1)))
      refine TC.region (TL.mv rfl rfl (TL.opP rfl (op_field fld_api_Part_Text rfl) (TL.opV rfl (op_load ts_string rfl m0 rfl) ?_)))
      refine TL.opX rfl (OpX.runes un_string tsl_int32 un_int32 rfl (by omega)) ?_; rintro v4 _ rfl
      refine TL.know (fun _ h => row1 h) (fun o4 => (TL.hp (fun _ h => h.pick3) ?_))
      refine TL.opX rfl (OpX.append (bytes := 4) tsl_int32 (by decide) (by decide) rfl rw1 (ints_one _) (by omega) (zs := (out ++ dec p.text).map (Value.int .i32)) (by simp)) ?_; rintro v5 _ rfl
      refine TL.know (fun _ h => row1 h) (fun o5 => (TL.hp (fun _ h => row_len1 h) (TL.as rfl rfl (TL.nil (TQ.block_normal (TQ.block_normal (TQ.then (TC.region (TL.opP rfl (op_add rfl rfl rfl (by omega) (by omega)) (TL.mv rfl rfl (TL.nil ?_)))))))))))
      exact TQ.round (k + 1, l, (out ++ dec p.text), lv, v5) (hc) (by show _ - (k + 1) < _ - k; omega) ⟨rfl, rfl, rfl, rfl, rfl, trivial⟩ (fun _ h => h.drop2.drop1.pick2.pick1.pick2)
   ·refine TC.exit (TQ.then_exit (TQ.loop_exit (TQ.block_hit (TQ.then (TC.seq (TC.region (TL.mv rfl rfl (TL.opV rfl (op_unrunes tsl_int32 un_int32 un_string rfl rw1) (TL.as rfl rfl (TL.as rfl rfl (TL.nil (TQ.then (TC.ret ?_)))))))))))))
    refine ret2 rfl rfl rfl (fun w' hp => ?_)
    first
      | (have hbad : applyBad e s := by (unfold applyBad; grind)
         exact ⟨by rw [(apply_bad hbad).1, (apply_bad hbad).2], hp.kp⟩)
      | exact ⟨by rw [(apply_ok hok).1, (apply_ok hok).2, ← hI.stop (by omega)], hp.kp⟩

theorem norm_x (e : List Part) (v : Value) (hs : ∀ p ∈ e, p.text.size < 9223372036854775807) (hl : e.length ≤ 524288) (hT : tabs ∈ L) (hr : Rdb L v 3 e.length (encs e)) :
    CallX Tryd.prog 75 [v] S w0 (L) (fun u L' => ∃ v', u = v' ∧ L' = .row v' 104 3 (normF e).length (encs (normF e)) :: L) := by
 intro w hp
 refine calls_start Tryd.func75 rfl rfl rfl (hp) ?_
 refine TC.seq (TC.region (TL.as rfl rfl (TL.nil (TQ.then (TC.seq (TC.region ?_))))))
 refine TL.opX rfl (OpX.alloc tz_edit_maker rfl) ?_; rintro _ _ ⟨g3, rfl, rfl⟩
 refine TL.hp (fun _ h => new_nil 104 3 h) (TL.nil (TQ.then (TC.seq (TC.seq (TC.region (TL.mv rfl rfl (TL.opV rfl (op_lenV rfl un_sl_api_Part rfl hr.cons.cons) (TL.mv rfl rfl (TL.nil (TQ.then (TC.block (TC.loop (ι := Nat × Value) (fun (k, mv) => [(3, .pointer (some ⟨g3, 0, none⟩)), (6, v), (7, .int .i64 (e.length : Int)), (8, .int .i64 (k : Int))]) (fun (k, mv) => .blk g3 (.cells [mv].toArray 162 (0, 0)) :: .row mv 104 3 (addRs [] ((e.take k).filter fitsB)).length (encs (addRs [] ((e.take k).filter fitsB)).reverse) :: L) (fun (k, mv) => k ≤ e.length) (fun (k, mv) => e.length - k) ((0, .slice none 0 0)) (Nat.zero_le _) ⟨rfl, rfl, rfl, rfl, trivial⟩ (fun _ h => h.pick1) ?_))))))))))))
 rintro ⟨k, mv⟩ (hk : k ≤ e.length)
 show TC _ _ _ _ [(3, .pointer (some ⟨g3, 0, none⟩)), (6, v), (7, .int .i64 (e.length : Int)), (8, .int .i64 (k : Int))] _ _ (.blk g3 (.cells [mv].toArray 162 (0, 0)) :: .row mv 104 3 (addRs [] ((e.take k).filter fitsB)).length (encs (addRs [] ((e.take k).filter fitsB)).reverse) :: L)
 refine TC.seq (TC.region (TL.opP rfl (op_lss rfl rfl) (TL.nil (TQ.then (TC.seq ?_)))))
 refine TC.sp rfl (fun c1 => ?_) (fun c1 => ?_)
 ·have hkl : k < e.length := by omega
  obtain ⟨p, hpk⟩ : ∃ p, e.getD k default = p := ⟨_, rfl⟩
  have hd := drop_getD hkl hpk
  have hpe : p ∈ e := by rw [← hpk, List.getD_eq_getElem?_getD, List.getElem?_eq_getElem hkl]; exact List.getElem_mem hkl
  refine TC.skip (TQ.then (TC.seq (TC.block (TC.seq (TC.region (TL.opV rfl (op_index tsl_api_Part rfl hr.cons.cons rfl (by omega) (by omega)) (TL.opV rfl (op_loadRS tst_api_Part rfl hr.cons.cons (cs := p.cs) rfl (lkS hkl hpk) (by decide)) ?_)))))))
  refine TL.opX rfl (OpX.alloc tz_api_Part rfl) ?_; rintro _ _ ⟨g5, rfl, rfl⟩
  refine TL.opX0 (OpX.storeS tst_api_Part rfl rfl rfl rfl rfl (List.all_eq_true.1 rfl)) ?_; rintro _ _ rfl
  refine TL.nil (TQ.then (TC.seq (TC.region (TL.opV rfl (op_loadS tst_api_Part rfl m0 rfl) (TL.callq rfl en_110 rfl (fun w2 hp => fits_calls p w2 (tabs_at hp (.tail _ (.tail _ (.tail _ hT)))) (hs p hpe)) (TL.nil (TQ.then ?_)))))))
  refine TC.sp rfl (fun c2 => ?_) (fun c2 => ?_)
  ·refine TC.region (TL.opV rfl (op_loadS tst_api_Part rfl m0 rfl) ?_)
   refine TL.opX rfl (OpX.buildSlice (ps := #[(0, _)]) rfl (bs_api_Part_1 p)) ?_; rintro _ _ ⟨g15, rfl, rfl⟩
   refine TL.hp (fun _ h => blk_row (k := 3) (m := 1) h rfl (by decide)) (TL.hp (fun _ h => h.pick3.pick3) ?_)
   refine TL.opX rfl (OpX.callX en_98 rfl (add_x [p] (addRs [] ((e.take k).filter fitsB)) _ _ _ (norm_many (filter_fits _) (by have := List.length_filter_le fitsB (e.take k); rw [List.length_take] at this; omega) c2) rw0)) ?_; rintro _ _ ⟨rfl, w1, rfl⟩
   refine TL.nil (TQ.block_normal (TQ.then (TC.region (TL.opP rfl (op_add rfl rfl rfl (by omega) (by omega)) (TL.mv rfl rfl (TL.nil ?_))))))
   exact TQ.round (k + 1, w1) (by show k + 1 ≤ _; omega) (by show _ - (k + 1) < _ - k; omega) ⟨rfl, rfl, rfl, rfl, trivial⟩ (fun _ h => by dsimp only; first | (rw [filter_take hkl hpk, if_pos c2, addRs_append]; exact h.drop3.drop2) | (rw [filter_take hkl hpk, if_neg (by simp [c2]), List.append_nil]; exact h.drop3.drop2))
  ·refine TC.skip (TQ.block_normal (TQ.then (TC.region (TL.opP rfl (op_add rfl rfl rfl (by omega) (by omega)) (TL.mv rfl rfl (TL.nil ?_))))))
   exact TQ.round (k + 1, mv) (by show k + 1 ≤ _; omega) (by show _ - (k + 1) < _ - k; omega) ⟨rfl, rfl, rfl, rfl, trivial⟩ (fun _ h => by dsimp only; first | (rw [filter_take hkl hpk, if_pos c2, addRs_append]; exact h.tail) | (rw [filter_take hkl hpk, if_neg (by simp [c2]), List.append_nil]; exact h.tail))
 ·refine TC.exit (TQ.then_exit (TQ.loop_exit (TQ.block_hit (TQ.then (TC.seq (TC.region (TL.opP rfl (op_field fld_edit_maker_out rfl) (TL.opV rfl (op_load ts_sl_api_Part rfl m0 rfl) (TL.as rfl rfl (TL.nil (TQ.then (TC.ret ?_))))))))))))
  refine ret1 rfl rfl (fun w' hp => ?_)
  have hq := (hp.tail)
  rw [List.take_of_length_le (by omega)] at hq
  exact ⟨_, _, rfl, ⟨mv, rfl, by rw [normF, List.length_reverse]⟩, hq⟩

end Go.SK
