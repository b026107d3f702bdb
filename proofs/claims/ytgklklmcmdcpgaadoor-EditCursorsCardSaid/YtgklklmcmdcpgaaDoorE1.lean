/- Walks: what fits, and sizes. -/
import Derived.Test.YtgklklmcmdcpgaaDoorE0
import Derived.Test.YtgklklmcmdcpgaaDoorT
import Derived.Test.YtgklklmcmdcpgaaDoorSh
import Derived.Lib.TrimU
set_option linter.unusedVariables false
set_option linter.unusedSimpArgs false
set_option maxRecDepth 100000
namespace Go.SK
open Go Go.RowKit Go.Proofs
def Tabs (w : World) : Prop := Lib.Utf8Tabs (Tryd.laysValid_ren.g 3) (Tryd.laysValid_ren.g 4) w
theorem Tabs.bound {w : World} (h : Tabs w) (k : Nat) (hk : k = Tryd.laysValid_ren.g 3 ∨ k = Tryd.laysValid_ren.g 4) : k < w.heap.size := by
  rcases hk with rfl | rfl
  · exact World.block_lt_of_cell? w _ (h.1 0 (by omega))
  · exact World.block_lt_of_cell? w _ (h.2 0 (by omega)).1
theorem Tabs.move {w w' : World} (h : Tabs w) (hm : ∀ k, (k = Tryd.laysValid_ren.g 3 ∨ k = Tryd.laysValid_ren.g 4) → w'.heap[k]? = w.heap[k]?) : Tabs w' :=
  ⟨fun c hc => (World.cell?_of_block (hm _ (.inl rfl))).trans (h.1 c hc), fun i hi => ⟨(World.cell?_of_block (hm _ (.inr rfl))).trans (h.2 i hi).1, (World.cell?_of_block (hm _ (.inr rfl))).trans (h.2 i hi).2⟩⟩
theorem Tabs.kp {w w' : World} (h : Tabs w) (k : Kp NoB w w') : Tabs w' := h.move fun g hg => k.block g (h.bound g hg) (fun x => x)
/-- The tables, as an entry of the heap's list. -/
def tabs : Res := .ro (fun k => k = Tryd.laysValid_ren.g 3 ∨ k = Tryd.laysValid_ren.g 4) Tabs (fun _ _ hm h => h.move hm) (fun _ h => h.bound)
theorem tabs_holds {w : World} (h : Tabs w) : tabs.holds w := h
theorem tabs_at {S : Nat → Prop} {w0 w : World} {L : List Res} (h : Hp S w0 w L) (hm : tabs ∈ L) : Tabs w := h.at_ _ hm
theorem valid_calls (s : ByteArray) (w : World) (hT : Tabs w) (hs : s.size ≤ 9223372036854775807) : Calls Tryd.prog 51 (List.toArray [.string s]) w fun e w' => e = .returned (.bool (valid s)) ∧ Kp NoB w w' :=
  (Any.utf8_ValidString Tryd.laysValid s w hs hT).mono fun e w' h => ⟨h.1, Kp.of_below h.2⟩
theorem rcount_calls (s : ByteArray) (w : World) (hs : s.size < 9223372036854775807) : Calls Tryd.prog 48 (List.toArray [.string s]) w fun e w' => e = .returned (.int .i64 (rcount s)) ∧ Kp NoB w w' :=
  (Tryd.utf8_RuneCountInString s w hs).mono fun e w' h => ⟨h.1, by obtain ⟨p, rfl⟩ := h.2; exact Kp.iter w s p⟩
theorem fits_calls (p : Part) (w : World) (hT : Tabs w) (hs : p.text.size < 9223372036854775807) :
    Calls Tryd.prog 60 (List.toArray [p.val]) w fun e w' => e = .returned (.bool (fitsB p)) ∧ Kp NoB w w' := by
  refine calls_start Tryd.func60 rfl rfl rfl (Hp.init0 w) ?_
  refine TC.seq ?_
  refine TC.region ?_   -- region 0 edit.go:11
  refine TL.opX rfl (OpX.box (cs := _) rfl rfl) ?_; rintro _ _ ⟨g1, rfl, rfl⟩
  refine TL.opP rfl (op_assign rfl) ?_
  refine TL.nil ?_
  refine TQ.then ?_
  refine TC.seq ?_
  refine TC.seq ?_
  refine TC.region ?_   -- region 1 edit.go:12
  refine TL.opP rfl (op_field fld_api_Part_N rfl) ?_
  refine TL.opV rfl (op_load ts_int rfl m0 rfl) ?_
  refine TL.opP rfl (op_lss rfl rfl) ?_
  refine TL.opP rfl (op_move rfl) ?_
  first | refine TL.splitD (fun c1 => ?_) (fun c1 => ?_) | refine TL.splitB (fun c1 => ?_) (fun c1 => ?_)
  · refine TL.gFt rfl rfl rfl ?_
    refine TL.gFt rfl rfl rfl ?_
    refine TL.gFt rfl rfl rfl ?_
    refine TL.opP rfl (op_pickT rfl rfl) ?_
    refine TL.nil ?_
    refine TQ.then ?_
    refine TC.condT rfl ?_
    refine TC.seq ?_
    refine TC.region ?_   -- region 2 edit.go:13
    refine TL.opP rfl (op_assign rfl) ?_
    refine TL.nil ?_
    refine TQ.then ?_
    refine TC.ret ?_
    refine TQ.then_ret ?_
    refine ret1 rfl rfl (fun w' hp => ?_)
    exact ⟨by grind [fitsB], hp.kp⟩
  · refine TL.gT rfl rfl ?_
    refine TL.opP rfl (op_field fld_api_Part_N rfl) ?_
    refine TL.gT rfl rfl ?_
    refine TL.opV rfl (op_load ts_int rfl m0 rfl) ?_
    refine TL.gT rfl rfl ?_
    refine TL.opP rfl (op_gtr rfl rfl) ?_
    refine TL.opP rfl (op_pickF rfl rfl) ?_
    refine TL.nil ?_
    refine TQ.then ?_
    first | refine TC.condD rfl (fun c2 => ?_) (fun c2 => ?_) | refine TC.condB rfl (fun c2 => ?_) (fun c2 => ?_)
    · refine TC.seq ?_
      refine TC.region ?_   -- region 2 edit.go:13
      refine TL.opP rfl (op_assign rfl) ?_
      refine TL.nil ?_
      refine TQ.then ?_
      refine TC.ret ?_
      refine TQ.then_ret ?_
      refine ret1 rfl rfl (fun w' hp => ?_)
      exact ⟨by grind [fitsB], hp.kp⟩
    · refine TC.skip ?_
      refine TQ.then ?_
      refine TC.seq ?_
      refine TC.seq ?_
      refine TC.region ?_   -- region 3 edit.go:15
      refine TL.opP rfl (op_field fld_api_Part_Kind rfl) ?_
      refine TL.opV rfl (op_load ts_int rfl m0 rfl) ?_
      refine TL.nil ?_
      refine TQ.then ?_
      refine TC.block ?_
      refine TC.seq ?_
      refine TC.seq ?_
      refine TC.region ?_   -- region 4 edit.go:16
      refine TL.opP rfl (op_eql rfl rfl) ?_
      refine TL.opP rfl (op_assign rfl) ?_
      refine TL.nil ?_
      refine TQ.then ?_
      first | refine TC.condD rfl (fun c3 => ?_) (fun c3 => ?_) | refine TC.condB rfl (fun c3 => ?_) (fun c3 => ?_)
      · refine TC.skip ?_
        refine TQ.then ?_
        refine TC.condT rfl ?_
        refine TC.seq ?_
        refine TC.region ?_   -- region 6 edit.go:17
        refine TL.opP rfl (op_field fld_api_Part_Text rfl) ?_
        refine TL.opV rfl (op_load ts_string rfl m0 rfl) ?_
        refine TL.opP rfl (op_seql rfl rfl) ?_
        refine TL.opP rfl (op_assign rfl) ?_
        refine TL.nil ?_
        refine TQ.then ?_
        refine TC.ret ?_
        refine TQ.block_ret ?_
        refine TQ.then_ret ?_
        refine ret1 rfl rfl (fun w' hp => ?_)
        exact ⟨by grind [fitsB], hp.kp⟩
      · refine TC.region ?_   -- region 5 edit.go:16
        refine TL.opP rfl (op_eql rfl rfl) ?_
        refine TL.opP rfl (op_assign rfl) ?_
        refine TL.nil ?_
        refine TQ.then ?_
        first | refine TC.condD rfl (fun c4 => ?_) (fun c4 => ?_) | refine TC.condB rfl (fun c4 => ?_) (fun c4 => ?_)
        · refine TC.seq ?_
          refine TC.region ?_   -- region 6 edit.go:17
          refine TL.opP rfl (op_field fld_api_Part_Text rfl) ?_
          refine TL.opV rfl (op_load ts_string rfl m0 rfl) ?_
          refine TL.opP rfl (op_seql rfl rfl) ?_
          refine TL.opP rfl (op_assign rfl) ?_
          refine TL.nil ?_
          refine TQ.then ?_
          refine TC.ret ?_
          refine TQ.block_ret ?_
          refine TQ.then_ret ?_
          refine ret1 rfl rfl (fun w' hp => ?_)
          exact ⟨by grind [fitsB], hp.kp⟩
        · refine TC.skip ?_
          refine TQ.block_normal ?_
          refine TQ.then ?_
          refine TC.seq ?_
          refine TC.draw [] (.cons (.p, 0) (.cons (.t, 1) (.cons (.p, 2) (.cons (.p, 3) (.cons (.p, 4) (.cons (.t, 5) (.cons (.t, 6) (.cons (.p, 7) (.cons (.p, 8) (.cons (.p, 9) (.cons (.p, 12) (.cons (.t, 10) (.cons (.t, 11) (.cons (.t, 13) (.cons (.p, 14) (.cons (.p, 15) (.cons (.p, 16) (.nil)))))))))))))))))) mo (by kernel_rfl) ?_   -- region 7 edit.go:19
          refine TR.p rfl rfl wt0 (op_field fld_api_Part_Kind rfl) ?_
          refine TR.t rfl rfl wt0 (op_load ts_int rfl m0 rfl) (fun _ h => h) ?_
          refine TR.p rfl rfl wt0 (op_eql rfl rfl) ?_
          refine TR.p rfl rfl wt0 (op_move rfl) ?_
          first | refine TR.splitD (fun c5 => ?_) (fun c5 => ?_) | refine TR.splitB (fun c5 => ?_) (fun c5 => ?_)
          · refine TR.p rfl rfl (by exact wtT rfl rfl) (op_field fld_api_Part_Text rfl) ?_
            refine TR.t rfl rfl (by exact wtT rfl rfl) (op_load ts_string rfl m0 rfl) (fun _ h => h) ?_
            refine TR.tcall rfl rfl (by exact wtT rfl rfl) en_51 rfl (fun w2 hp => valid_calls _ _ (hT.kp hp.kp) (by omega)) (fun _ h => h) ?_
            refine TR.p rfl rfl wt0 (op_pickT rfl rfl) ?_
            refine TR.p rfl rfl wt0 (op_move rfl) ?_
            first | refine TR.splitD (fun c6 => ?_) (fun c6 => ?_) | refine TR.splitB (fun c6 => ?_) (fun c6 => ?_)
            · refine TR.p rfl rfl (by exact wtT rfl rfl) (op_field fld_api_Part_Text rfl) ?_
              refine TR.p rfl rfl (by exact wtT rfl rfl) (op_field fld_api_Part_N rfl) ?_
              refine TR.t rfl rfl (by exact wtT rfl rfl) (op_load ts_string rfl m0 rfl) (fun _ h => h) ?_
              refine TR.tcall rfl rfl (by exact wtT rfl rfl) en_48 rfl (fun w2 hp => rcount_calls _ _ hs) (fun _ h => h) ?_
              refine TR.t rfl rfl (by exact wtT rfl rfl) (op_load ts_int rfl m0 rfl) (fun _ h => h) ?_
              refine TR.p rfl rfl (by exact wtT rfl rfl) (op_eql rfl rfl) ?_
              refine TR.p rfl rfl wt0 (op_pickT rfl rfl) ?_
              refine TR.p rfl rfl wt0 (op_assign rfl) ?_
              refine TR.nil ?_
              refine TQ.then ?_
              refine TC.ret ?_
              refine ret1 rfl rfl (fun w' hp => ?_)
              exact ⟨by grind [fitsB], hp.kp⟩
            · refine TR.off rfl rfl (by exact wtFf rfl rfl) ?_
              refine TR.off rfl rfl (by exact wtFf rfl rfl) ?_
              refine TR.offT rfl rfl (by exact wtFf rfl rfl) (fun _ h => h) ?_
              refine TR.offT rfl rfl (by exact wtFf rfl rfl) (fun _ h => h) ?_
              refine TR.offT rfl rfl (by exact wtFf rfl rfl) (fun _ h => h) ?_
              refine TR.off rfl rfl (by exact wtFf rfl rfl) ?_
              refine TR.p rfl rfl wt0 (op_pickF rfl rfl) ?_
              refine TR.p rfl rfl wt0 (op_assign rfl) ?_
              refine TR.nil ?_
              refine TQ.then ?_
              refine TC.ret ?_
              refine ret1 rfl rfl (fun w' hp => ?_)
              exact ⟨by grind [fitsB], hp.kp⟩
          · refine TR.off rfl rfl (by exact wtFf rfl rfl) ?_
            refine TR.offT rfl rfl (by exact wtFf rfl rfl) (fun _ h => h) ?_
            refine TR.offT rfl rfl (by exact wtFf rfl rfl) (fun _ h => h) ?_
            refine TR.p rfl rfl wt0 (op_pickF rfl rfl) ?_
            refine TR.p rfl rfl wt0 (op_move rfl) ?_
            refine TR.off rfl rfl (by exact wtFf rfl rfl) ?_
            refine TR.off rfl rfl (by exact wtFf rfl rfl) ?_
            refine TR.offT rfl rfl (by exact wtFf rfl rfl) (fun _ h => h) ?_
            refine TR.offT rfl rfl (by exact wtFf rfl rfl) (fun _ h => h) ?_
            refine TR.offT rfl rfl (by exact wtFf rfl rfl) (fun _ h => h) ?_
            refine TR.off rfl rfl (by exact wtFf rfl rfl) ?_
            refine TR.p rfl rfl wt0 (op_pickF rfl rfl) ?_
            refine TR.p rfl rfl wt0 (op_assign rfl) ?_
            refine TR.nil ?_
            refine TQ.then ?_
            refine TC.ret ?_
            refine ret1 rfl rfl (fun w' hp => ?_)
            exact ⟨by grind [fitsB], hp.kp⟩

theorem sizes_calls (e : List Part) (v : Value) (w : World) (hT : Tabs w) (hs : ∀ p ∈ e, p.text.size < 9223372036854775807) (hv : RdRow w v 3 e.length (encs e)) :
    Calls Tryd.prog 58 (List.toArray [v]) w fun e' w' => e' = .returned (.tuple #[.int .i64 (sizesF e).1, .int .i64 (sizesF e).2.1, .bool (sizesF e).2.2]) ∧ Kp NoB w w' := by
  have hlen : e.length ≤ 9223372036854775807 := by obtain ⟨_, A, c, _, h1, h2, _⟩ := hv; simp only [maxLen] at h2; omega
  refine calls_start Tryd.func58 rfl rfl rfl (Hp.i1 (r := .rd v 3 e.length (encs e)) hv) ?_
  refine TC.seq ?_
  refine TC.region ?_   -- region 0 edit.go:23
  refine TL.opP rfl (op_assign rfl) ?_
  refine TL.opP rfl (op_assign rfl) ?_
  refine TL.opP rfl (op_assign rfl) ?_
  refine TL.nil ?_
  refine TQ.then ?_
  refine TC.seq ?_
  refine TC.seq ?_
  refine TC.region ?_   -- region 1 edit.go:24
  refine TL.opP rfl (op_move rfl) ?_
  refine TL.opV rfl (op_lenV rfl un_sl_api_Part rfl rd0) ?_
  refine TL.opP rfl (op_move rfl) ?_
  refine TL.nil ?_
  refine TQ.then ?_
  refine TC.block ?_
  refine TC.loop (ι := Nat × Int × Int) (fun (k, f, t) => [(0, v), (2, .int .i64 f), (3, .int .i64 t), (7, v), (8, .int .i64 (e.length : Int)), (9, .int .i64 (k : Int))]) (fun (k, f, t) => [.rd v 3 e.length (encs e)]) (fun (k, f, t) => k ≤ e.length ∧ sizesGo (prevAt e k) (e.drop k) f t = sizesF e ∧ 0 ≤ f ∧ f ≤ 1099511627776 ∧ 0 ≤ t ∧ t ≤ 1099511627776) (fun (k, f, t) => e.length - k) ((0, 0, 0)) (⟨Nat.zero_le _, rfl, by omega, by omega, by omega, by omega⟩) ⟨rfl, rfl, rfl, rfl, rfl, rfl, trivial⟩ (fun _ h => h) ?_
  rintro ⟨k, f, t⟩ ⟨hk, hgo, hf0, hf1, ht0, ht1⟩
  show TC _ _ _ _ [(0, v), (2, .int .i64 f), (3, .int .i64 t), (7, v), (8, .int .i64 (e.length : Int)), (9, .int .i64 (k : Int))] _ _ ([.rd v 3 e.length (encs e)])
  refine TC.seq ?_
  refine TC.region ?_   -- region 2 edit.go:24
  refine TL.opP rfl (op_lss rfl rfl) ?_
  refine TL.nil ?_
  refine TQ.then ?_
  refine TC.seq ?_
  first | refine TC.condD rfl (fun c1 => ?_) (fun c1 => ?_) | refine TC.condB rfl (fun c1 => ?_) (fun c1 => ?_)
  · have hkl : k < e.length := by omega
    obtain ⟨p, hpk⟩ : ∃ p, e.getD k default = p := ⟨_, rfl⟩
    have hd := drop_getD hkl hpk
    have hpe : p ∈ e := by rw [← hpk, List.getD_eq_getElem?_getD, List.getElem?_eq_getElem hkl]; exact List.getElem_mem hkl
    refine TC.skip ?_
    refine TQ.then ?_
    refine TC.seq ?_
    refine TC.block ?_
    refine TC.seq ?_
    refine TC.region ?_   -- region 3 edit.go:24
    refine TL.opP rfl (op_move rfl) ?_
    refine TL.opV rfl (op_index tsl_api_Part rfl rd0 rfl (by omega) (by omega)) ?_
    refine TL.opV rfl (op_loadRS tst_api_Part rfl rd0 (cs := p.cs) rfl (lkS hkl hpk) (by decide)) ?_
    refine TL.opX rfl (OpX.alloc tz_api_Part rfl) ?_; rintro _ _ ⟨g6, rfl, rfl⟩
    refine TL.opP rfl (op_assign rfl) ?_
    refine TL.opX0 (OpX.storeS tst_api_Part rfl rfl rfl rfl rfl (List.all_eq_true.1 rfl)) ?_; rintro _ _ rfl
    refine TL.nil ?_
    refine TQ.then ?_
    refine TC.seq ?_
    refine TC.join1 [(0, v), (2, .int .i64 f), (3, .int .i64 t), (7, v), (8, .int .i64 (e.length : Int)), (9, .int .i64 (k : Int)), (5, .int .i64 (k : Int)), (6, .pointer (some ⟨g6, 0, none⟩)), (45, .bool (stopB (prevAt e k) p))] ([.blk g6 (.cells p.cs.toArray 47 (0, 0)), .rd v 3 e.length (encs e)]) ?_ ?_
    · refine TC.draw [] (.cons (.t, 0) (.cons (.t, 1) (.cons (.p, 2) (.cons (.p, 3) (.cons (.p, 4) (.cons (.p, 5) (.cons (.p, 6) (.cons (.p, 7) (.cons (.p, 8) (.cons (.p, 9) (.cons (.p, 13) (.cons (.t, 10) (.cons (.p, 11) (.cons (.t, 12) (.cons (.t, 14) (.cons (.p, 15) (.cons (.p, 16) (.cons (.p, 17) (.cons (.p, 18) (.cons (.p, 19) (.cons (.t, 20) (.cons (.p, 21) (.cons (.t, 22) (.cons (.p, 23) (.cons (.p, 24) (.cons (.p, 25) (.cons (.t, 26) (.cons (.p, 27) (.cons (.p, 28) (.cons (.p, 29) (.cons (.p, 30) (.cons (.p, 31) (.nil))))))))))))))))))))))))))))))))) mo (by kernel_rfl) ?_   -- region 4 edit.go:25
      refine TR.t rfl rfl wt0 (op_loadS tst_api_Part rfl m0 rfl) (fun _ h => h) ?_
      refine TR.tcall rfl rfl wt0 en_60 rfl (fun w2 hp => fits_calls p w2 (hT.kp hp.kp) (hs p hpe)) (fun _ h => h) ?_
      refine TR.p rfl rfl wt0 (op_not rfl rfl) ?_
      refine TR.p rfl rfl wt0 (op_move rfl) ?_
      first | refine TR.splitD (fun c2 => ?_) (fun c2 => ?_) | refine TR.splitB (fun c2 => ?_) (fun c2 => ?_)
      · refine TR.off rfl rfl (by exact wtFt rfl rfl) ?_
        refine TR.off rfl rfl (by exact wtFt rfl rfl) ?_
        refine TR.off rfl rfl (by exact wtFt rfl rfl) ?_
        refine TR.off rfl rfl (by exact wtU rfl rfl) ?_
        refine TR.off rfl rfl (by exact wtU rfl rfl) ?_
        refine TR.off rfl rfl (by exact wtU rfl rfl) ?_
        refine TR.off rfl rfl (by exact wtU rfl rfl) ?_
        refine TR.offT rfl rfl (by exact wtU rfl rfl) (fun _ h => h) ?_
        refine TR.off rfl rfl (by exact wtU rfl rfl) ?_
        refine TR.offT rfl rfl (by exact wtU rfl rfl) (fun _ h => h) ?_
        refine TR.offT rfl rfl (by exact wtU rfl rfl) (fun _ h => h) ?_
        refine TR.off rfl rfl (by exact wtU rfl rfl) ?_
        refine TR.off rfl rfl (by exact wtU rfl rfl) ?_
        refine TR.off rfl rfl (by exact wtU rfl rfl) ?_
        refine TR.off rfl rfl (by exact wtU rfl rfl) ?_
        refine TR.off rfl rfl (by exact wtU rfl rfl) ?_
        refine TR.offT rfl rfl (by exact wtU rfl rfl) (fun _ h => h) ?_
        refine TR.off rfl rfl (by exact wtU rfl rfl) ?_
        refine TR.offT rfl rfl (by exact wtU rfl rfl) (fun _ h => h) ?_
        refine TR.off rfl rfl (by exact wtU rfl rfl) ?_
        refine TR.off rfl rfl (by exact wtU rfl rfl) ?_
        refine TR.off rfl rfl (by exact wtU rfl rfl) ?_
        refine TR.offT rfl rfl (by exact wtU rfl rfl) (fun _ h => h) ?_
        refine TR.off rfl rfl (by exact wtU rfl rfl) ?_
        refine TR.off rfl rfl (by exact wtU rfl rfl) ?_
        refine TR.off rfl rfl (by exact wtU rfl rfl) ?_
        refine TR.off rfl rfl (by exact wtFt rfl rfl) ?_
        refine TR.p rfl rfl wt0 (op_pickT rfl rfl) ?_
        refine TR.nil ?_
        exact TQ.join1 ⟨rfl, rfl, rfl, rfl, rfl, rfl, rfl, rfl, gb rfl (by grind [stopB, prevAt]), trivial⟩ (fun _ h => h)
      · refine TR.p rfl rfl (by exact wtT rfl rfl) (op_move rfl) ?_
        refine TR.p rfl rfl (by exact wtT rfl rfl) (op_gtr rfl rfl) ?_
        refine TR.p rfl rfl (by exact wtT rfl rfl) (op_move rfl) ?_
        first | refine TR.splitD (fun c3 => ?_) (fun c3 => ?_) | refine TR.splitB (fun c3 => ?_) (fun c3 => ?_)
        · refine TR.p rfl rfl (by exact wtT rfl rfl) (op_move rfl) ?_
          refine TR.p rfl rfl (by exact wtT rfl rfl) (op_move rfl) ?_
          refine TR.p rfl rfl (by exact wtT rfl rfl) (op_sub rfl rfl rfl (by omega) (by omega)) ?_
          refine TR.p rfl rfl (by exact wtT rfl rfl) (op_field fld_api_Part_Kind rfl) ?_
          refine TR.t rfl rfl (by exact wtT rfl rfl) (op_index tsl_api_Part rfl rd1 rfl (by omega) (by omega)) (fun _ h => h) ?_
          refine TR.p rfl rfl (by exact wtT rfl rfl) (op_fieldA fld_api_Part_Kind rfl) ?_
          refine TR.t rfl rfl (by exact wtT rfl rfl) (op_loadR ts_int rfl rd1 (lk (xs := e) (i := k-1) (j := 0) (by omega) (by show _ = (k-1)*3+0; omega) rfl)) (fun _ h => h) ?_
          refine TR.t rfl rfl (by exact wtT rfl rfl) (op_load ts_int rfl m0 rfl) (fun _ h => h) ?_
          refine TR.p rfl rfl (by exact wtT rfl rfl) (op_eql rfl rfl) ?_
          refine TR.p rfl rfl (by exact wtT rfl rfl) (op_move rfl) ?_
          first | refine TR.splitD (fun c4 => ?_) (fun c4 => ?_) | refine TR.splitB (fun c4 => ?_) (fun c4 => ?_)
          · refine TR.off rfl rfl (by exact wtFt rfl rfl) ?_
            refine TR.off rfl rfl (by exact wtFt rfl rfl) ?_
            refine TR.off rfl rfl (by exact wtFt rfl rfl) ?_
            refine TR.offT rfl rfl (by exact wtFt rfl rfl) (fun _ h => h) ?_
            refine TR.off rfl rfl (by exact wtFt rfl rfl) ?_
            refine TR.offT rfl rfl (by exact wtFt rfl rfl) (fun _ h => h) ?_
            refine TR.off rfl rfl (by exact wtFt rfl rfl) ?_
            refine TR.off rfl rfl (by exact wtFt rfl rfl) ?_
            refine TR.off rfl rfl (by exact wtU rfl rfl) ?_
            refine TR.offT rfl rfl (by exact wtU rfl rfl) (fun _ h => h) ?_
            refine TR.off rfl rfl (by exact wtU rfl rfl) ?_
            refine TR.off rfl rfl (by exact wtFt rfl rfl) ?_
            refine TR.p rfl rfl (by exact wtT rfl rfl) (op_pickT rfl rfl) ?_
            refine TR.p rfl rfl (by exact wtT rfl rfl) (op_pickT rfl rfl) ?_
            refine TR.p rfl rfl wt0 (op_pickF rfl rfl) ?_
            refine TR.nil ?_
            exact TQ.join1 ⟨rfl, rfl, rfl, rfl, rfl, rfl, rfl, rfl, gb rfl (by grind [stopB, prevAt]), trivial⟩ (fun _ h => h)
          · refine TR.p rfl rfl (by exact wtT rfl rfl) (op_move rfl) ?_
            refine TR.p rfl rfl (by exact wtT rfl rfl) (op_move rfl) ?_
            refine TR.p rfl rfl (by exact wtT rfl rfl) (op_sub rfl rfl rfl (by omega) (by omega)) ?_
            refine TR.t rfl rfl (by exact wtT rfl rfl) (op_index tsl_api_Part rfl rd1 rfl (by omega) (by omega)) (fun _ h => h) ?_
            refine TR.p rfl rfl (by exact wtT rfl rfl) (op_fieldA fld_api_Part_Kind rfl) ?_
            refine TR.t rfl rfl (by exact wtT rfl rfl) (op_loadR ts_int rfl rd1 (lk (xs := e) (i := k-1) (j := 0) (by omega) (by show _ = (k-1)*3+0; omega) rfl)) (fun _ h => h) ?_
            refine TR.p rfl rfl (by exact wtT rfl rfl) (op_eql rfl rfl) ?_
            refine TR.p rfl rfl (by exact wtT rfl rfl) (op_move rfl) ?_
            first | refine TR.splitD (fun c5 => ?_) (fun c5 => ?_) | refine TR.splitB (fun c5 => ?_) (fun c5 => ?_)
            · refine TR.p rfl rfl (by exact wtT rfl rfl) (op_field fld_api_Part_Kind rfl) ?_
              refine TR.t rfl rfl (by exact wtT rfl rfl) (op_load ts_int rfl m0 rfl) (fun _ h => h) ?_
              refine TR.p rfl rfl (by exact wtT rfl rfl) (op_eql rfl rfl) ?_
              refine TR.p rfl rfl (by exact wtT rfl rfl) (op_pickT rfl rfl) ?_
              refine TR.p rfl rfl (by exact wtT rfl rfl) (op_pickF rfl rfl) ?_
              refine TR.p rfl rfl (by exact wtT rfl rfl) (op_pickT rfl rfl) ?_
              refine TR.p rfl rfl wt0 (op_pickF rfl rfl) ?_
              refine TR.nil ?_
              exact TQ.join1 ⟨rfl, rfl, rfl, rfl, rfl, rfl, rfl, rfl, gb rfl (by grind [stopB, prevAt]), trivial⟩ (fun _ h => h)
            · refine TR.off rfl rfl (by exact wtFf rfl rfl) ?_
              refine TR.offT rfl rfl (by exact wtFf rfl rfl) (fun _ h => h) ?_
              refine TR.off rfl rfl (by exact wtFf rfl rfl) ?_
              refine TR.p rfl rfl (by exact wtT rfl rfl) (op_pickF rfl rfl) ?_
              refine TR.p rfl rfl (by exact wtT rfl rfl) (op_pickF rfl rfl) ?_
              refine TR.p rfl rfl (by exact wtT rfl rfl) (op_pickT rfl rfl) ?_
              refine TR.p rfl rfl wt0 (op_pickF rfl rfl) ?_
              refine TR.nil ?_
              exact TQ.join1 ⟨rfl, rfl, rfl, rfl, rfl, rfl, rfl, rfl, gb rfl (by grind [stopB, prevAt]), trivial⟩ (fun _ h => h)
        · refine TR.off rfl rfl (by exact wtFf rfl rfl) ?_
          refine TR.off rfl rfl (by exact wtFf rfl rfl) ?_
          refine TR.off rfl rfl (by exact wtFf rfl rfl) ?_
          refine TR.off rfl rfl (by exact wtFf rfl rfl) ?_
          refine TR.offT rfl rfl (by exact wtFf rfl rfl) (fun _ h => h) ?_
          refine TR.off rfl rfl (by exact wtFf rfl rfl) ?_
          refine TR.offT rfl rfl (by exact wtFf rfl rfl) (fun _ h => h) ?_
          refine TR.offT rfl rfl (by exact wtFf rfl rfl) (fun _ h => h) ?_
          refine TR.off rfl rfl (by exact wtFf rfl rfl) ?_
          refine TR.off rfl rfl (by exact wtFf rfl rfl) ?_
          refine TR.off rfl rfl (by exact wtU rfl rfl) ?_
          refine TR.off rfl rfl (by exact wtU rfl rfl) ?_
          refine TR.off rfl rfl (by exact wtU rfl rfl) ?_
          refine TR.offT rfl rfl (by exact wtU rfl rfl) (fun _ h => h) ?_
          refine TR.off rfl rfl (by exact wtU rfl rfl) ?_
          refine TR.offT rfl rfl (by exact wtU rfl rfl) (fun _ h => h) ?_
          refine TR.off rfl rfl (by exact wtU rfl rfl) ?_
          refine TR.off rfl rfl (by exact wtU rfl rfl) ?_
          refine TR.off rfl rfl (by exact wtU rfl rfl) ?_
          refine TR.offT rfl rfl (by exact wtU rfl rfl) (fun _ h => h) ?_
          refine TR.off rfl rfl (by exact wtU rfl rfl) ?_
          refine TR.off rfl rfl (by exact wtU rfl rfl) ?_
          refine TR.off rfl rfl (by exact wtFf rfl rfl) ?_
          refine TR.p rfl rfl (by exact wtT rfl rfl) (op_pickF rfl rfl) ?_
          refine TR.p rfl rfl wt0 (op_pickF rfl rfl) ?_
          refine TR.nil ?_
          exact TQ.join1 ⟨rfl, rfl, rfl, rfl, rfl, rfl, rfl, rfl, gb rfl (by grind [stopB, prevAt]), trivial⟩ (fun _ h => h)
    · first | refine TC.condD rfl (fun c6 => ?_) (fun c6 => ?_) | refine TC.condB rfl (fun c6 => ?_) (fun c6 => ?_)
      · refine TC.seq ?_
        refine TC.region ?_   -- region 5 edit.go:26
        refine TL.opP rfl (op_assign rfl) ?_
        refine TL.opP rfl (op_assign rfl) ?_
        refine TL.opP rfl (op_assign rfl) ?_
        refine TL.nil ?_
        refine TQ.then ?_
        refine TC.ret ?_
        refine TQ.then_ret ?_
        refine TQ.block_ret ?_
        refine TQ.then_ret ?_
        refine TQ.loop_ret ?_
        refine TQ.block_ret ?_
        refine TQ.then_ret ?_
        refine ret3 rfl rfl rfl rfl (fun w' hp => ?_)
        exact ⟨by rw [← hgo]; first | (rw [List.drop_eq_nil_of_le (by omega)]; rfl) | (rw [hd]; simp only [sizesGo]; grind [addF, addT]), hp.kp⟩
      · have hfit := fitsB_n (stopB_fits c6)
        refine TC.skip ?_
        refine TQ.then ?_
        refine TC.seq ?_
        refine TC.seq ?_
        refine TC.region ?_   -- region 6 edit.go:28
        refine TL.opP rfl (op_field fld_api_Part_Kind rfl) ?_
        refine TL.opV rfl (op_load ts_int rfl m0 rfl) ?_
        refine TL.opP rfl (op_neq rfl rfl) ?_
        refine TL.nil ?_
        refine TQ.then ?_
        first | refine TC.condD rfl (fun c7 => ?_) (fun c7 => ?_) | refine TC.condB rfl (fun c7 => ?_) (fun c7 => ?_)
        · refine TC.region ?_   -- region 7 edit.go:29
          refine TL.opP rfl (op_move rfl) ?_
          refine TL.opP rfl (op_field fld_api_Part_N rfl) ?_
          refine TL.opV rfl (op_load ts_int rfl m0 rfl) ?_
          refine TL.opP rfl (op_add rfl rfl rfl (by omega) (by omega)) ?_
          refine TL.opP rfl (op_assign rfl) ?_
          refine TL.nil ?_
          refine TQ.then ?_
          refine TC.seq ?_
          refine TC.seq ?_
          refine TC.region ?_   -- region 8 edit.go:31
          refine TL.opP rfl (op_field fld_api_Part_Kind rfl) ?_
          refine TL.opV rfl (op_load ts_int rfl m0 rfl) ?_
          refine TL.opP rfl (op_neq rfl rfl) ?_
          refine TL.nil ?_
          refine TQ.then ?_
          first | refine TC.condD rfl (fun c8 => ?_) (fun c8 => ?_) | refine TC.condB rfl (fun c8 => ?_) (fun c8 => ?_)
          · refine TC.region ?_   -- region 9 edit.go:32
            refine TL.opP rfl (op_move rfl) ?_
            refine TL.opP rfl (op_field fld_api_Part_N rfl) ?_
            refine TL.opV rfl (op_load ts_int rfl m0 rfl) ?_
            refine TL.opP rfl (op_add rfl rfl rfl (by omega) (by omega)) ?_
            refine TL.opP rfl (op_assign rfl) ?_
            refine TL.nil ?_
            refine TQ.then ?_
            refine TC.seq ?_
            refine TC.region ?_   -- region 10 edit.go:34
            refine TL.opP rfl (op_move rfl) ?_
            refine TL.opP rfl (op_gtr rfl rfl) ?_
            refine TL.opP rfl (op_move rfl) ?_
            first | refine TL.splitD (fun c9 => ?_) (fun c9 => ?_) | refine TL.splitB (fun c9 => ?_) (fun c9 => ?_)
            · refine TL.gFt rfl rfl rfl ?_
              refine TL.gFt rfl rfl rfl ?_
              refine TL.opP rfl (op_pickT rfl rfl) ?_
              refine TL.nil ?_
              refine TQ.then ?_
              refine TC.condT rfl ?_
              refine TC.seq ?_
              refine TC.region ?_   -- region 11 edit.go:35
              refine TL.opP rfl (op_assign rfl) ?_
              refine TL.opP rfl (op_assign rfl) ?_
              refine TL.opP rfl (op_assign rfl) ?_
              refine TL.nil ?_
              refine TQ.then ?_
              refine TC.ret ?_
              refine TQ.block_ret ?_
              refine TQ.then_ret ?_
              refine TQ.loop_ret ?_
              refine TQ.block_ret ?_
              refine TQ.then_ret ?_
              refine ret3 rfl rfl rfl rfl (fun w' hp => ?_)
              exact ⟨by rw [← hgo]; first | (rw [List.drop_eq_nil_of_le (by omega)]; rfl) | (rw [hd]; simp only [sizesGo]; grind [addF, addT]), hp.kp⟩
            · refine TL.gT rfl rfl ?_
              refine TL.opP rfl (op_move rfl) ?_
              refine TL.gT rfl rfl ?_
              refine TL.opP rfl (op_gtr rfl rfl) ?_
              refine TL.opP rfl (op_pickF rfl rfl) ?_
              refine TL.nil ?_
              refine TQ.then ?_
              first | refine TC.condD rfl (fun c10 => ?_) (fun c10 => ?_) | refine TC.condB rfl (fun c10 => ?_) (fun c10 => ?_)
              · refine TC.seq ?_
                refine TC.region ?_   -- region 11 edit.go:35
                refine TL.opP rfl (op_assign rfl) ?_
                refine TL.opP rfl (op_assign rfl) ?_
                refine TL.opP rfl (op_assign rfl) ?_
                refine TL.nil ?_
                refine TQ.then ?_
                refine TC.ret ?_
                refine TQ.block_ret ?_
                refine TQ.then_ret ?_
                refine TQ.loop_ret ?_
                refine TQ.block_ret ?_
                refine TQ.then_ret ?_
                refine ret3 rfl rfl rfl rfl (fun w' hp => ?_)
                exact ⟨by rw [← hgo]; first | (rw [List.drop_eq_nil_of_le (by omega)]; rfl) | (rw [hd]; simp only [sizesGo]; grind [addF, addT]), hp.kp⟩
              · refine TC.skip ?_
                refine TQ.block_normal ?_
                refine TQ.then ?_
                refine TC.region ?_   -- region 12 edit.go:24
                refine TL.opP rfl (op_add rfl rfl rfl (by omega) (by omega)) ?_
                refine TL.opP rfl (op_move rfl) ?_
                refine TL.nil ?_
                exact TQ.round (k + 1, addF p f, addT p t) (⟨by omega, by simp only [prevAt, Nat.add_sub_cancel, hpk]; rw [if_neg (by omega)]; rw [← hgo, hd, sizesGo, c6]; grind [addF, addT], by grind [addF], by grind [addF], by grind [addT], by grind [addT]⟩) (by show _ - (k + 1) < _ - k; omega) ⟨rfl, gi rfl (by grind [addF]), gi rfl (by grind [addT]), rfl, rfl, rfl, trivial⟩ (fun _ h => h.tail)
          · refine TC.skip ?_
            refine TQ.then ?_
            refine TC.seq ?_
            refine TC.region ?_   -- region 10 edit.go:34
            refine TL.opP rfl (op_move rfl) ?_
            refine TL.opP rfl (op_gtr rfl rfl) ?_
            refine TL.opP rfl (op_move rfl) ?_
            first | refine TL.splitD (fun c11 => ?_) (fun c11 => ?_) | refine TL.splitB (fun c11 => ?_) (fun c11 => ?_)
            · refine TL.gFt rfl rfl rfl ?_
              refine TL.gFt rfl rfl rfl ?_
              refine TL.opP rfl (op_pickT rfl rfl) ?_
              refine TL.nil ?_
              refine TQ.then ?_
              refine TC.condT rfl ?_
              refine TC.seq ?_
              refine TC.region ?_   -- region 11 edit.go:35
              refine TL.opP rfl (op_assign rfl) ?_
              refine TL.opP rfl (op_assign rfl) ?_
              refine TL.opP rfl (op_assign rfl) ?_
              refine TL.nil ?_
              refine TQ.then ?_
              refine TC.ret ?_
              refine TQ.block_ret ?_
              refine TQ.then_ret ?_
              refine TQ.loop_ret ?_
              refine TQ.block_ret ?_
              refine TQ.then_ret ?_
              refine ret3 rfl rfl rfl rfl (fun w' hp => ?_)
              exact ⟨by rw [← hgo]; first | (rw [List.drop_eq_nil_of_le (by omega)]; rfl) | (rw [hd]; simp only [sizesGo]; grind [addF, addT]), hp.kp⟩
            · refine TL.gT rfl rfl ?_
              refine TL.opP rfl (op_move rfl) ?_
              refine TL.gT rfl rfl ?_
              refine TL.opP rfl (op_gtr rfl rfl) ?_
              refine TL.opP rfl (op_pickF rfl rfl) ?_
              refine TL.nil ?_
              refine TQ.then ?_
              first | refine TC.condD rfl (fun c12 => ?_) (fun c12 => ?_) | refine TC.condB rfl (fun c12 => ?_) (fun c12 => ?_)
              · refine TC.seq ?_
                refine TC.region ?_   -- region 11 edit.go:35
                refine TL.opP rfl (op_assign rfl) ?_
                refine TL.opP rfl (op_assign rfl) ?_
                refine TL.opP rfl (op_assign rfl) ?_
                refine TL.nil ?_
                refine TQ.then ?_
                refine TC.ret ?_
                refine TQ.block_ret ?_
                refine TQ.then_ret ?_
                refine TQ.loop_ret ?_
                refine TQ.block_ret ?_
                refine TQ.then_ret ?_
                refine ret3 rfl rfl rfl rfl (fun w' hp => ?_)
                exact ⟨by rw [← hgo]; first | (rw [List.drop_eq_nil_of_le (by omega)]; rfl) | (rw [hd]; simp only [sizesGo]; grind [addF, addT]), hp.kp⟩
              · refine TC.skip ?_
                refine TQ.block_normal ?_
                refine TQ.then ?_
                refine TC.region ?_   -- region 12 edit.go:24
                refine TL.opP rfl (op_add rfl rfl rfl (by omega) (by omega)) ?_
                refine TL.opP rfl (op_move rfl) ?_
                refine TL.nil ?_
                exact TQ.round (k + 1, addF p f, addT p t) (⟨by omega, by simp only [prevAt, Nat.add_sub_cancel, hpk]; rw [if_neg (by omega)]; rw [← hgo, hd, sizesGo, c6]; grind [addF, addT], by grind [addF], by grind [addF], by grind [addT], by grind [addT]⟩) (by show _ - (k + 1) < _ - k; omega) ⟨rfl, gi rfl (by grind [addF]), gi rfl (by grind [addT]), rfl, rfl, rfl, trivial⟩ (fun _ h => h.tail)
        · refine TC.skip ?_
          refine TQ.then ?_
          refine TC.seq ?_
          refine TC.seq ?_
          refine TC.region ?_   -- region 8 edit.go:31
          refine TL.opP rfl (op_field fld_api_Part_Kind rfl) ?_
          refine TL.opV rfl (op_load ts_int rfl m0 rfl) ?_
          refine TL.opP rfl (op_neq rfl rfl) ?_
          refine TL.nil ?_
          refine TQ.then ?_
          first | refine TC.condD rfl (fun c13 => ?_) (fun c13 => ?_) | refine TC.condB rfl (fun c13 => ?_) (fun c13 => ?_)
          · refine TC.region ?_   -- region 9 edit.go:32
            refine TL.opP rfl (op_move rfl) ?_
            refine TL.opP rfl (op_field fld_api_Part_N rfl) ?_
            refine TL.opV rfl (op_load ts_int rfl m0 rfl) ?_
            refine TL.opP rfl (op_add rfl rfl rfl (by omega) (by omega)) ?_
            refine TL.opP rfl (op_assign rfl) ?_
            refine TL.nil ?_
            refine TQ.then ?_
            refine TC.seq ?_
            refine TC.region ?_   -- region 10 edit.go:34
            refine TL.opP rfl (op_move rfl) ?_
            refine TL.opP rfl (op_gtr rfl rfl) ?_
            refine TL.opP rfl (op_move rfl) ?_
            first | refine TL.splitD (fun c14 => ?_) (fun c14 => ?_) | refine TL.splitB (fun c14 => ?_) (fun c14 => ?_)
            · refine TL.gFt rfl rfl rfl ?_
              refine TL.gFt rfl rfl rfl ?_
              refine TL.opP rfl (op_pickT rfl rfl) ?_
              refine TL.nil ?_
              refine TQ.then ?_
              refine TC.condT rfl ?_
              refine TC.seq ?_
              refine TC.region ?_   -- region 11 edit.go:35
              refine TL.opP rfl (op_assign rfl) ?_
              refine TL.opP rfl (op_assign rfl) ?_
              refine TL.opP rfl (op_assign rfl) ?_
              refine TL.nil ?_
              refine TQ.then ?_
              refine TC.ret ?_
              refine TQ.block_ret ?_
              refine TQ.then_ret ?_
              refine TQ.loop_ret ?_
              refine TQ.block_ret ?_
              refine TQ.then_ret ?_
              refine ret3 rfl rfl rfl rfl (fun w' hp => ?_)
              exact ⟨by rw [← hgo]; first | (rw [List.drop_eq_nil_of_le (by omega)]; rfl) | (rw [hd]; simp only [sizesGo]; grind [addF, addT]), hp.kp⟩
            · refine TL.gT rfl rfl ?_
              refine TL.opP rfl (op_move rfl) ?_
              refine TL.gT rfl rfl ?_
              refine TL.opP rfl (op_gtr rfl rfl) ?_
              refine TL.opP rfl (op_pickF rfl rfl) ?_
              refine TL.nil ?_
              refine TQ.then ?_
              first | refine TC.condD rfl (fun c15 => ?_) (fun c15 => ?_) | refine TC.condB rfl (fun c15 => ?_) (fun c15 => ?_)
              · refine TC.seq ?_
                refine TC.region ?_   -- region 11 edit.go:35
                refine TL.opP rfl (op_assign rfl) ?_
                refine TL.opP rfl (op_assign rfl) ?_
                refine TL.opP rfl (op_assign rfl) ?_
                refine TL.nil ?_
                refine TQ.then ?_
                refine TC.ret ?_
                refine TQ.block_ret ?_
                refine TQ.then_ret ?_
                refine TQ.loop_ret ?_
                refine TQ.block_ret ?_
                refine TQ.then_ret ?_
                refine ret3 rfl rfl rfl rfl (fun w' hp => ?_)
                exact ⟨by rw [← hgo]; first | (rw [List.drop_eq_nil_of_le (by omega)]; rfl) | (rw [hd]; simp only [sizesGo]; grind [addF, addT]), hp.kp⟩
              · refine TC.skip ?_
                refine TQ.block_normal ?_
                refine TQ.then ?_
                refine TC.region ?_   -- region 12 edit.go:24
                refine TL.opP rfl (op_add rfl rfl rfl (by omega) (by omega)) ?_
                refine TL.opP rfl (op_move rfl) ?_
                refine TL.nil ?_
                exact TQ.round (k + 1, addF p f, addT p t) (⟨by omega, by simp only [prevAt, Nat.add_sub_cancel, hpk]; rw [if_neg (by omega)]; rw [← hgo, hd, sizesGo, c6]; grind [addF, addT], by grind [addF], by grind [addF], by grind [addT], by grind [addT]⟩) (by show _ - (k + 1) < _ - k; omega) ⟨rfl, gi rfl (by grind [addF]), gi rfl (by grind [addT]), rfl, rfl, rfl, trivial⟩ (fun _ h => h.tail)
          · refine TC.skip ?_
            refine TQ.then ?_
            refine TC.seq ?_
            refine TC.region ?_   -- region 10 edit.go:34
            refine TL.opP rfl (op_move rfl) ?_
            refine TL.opP rfl (op_gtr rfl rfl) ?_
            refine TL.opP rfl (op_move rfl) ?_
            first | refine TL.splitD (fun c16 => ?_) (fun c16 => ?_) | refine TL.splitB (fun c16 => ?_) (fun c16 => ?_)
            · refine TL.gFt rfl rfl rfl ?_
              refine TL.gFt rfl rfl rfl ?_
              refine TL.opP rfl (op_pickT rfl rfl) ?_
              refine TL.nil ?_
              refine TQ.then ?_
              refine TC.condT rfl ?_
              refine TC.seq ?_
              refine TC.region ?_   -- region 11 edit.go:35
              refine TL.opP rfl (op_assign rfl) ?_
              refine TL.opP rfl (op_assign rfl) ?_
              refine TL.opP rfl (op_assign rfl) ?_
              refine TL.nil ?_
              refine TQ.then ?_
              refine TC.ret ?_
              refine TQ.block_ret ?_
              refine TQ.then_ret ?_
              refine TQ.loop_ret ?_
              refine TQ.block_ret ?_
              refine TQ.then_ret ?_
              refine ret3 rfl rfl rfl rfl (fun w' hp => ?_)
              exact ⟨by rw [← hgo]; first | (rw [List.drop_eq_nil_of_le (by omega)]; rfl) | (rw [hd]; simp only [sizesGo]; grind [addF, addT]), hp.kp⟩
            · refine TL.gT rfl rfl ?_
              refine TL.opP rfl (op_move rfl) ?_
              refine TL.gT rfl rfl ?_
              refine TL.opP rfl (op_gtr rfl rfl) ?_
              refine TL.opP rfl (op_pickF rfl rfl) ?_
              refine TL.nil ?_
              refine TQ.then ?_
              first | refine TC.condD rfl (fun c17 => ?_) (fun c17 => ?_) | refine TC.condB rfl (fun c17 => ?_) (fun c17 => ?_)
              · refine TC.seq ?_
                refine TC.region ?_   -- region 11 edit.go:35
                refine TL.opP rfl (op_assign rfl) ?_
                refine TL.opP rfl (op_assign rfl) ?_
                refine TL.opP rfl (op_assign rfl) ?_
                refine TL.nil ?_
                refine TQ.then ?_
                refine TC.ret ?_
                refine TQ.block_ret ?_
                refine TQ.then_ret ?_
                refine TQ.loop_ret ?_
                refine TQ.block_ret ?_
                refine TQ.then_ret ?_
                refine ret3 rfl rfl rfl rfl (fun w' hp => ?_)
                exact ⟨by rw [← hgo]; first | (rw [List.drop_eq_nil_of_le (by omega)]; rfl) | (rw [hd]; simp only [sizesGo]; grind [addF, addT]), hp.kp⟩
              · refine TC.skip ?_
                refine TQ.block_normal ?_
                refine TQ.then ?_
                refine TC.region ?_   -- region 12 edit.go:24
                refine TL.opP rfl (op_add rfl rfl rfl (by omega) (by omega)) ?_
                refine TL.opP rfl (op_move rfl) ?_
                refine TL.nil ?_
                exact TQ.round (k + 1, addF p f, addT p t) (⟨by omega, by simp only [prevAt, Nat.add_sub_cancel, hpk]; rw [if_neg (by omega)]; rw [← hgo, hd, sizesGo, c6]; grind [addF, addT], by grind [addF], by grind [addF], by grind [addT], by grind [addT]⟩) (by show _ - (k + 1) < _ - k; omega) ⟨rfl, gi rfl (by grind [addF]), gi rfl (by grind [addT]), rfl, rfl, rfl, trivial⟩ (fun _ h => h.tail)
  · refine TC.exit ?_
    refine TQ.then_exit ?_
    refine TQ.loop_exit ?_
    refine TQ.block_hit ?_
    refine TQ.then ?_
    refine TC.seq ?_
    refine TC.region ?_   -- region 13 edit.go:38
    refine TL.opP rfl (op_move rfl) ?_
    refine TL.opP rfl (op_move rfl) ?_
    refine TL.opP rfl (op_assign rfl) ?_
    refine TL.opP rfl (op_assign rfl) ?_
    refine TL.opP rfl (op_assign rfl) ?_
    refine TL.nil ?_
    refine TQ.then ?_
    refine TC.ret ?_
    refine ret3 rfl rfl rfl rfl (fun w' hp => ?_)
    exact ⟨by rw [← hgo]; first | (rw [List.drop_eq_nil_of_le (by omega)]; rfl) | (rw [hd]; simp only [sizesGo]; grind [addF, addT]), hp.kp⟩

end Go.SK
