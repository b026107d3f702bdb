/- Walks: applying, inverse, one form, cursors, weights. -/
import Derived.Test.YtgklklmcmdcpgaaDoorE6
import Derived.Test.YtgklklmcmdcpgaaDoorP3
set_option linter.unusedVariables false
set_option linter.unusedSimpArgs false
set_option maxRecDepth 100000
namespace Go.SK
open Go Go.RowKit Go.Proofs
variable {S : Nat → Prop} {w0 : World} {F L : List Res}
theorem apply_calls (e : List Part) (s : ByteArray) (v : Value) (hss : s.size ≤ 70368744177664) (w : World) (hT : Tabs w) (hs : ∀ p ∈ e, p.text.size < 9223372036854775807) (hv : RdRow w v 3 e.length (encs e)) :
    Calls Tryd.prog 34 (List.toArray [v, .string s]) w fun e' w' => e' = .returned (.tuple #[.string (applyF e s), .int .i64 (applyE e s)]) ∧ Kp NoB w w' := by
  have hlen : e.length ≤ 9223372036854775807 := by obtain ⟨_, A, c, _, h1, h2, _⟩ := hv; simp only [maxLen] at h2; omega
  have hdl := dec_len s
  refine calls_start Tryd.func34 rfl rfl rfl (Hp.i1 (r := .rd v 3 e.length (encs e)) hv) ?_
  refine TC.seq ?_
  refine TC.region ?_   -- region 0 edit.go:116
  refine TL.opP rfl (op_assign rfl) ?_
  refine TL.opP rfl (op_assign rfl) ?_
  refine TL.nil ?_
  refine TQ.then ?_
  refine TC.seq ?_
  refine TC.region ?_   -- region 1 edit.go:117
  refine TL.opP rfl (op_move rfl) ?_
  refine TL.opX rfl (OpX.runes un_string tsl_int32 un_int32 rfl (by omega)) ?_; rintro v1 _ rfl
  refine TL.know (fun _ h => row1 h) (fun o1 => ?_)
  refine TL.hp (fun _ h => row_rd h) ?_
  refine TL.opP rfl (op_assign rfl) ?_
  refine TL.nil ?_
  refine TQ.then ?_
  refine TC.seq ?_
  refine TC.seq ?_
  refine TC.region ?_   -- region 2 edit.go:118
  refine TL.opP rfl (op_move rfl) ?_
  refine TL.callq rfl en_51 rfl (fun w2 hp => valid_calls s w2 (hT.kp hp.kp) (by omega)) ?_
  refine TL.opP rfl (op_not rfl rfl) ?_
  refine TL.opP rfl (op_move rfl) ?_
  first | refine TL.splitD (fun c1 => ?_) (fun c1 => ?_) | refine TL.splitB (fun c1 => ?_) (fun c1 => ?_)
  · refine TL.gFt rfl rfl rfl ?_
    refine TL.gFt rfl rfl rfl ?_
    refine TL.gFt rfl rfl rfl ?_
    refine TL.gFt rfl rfl rfl ?_
    refine TL.gFt rfl rfl rfl ?_
    refine TL.opP rfl (op_pickT rfl rfl) ?_
    refine TL.nil ?_
    refine TQ.then ?_
    refine TC.condT rfl ?_
    refine TC.seq ?_
    refine TC.region ?_   -- region 3 edit.go:119
    refine TL.opP rfl (op_assign rfl) ?_
    refine TL.opP rfl (op_assign rfl) ?_
    refine TL.nil ?_
    refine TQ.then ?_
    refine TC.ret ?_
    refine TQ.then_ret ?_
    refine ret2 rfl rfl rfl (fun w' hp => ?_)
    first
      | (have hbad : applyBad e s := by (unfold applyBad; grind)
         exact ⟨by rw [(apply_bad hbad).1, (apply_bad hbad).2], hp.kp⟩)
      | exact ⟨by rw [(apply_ok hok).1, (apply_ok hok).2, ← hI.stop (by omega)], hp.kp⟩
  · refine TL.gT rfl rfl ?_
    refine TL.opP rfl (op_move rfl) ?_
    refine TL.gT rfl rfl ?_
    refine TL.opP rfl (op_move rfl) ?_
    refine TL.gT rfl rfl ?_
    refine TL.opV rfl (op_lenV rfl un_sl_int32 rfl rd0) ?_
    refine TL.gT rfl rfl ?_
    refine TL.callq rfl en_25 rfl (fun w2 hp => check_calls e _ v w2 (hT.kp hp.kp) hs (rd1 _ _ _ hp)) ?_
    refine TL.gT rfl rfl ?_
    refine TL.opP rfl (op_neq rfl rfl) ?_
    refine TL.opP rfl (op_pickF rfl rfl) ?_
    refine TL.nil ?_
    refine TQ.then ?_
    first | refine TC.condD rfl (fun c2 => ?_) (fun c2 => ?_) | refine TC.condB rfl (fun c2 => ?_) (fun c2 => ?_)
    · refine TC.seq ?_
      refine TC.region ?_   -- region 3 edit.go:119
      refine TL.opP rfl (op_assign rfl) ?_
      refine TL.opP rfl (op_assign rfl) ?_
      refine TL.nil ?_
      refine TQ.then ?_
      refine TC.ret ?_
      refine TQ.then_ret ?_
      refine ret2 rfl rfl rfl (fun w' hp => ?_)
      first
        | (have hbad : applyBad e s := by (unfold applyBad; grind)
           exact ⟨by rw [(apply_bad hbad).1, (apply_bad hbad).2], hp.kp⟩)
        | exact ⟨by rw [(apply_ok hok).1, (apply_ok hok).2, ← hI.stop (by omega)], hp.kp⟩
    · have hok : ¬ applyBad e s := by unfold applyBad; grind
      have hfit := (ok_facts hok).2.2.2.1
      refine TC.skip ?_
      refine TQ.then ?_
      refine TC.seq ?_
      refine TC.region ?_   -- region 4 edit.go:121
      refine TL.opP rfl (op_move rfl) ?_
      refine TL.opV rfl (op_lenV rfl un_sl_int32 rfl rd0) ?_
      refine TL.opX rfl (OpX.make0 (m := (dec s).length) tsl_int32 rfl rfl rfl (by decide) (by omega)) ?_; rintro v2 _ rfl
      refine TL.know (fun _ h => row1 h) (fun o2 => ?_)
      refine TL.opP rfl (op_assign rfl) ?_
      refine TL.nil ?_
      refine TQ.then ?_
      refine TC.seq ?_
      refine TC.seq ?_
      refine TC.region ?_   -- region 5 edit.go:122
      refine TL.opP rfl (op_move rfl) ?_
      refine TL.opV rfl (op_lenV rfl un_sl_api_Part rfl rd2) ?_
      refine TL.opP rfl (op_move rfl) ?_
      refine TL.nil ?_
      refine TQ.then ?_
      refine TC.block ?_
      refine TC.loop (ι := Nat × List Int × List Int × Value × Value) (fun (k, l, out, lv, ov) => [(6, lv), (7, ov), (25, v), (26, .int .i64 (e.length : Int)), (27, .int .i64 (k : Int))]) (fun (k, l, out, lv, ov) => [.rd lv 1 l.length (l.map (Value.int .i32)), .row ov 21 1 out.length (out.map (Value.int .i32)), .rd v 3 e.length (encs e)]) (fun (k, l, out, lv, ov) => AInv e k l out (apGo e (dec s) [])) (fun (k, l, out, lv, ov) => e.length - k) ((0, dec s, [], v1, v2)) (AInv.start hok) ⟨rfl, rfl, rfl, rfl, rfl, trivial⟩ (fun _ h => h.pick2.pick1.pick2) ?_
      rintro ⟨k, l, out, lv, ov⟩ (hI : AInv e k l out (apGo e (dec s) []))
      have hk := hI.kle
      have hto := hI.to_
      show TC _ _ _ _ [(6, lv), (7, ov), (25, v), (26, .int .i64 (e.length : Int)), (27, .int .i64 (k : Int))] _ _ ([.rd lv 1 l.length (l.map (Value.int .i32)), .row ov 21 1 out.length (out.map (Value.int .i32)), .rd v 3 e.length (encs e)])
      refine TC.seq ?_
      refine TC.region ?_   -- region 6 edit.go:122
      refine TL.opP rfl (op_lss rfl rfl) ?_
      refine TL.nil ?_
      refine TQ.then ?_
      refine TC.seq ?_
      first | refine TC.condD rfl (fun c3 => ?_) (fun c3 => ?_) | refine TC.condB rfl (fun c3 => ?_) (fun c3 => ?_)
      · have hkl : k < e.length := by omega
        obtain ⟨p, hpk⟩ : ∃ p, e.getD k default = p := ⟨_, rfl⟩
        have hd := drop_getD hkl hpk
        have hpe : p ∈ e := by rw [← hpk, List.getD_eq_getElem?_getD, List.getElem?_eq_getElem hkl]; exact List.getElem_mem hkl
        have hfd := fromS_pos (fun q hq => hfit q (List.mem_of_mem_drop hq) : Fits (e.drop k))
        refine TC.skip ?_
        refine TQ.then ?_
        refine TC.seq ?_
        refine TC.block ?_
        refine TC.seq ?_
        refine TC.region ?_   -- region 7 edit.go:122
        refine TL.opV rfl (op_index tsl_api_Part rfl rd2 rfl (by omega) (by omega)) ?_
        refine TL.opV rfl (op_loadRS tst_api_Part rfl rd2 (cs := p.cs) rfl (lkS hkl hpk) (by decide)) ?_
        refine TL.opX rfl (OpX.alloc tz_api_Part rfl) ?_; rintro _ _ ⟨g9, rfl, rfl⟩
        refine TL.opX0 (OpX.storeS tst_api_Part rfl rfl rfl rfl rfl (List.all_eq_true.1 rfl)) ?_; rintro _ _ rfl
        refine TL.nil ?_
        refine TQ.then ?_
        refine TC.seq ?_
        refine TC.region ?_   -- region 8 edit.go:123
        refine TL.opP rfl (op_field fld_api_Part_Kind rfl) ?_
        refine TL.opV rfl (op_load ts_int rfl m0 rfl) ?_
        refine TL.nil ?_
        refine TQ.then ?_
        refine TC.block ?_
        refine TC.seq ?_
        refine TC.region ?_   -- region 10 edit.go:124
        refine TL.opP rfl (op_eql rfl rfl) ?_
        refine TL.opP rfl (op_assign rfl) ?_
        refine TL.nil ?_
        refine TQ.then ?_
        first | refine TC.condD rfl (fun c4 => ?_) (fun c4 => ?_) | refine TC.condB rfl (fun c4 => ?_) (fun c4 => ?_)
        · obtain ⟨hln, hp0, hc⟩ := hI.stepK hfit hkl hpk c4
          have hct := hc.to_
          rw [List.length_append, List.length_take] at hct
          have hfd2 := fromS_pos (fun q hq => hfit q (List.mem_of_mem_drop hq) : Fits (e.drop (k + 1)))
          refine TC.drawS (.blk g9 (.cells p.cs.toArray 47 (0, 0)) :: .rd lv 1 l.length (l.map (Value.int .i32)) :: [.rd v 3 e.length (encs e)]) [] (.cons (.p, 0) (.cons (.p, 1) (.cons (.p, 2) (.cons (.t, 3) (.cons (.t, 4) (.cons (.p, 6) (.cons (.p, 7) (.cons (.t, 8) (.cons (.t, 9) (.cons (.o, 5) (.cons (.p, 10) (.cons (.p, 11) (.nil))))))))))))) mo (by kernel_rfl) ?_   -- region 11 edit.go:125
          refine TR.p rfl rfl wt0 (op_move rfl) ?_
          refine TR.p rfl rfl wt0 (op_move rfl) ?_
          refine TR.p rfl rfl wt0 (op_field fld_api_Part_N rfl) ?_
          refine TR.t rfl rfl wt0 (op_load ts_int rfl m0 rfl) (fun _ h => h.drop2) ?_
          refine TR.t rfl rfl wt0 (op_cut 0 p.n.toNat tsl_int32 rfl rd1 (vlo := none) (vhi := (some _)) rfl rfl (.inl ⟨rfl, rfl⟩) (.inr ⟨_, _, rfl, by omega⟩) (by omega) (by omega)) (fun _ h => h.drop2) ?_
          refine TR.p rfl rfl wt0 (op_move rfl) ?_
          refine TR.p rfl rfl wt0 (op_field fld_api_Part_N rfl) ?_
          refine TR.t rfl rfl wt0 (op_load ts_int rfl m0 rfl) (fun _ h => h.drop2) ?_
          refine TR.t rfl rfl wt0 (op_cut p.n.toNat l.length tsl_int32 rfl rd1 (vlo := (some _)) (vhi := none) rfl rfl (.inr ⟨_, _, rfl, by omega⟩) (.inl ⟨rfl, rfl⟩) (by omega) (by omega)) (fun _ h => h.drop2) ?_
          refine TR.hp (fun _ h => h.pick2) ?_
          refine TR.o rfl rfl wt0 (OpX.append (bytes := 4) tsl_int32 (by decide) (by decide) rfl (Rdb.ints_take rd2 p.n.toNat hln) (ints_one _) (by omega) (zs := (out ++ l.take p.n.toNat).map (Value.int .i32)) (by simp)) (by rintro v3 _ rfl; intro w h; exact h.tail) ?_; rintro v3 _ rfl
          refine TR.know (fun _ h => row1 h) (fun o3 => ?_)
          refine TR.hp (fun _ h => row_len1 h) ?_
          refine TR.p rfl rfl wt0 (op_assign rfl) ?_
          refine TR.p rfl rfl wt0 (op_assign rfl) ?_
          refine TR.hp (fun _ h => h.pick2) ?_
          refine TR.hp (fun _ h => rd_drop h p.n.toNat hln) ?_
          refine TR.nil ?_
          refine TQ.block_normal ?_
          refine TQ.block_normal ?_
          refine TQ.then ?_
          refine TC.region ?_   -- region 14 edit.go:122
          refine TL.opP rfl (op_add rfl rfl rfl (by omega) (by omega)) ?_
          refine TL.opP rfl (op_move rfl) ?_
          refine TL.nil ?_
          exact TQ.round (k + 1, (l.drop p.n.toNat), (out ++ l.take p.n.toNat), (Value.cut lv p.n.toNat l.length 1), v3) (hc) (by show _ - (k + 1) < _ - k; omega) ⟨rfl, rfl, rfl, rfl, rfl, trivial⟩ (fun _ h => h.drop2)
        · refine TC.seq ?_
          refine TC.region ?_   -- region 12 edit.go:126
          refine TL.opP rfl (op_eql rfl rfl) ?_
          refine TL.opP rfl (op_assign rfl) ?_
          refine TL.nil ?_
          refine TQ.then ?_
          first | refine TC.condD rfl (fun c5 => ?_) (fun c5 => ?_) | refine TC.condB rfl (fun c5 => ?_) (fun c5 => ?_)
          · obtain ⟨hln, hp0, hc⟩ := hI.stepD hfit hkl hpk c4 c5
            refine TC.region ?_   -- region 13 edit.go:127
            refine TL.opP rfl (op_move rfl) ?_
            refine TL.opP rfl (op_field fld_api_Part_N rfl) ?_
            refine TL.opV rfl (op_load ts_int rfl m0 rfl) ?_
            refine TL.opV rfl (op_cut p.n.toNat l.length tsl_int32 rfl rd1 (vlo := (some _)) (vhi := none) rfl rfl (.inr ⟨_, _, rfl, by omega⟩) (.inl ⟨rfl, rfl⟩) (by omega) (by omega)) ?_
            refine TL.opP rfl (op_assign rfl) ?_
            refine TL.hp (fun _ h => h.pick1) ?_
            refine TL.hp (fun _ h => rd_drop h p.n.toNat hln) ?_
            refine TL.nil ?_
            refine TQ.block_normal ?_
            refine TQ.block_normal ?_
            refine TQ.then ?_
            refine TC.region ?_   -- region 14 edit.go:122
            refine TL.opP rfl (op_add rfl rfl rfl (by omega) (by omega)) ?_
            refine TL.opP rfl (op_move rfl) ?_
            refine TL.nil ?_
            exact TQ.round (k + 1, (l.drop p.n.toNat), out, (Value.cut lv p.n.toNat l.length 1), ov) (hc) (by show _ - (k + 1) < _ - k; omega) ⟨rfl, rfl, rfl, rfl, rfl, trivial⟩ (fun _ h => h.drop1)
          · obtain ⟨hln, hc⟩ := hI.stepP hfit hkl hpk c4 c5
            have hct := hc.to_
            rw [List.length_append] at hct
            have hfd2 := fromS_pos (fun q hq => hfit q (List.mem_of_mem_drop hq) : Fits (e.drop (k + 1)))
            refine TC.region ?_   -- region 9 edit.go:129
            refine TL.opP rfl (op_move rfl) ?_
            refine TL.opP rfl (op_field fld_api_Part_Text rfl) ?_
            refine TL.opV rfl (op_load ts_string rfl m0 rfl) ?_
            refine TL.opX rfl (OpX.runes un_string tsl_int32 un_int32 rfl (by omega)) ?_; rintro v4 _ rfl
            refine TL.know (fun _ h => row1 h) (fun o4 => ?_)
            refine TL.hp (fun _ h => h.pick3) ?_
            refine TL.opX rfl (OpX.append (bytes := 4) tsl_int32 (by decide) (by decide) rfl rw1 (ints_one _) (by omega) (zs := (out ++ dec p.text).map (Value.int .i32)) (by simp)) ?_; rintro v5 _ rfl
            refine TL.know (fun _ h => row1 h) (fun o5 => ?_)
            refine TL.hp (fun _ h => row_len1 h) ?_
            refine TL.opP rfl (op_assign rfl) ?_
            refine TL.nil ?_
            refine TQ.block_normal ?_
            refine TQ.block_normal ?_
            refine TQ.then ?_
            refine TC.region ?_   -- region 14 edit.go:122
            refine TL.opP rfl (op_add rfl rfl rfl (by omega) (by omega)) ?_
            refine TL.opP rfl (op_move rfl) ?_
            refine TL.nil ?_
            exact TQ.round (k + 1, l, (out ++ dec p.text), lv, v5) (hc) (by show _ - (k + 1) < _ - k; omega) ⟨rfl, rfl, rfl, rfl, rfl, trivial⟩ (fun _ h => h.drop2.drop1.pick2.pick1.pick2)
      · refine TC.exit ?_
        refine TQ.then_exit ?_
        refine TQ.loop_exit ?_
        refine TQ.block_hit ?_
        refine TQ.then ?_
        refine TC.seq ?_
        refine TC.region ?_   -- region 15 edit.go:132
        refine TL.opP rfl (op_move rfl) ?_
        refine TL.opV rfl (op_unrunes tsl_int32 un_int32 un_string rfl rw1) ?_
        refine TL.opP rfl (op_assign rfl) ?_
        refine TL.opP rfl (op_assign rfl) ?_
        refine TL.nil ?_
        refine TQ.then ?_
        refine TC.ret ?_
        refine ret2 rfl rfl rfl (fun w' hp => ?_)
        first
          | (have hbad : applyBad e s := by (unfold applyBad; grind)
             exact ⟨by rw [(apply_bad hbad).1, (apply_bad hbad).2], hp.kp⟩)
          | exact ⟨by rw [(apply_ok hok).1, (apply_ok hok).2, ← hI.stop (by omega)], hp.kp⟩

theorem invert_x (e : List Part) (s : ByteArray) (v : Value) (hss : s.size ≤ 70368744177664) (hs : ∀ p ∈ e, p.text.size < 9223372036854775807) (hl : e.length ≤ 137438953472) (hT : tabs ∈ L) (hr : Rdb L v 3 e.length (encs e)) :
    CallX Tryd.prog 36 [v, .string s] S w0 (L) (fun u L' => ∃ v', u = .tuple #[v', .int .i64 (invE e s)] ∧ L' = .row v' 47 3 (invF e s).length (encs (invF e s)) :: L) := by
  intro w hp
  have hdl := dec_len s
  refine calls_start Tryd.func36 rfl rfl rfl (hp) ?_
  refine TC.seq ?_
  refine TC.region ?_   -- region 0 edit.go:282
  refine TL.opP rfl (op_assign rfl) ?_
  refine TL.opP rfl (op_assign rfl) ?_
  refine TL.nil ?_
  refine TQ.then ?_
  refine TC.seq ?_
  refine TC.region ?_   -- region 1 edit.go:283
  refine TL.opP rfl (op_move rfl) ?_
  refine TL.opX rfl (OpX.runes un_string tsl_int32 un_int32 rfl (by omega)) ?_; rintro v1 _ rfl
  refine TL.know (fun _ h => row1 h) (fun o1 => ?_)
  refine TL.hp (fun _ h => row_rd h) ?_
  refine TL.opP rfl (op_assign rfl) ?_
  refine TL.nil ?_
  refine TQ.then ?_
  refine TC.seq ?_
  refine TC.seq ?_
  refine TC.region ?_   -- region 2 edit.go:284
  refine TL.opP rfl (op_move rfl) ?_
  refine TL.callq rfl en_51 rfl (fun w2 hp => valid_calls s w2 (tabs_at hp (.tail _ hT)) (by omega)) ?_
  refine TL.opP rfl (op_not rfl rfl) ?_
  refine TL.opP rfl (op_move rfl) ?_
  first | refine TL.splitD (fun c1 => ?_) (fun c1 => ?_) | refine TL.splitB (fun c1 => ?_) (fun c1 => ?_)
  · refine TL.gFt rfl rfl rfl ?_
    refine TL.gFt rfl rfl rfl ?_
    refine TL.gFt rfl rfl rfl ?_
    refine TL.gFt rfl rfl rfl ?_
    refine TL.gFt rfl rfl rfl ?_
    refine TL.opP rfl (op_pickT rfl rfl) ?_
    refine TL.nil ?_
    refine TQ.then ?_
    refine TC.condT rfl ?_
    refine TC.seq ?_
    refine TC.region ?_   -- region 3 edit.go:285
    refine TL.opP rfl (op_assign rfl) ?_
    refine TL.opP rfl (op_assign rfl) ?_
    refine TL.nil ?_
    refine TQ.then ?_
    refine TC.ret ?_
    refine TQ.then_ret ?_
    refine ret2 rfl rfl rfl (fun w' hp => ?_)
    first
      | (have hbad : applyBad e s := by (unfold applyBad; grind)
         exact ⟨_, _, rfl, ⟨.slice none 0 0, by rw [(inv_bad hbad).1], by rw [(inv_bad hbad).2]; rfl⟩, new_nil _ 3 (hp.tail)⟩)
      | exact ⟨_, _, rfl, ⟨.slice none 0 0, by rw [(inv_long hok (by grind)).1], by rw [(inv_long hok (by grind)).2]; rfl⟩, new_nil _ 3 (hp.tail)⟩
      | exact ⟨_, _, rfl, ⟨«v:mr?», by rw [(inv_ok hok (by grind)).1]; first | done | rfl, by rw [(inv_ok hok (by grind)).2, List.length_reverse]⟩, (hp.tail)⟩
  · refine TL.gT rfl rfl ?_
    refine TL.opP rfl (op_move rfl) ?_
    refine TL.gT rfl rfl ?_
    refine TL.opP rfl (op_move rfl) ?_
    refine TL.gT rfl rfl ?_
    refine TL.opV rfl (op_lenV rfl un_sl_int32 rfl rd0) ?_
    refine TL.gT rfl rfl ?_
    refine TL.callq rfl en_25 rfl (fun w2 hp => check_calls e _ v w2 (tabs_at hp (.tail _ hT)) hs (hr.cons _ _ _ hp)) ?_
    refine TL.gT rfl rfl ?_
    refine TL.opP rfl (op_neq rfl rfl) ?_
    refine TL.opP rfl (op_pickF rfl rfl) ?_
    refine TL.nil ?_
    refine TQ.then ?_
    first | refine TC.condD rfl (fun c2 => ?_) (fun c2 => ?_) | refine TC.condB rfl (fun c2 => ?_) (fun c2 => ?_)
    · refine TC.seq ?_
      refine TC.region ?_   -- region 3 edit.go:285
      refine TL.opP rfl (op_assign rfl) ?_
      refine TL.opP rfl (op_assign rfl) ?_
      refine TL.nil ?_
      refine TQ.then ?_
      refine TC.ret ?_
      refine TQ.then_ret ?_
      refine ret2 rfl rfl rfl (fun w' hp => ?_)
      first
        | (have hbad : applyBad e s := by (unfold applyBad; grind)
           exact ⟨_, _, rfl, ⟨.slice none 0 0, by rw [(inv_bad hbad).1], by rw [(inv_bad hbad).2]; rfl⟩, new_nil _ 3 (hp.tail)⟩)
        | exact ⟨_, _, rfl, ⟨.slice none 0 0, by rw [(inv_long hok (by grind)).1], by rw [(inv_long hok (by grind)).2]; rfl⟩, new_nil _ 3 (hp.tail)⟩
        | exact ⟨_, _, rfl, ⟨«v:mr?», by rw [(inv_ok hok (by grind)).1]; first | done | rfl, by rw [(inv_ok hok (by grind)).2, List.length_reverse]⟩, (hp.tail)⟩
    · have hok : ¬ applyBad e s := by unfold applyBad; grind
      have hfit := (ok_facts hok).2.2.2.1
      refine TC.skip ?_
      refine TQ.then ?_
      refine TC.seq ?_
      refine TC.region ?_   -- region 4 edit.go:287
      refine TL.opX rfl (OpX.alloc tz_edit_maker rfl) ?_; rintro _ _ ⟨g7, rfl, rfl⟩
      refine TL.hp (fun _ h => new_nil 47 3 h) ?_
      refine TL.nil ?_
      refine TQ.then ?_
      refine TC.seq ?_
      refine TC.seq ?_
      refine TC.region ?_   -- region 5 edit.go:288
      refine TL.opP rfl (op_move rfl) ?_
      refine TL.opV rfl (op_lenV rfl un_sl_api_Part rfl hr.cons.cons.cons) ?_
      refine TL.opP rfl (op_move rfl) ?_
      refine TL.nil ?_
      refine TQ.then ?_
      refine TC.block ?_
      refine TC.loop (ι := Nat × List Int × List Part × Value × Value) (fun (k, l, r, lv, mv) => [(6, lv), (7, .pointer (some ⟨g7, 0, none⟩)), (24, v), (25, .int .i64 (e.length : Int)), (26, .int .i64 (k : Int))]) (fun (k, l, r, lv, mv) => .blk g7 (.cells [mv].toArray 63 (0, 0)) :: .row mv 47 3 r.length (encs r.reverse) :: .rd lv 1 l.length (l.map (Value.int .i32)) :: L) (fun (k, l, r, lv, mv) => IInv e k l r (invR e s)) (fun (k, l, r, lv, mv) => e.length - k) ((0, dec s, [], v1, .slice none 0 0)) (IInv.start hok hl) ⟨rfl, rfl, rfl, rfl, rfl, trivial⟩ (fun _ h => h.pick2.pick1.pick2) ?_
      rintro ⟨k, l, r, lv, mv⟩ (hI : IInv e k l r (invR e s))
      have hk := hI.kle
      show TC _ _ _ _ [(6, lv), (7, .pointer (some ⟨g7, 0, none⟩)), (24, v), (25, .int .i64 (e.length : Int)), (26, .int .i64 (k : Int))] _ _ (.blk g7 (.cells [mv].toArray 63 (0, 0)) :: .row mv 47 3 r.length (encs r.reverse) :: .rd lv 1 l.length (l.map (Value.int .i32)) :: L)
      refine TC.seq ?_
      refine TC.region ?_   -- region 6 edit.go:288
      refine TL.opP rfl (op_lss rfl rfl) ?_
      refine TL.nil ?_
      refine TQ.then ?_
      refine TC.seq ?_
      first | refine TC.condD rfl (fun c3 => ?_) (fun c3 => ?_) | refine TC.condB rfl (fun c3 => ?_) (fun c3 => ?_)
      · have hkl : k < e.length := by omega
        obtain ⟨p, hpk⟩ : ∃ p, e.getD k default = p := ⟨_, rfl⟩
        have hd := drop_getD hkl hpk
        have hpe : p ∈ e := by rw [← hpk, List.getD_eq_getElem?_getD, List.getElem?_eq_getElem hkl]; exact List.getElem_mem hkl
        refine TC.skip ?_
        refine TQ.then ?_
        refine TC.seq ?_
        refine TC.block ?_
        refine TC.seq ?_
        refine TC.region ?_   -- region 7 edit.go:288
        refine TL.opV rfl (op_index tsl_api_Part rfl hr.cons.cons.cons rfl (by omega) (by omega)) ?_
        refine TL.opV rfl (op_loadRS tst_api_Part rfl hr.cons.cons.cons (cs := p.cs) rfl (lkS hkl hpk) (by decide)) ?_
        refine TL.opX rfl (OpX.alloc tz_api_Part rfl) ?_; rintro _ _ ⟨g9, rfl, rfl⟩
        refine TL.opX0 (OpX.storeS tst_api_Part rfl rfl rfl rfl rfl (List.all_eq_true.1 rfl)) ?_; rintro _ _ rfl
        refine TL.nil ?_
        refine TQ.then ?_
        refine TC.seq ?_
        refine TC.region ?_   -- region 8 edit.go:289
        refine TL.opP rfl (op_field fld_api_Part_Kind rfl) ?_
        refine TL.opV rfl (op_load ts_int rfl m0 rfl) ?_
        refine TL.nil ?_
        refine TQ.then ?_
        refine TC.block ?_
        refine TC.seq ?_
        refine TC.region ?_   -- region 10 edit.go:290
        refine TL.opP rfl (op_eql rfl rfl) ?_
        refine TL.opP rfl (op_assign rfl) ?_
        refine TL.nil ?_
        refine TQ.then ?_
        first | refine TC.condD rfl (fun c4 => ?_) (fun c4 => ?_) | refine TC.condB rfl (fun c4 => ?_) (fun c4 => ?_)
        · obtain ⟨hln, hp0, hmb, hc⟩ := hI.stepK hfit hkl hpk c4
          refine TC.seq ?_
          refine TC.region ?_   -- region 11 edit.go:291
          refine TL.opV rfl (op_loadS tst_api_Part rfl m0 rfl) ?_
          refine TL.opX rfl (OpX.buildSlice (ps := #[(0, _)]) rfl (bs_api_Part_1 p)) ?_; rintro _ _ ⟨g40, rfl, rfl⟩
          refine TL.hp (fun _ h => blk_row (k := 3) (m := 1) h rfl (by decide)) ?_
          refine TL.hp (fun _ h => h.pick3.pick3) ?_
          refine TL.opX rfl (OpX.callX en_52 rfl (add_x [p] r _ _ _ hmb rw0)) ?_; rintro _ _ ⟨rfl, mv2, rfl⟩
          refine TL.nil ?_
          refine TQ.then ?_
          refine TC.region ?_   -- region 12 edit.go:292
          refine TL.opP rfl (op_move rfl) ?_
          refine TL.opP rfl (op_field fld_api_Part_N rfl) ?_
          refine TL.opV rfl (op_load ts_int rfl m3 rfl) ?_
          refine TL.opV rfl (op_cut p.n.toNat l.length tsl_int32 rfl rd4 (vlo := (some _)) (vhi := none) rfl rfl (.inr ⟨_, _, rfl, by omega⟩) (.inl ⟨rfl, rfl⟩) (by omega) (by omega)) ?_
          refine TL.opP rfl (op_assign rfl) ?_
          refine TL.hp (fun _ h => h.pick4) ?_
          refine TL.hp (fun _ h => rd_drop h p.n.toNat hln) ?_
          refine TL.nil ?_
          refine TQ.block_normal ?_
          refine TQ.block_normal ?_
          refine TQ.then ?_
          refine TC.region ?_   -- region 16 edit.go:288
          refine TL.opP rfl (op_add rfl rfl rfl (by omega) (by omega)) ?_
          refine TL.opP rfl (op_move rfl) ?_
          refine TL.nil ?_
          exact TQ.round (k + 1, (l.drop p.n.toNat), (addRs r [p]), (Value.cut lv p.n.toNat l.length 1), mv2) (hc) (by show _ - (k + 1) < _ - k; omega) ⟨rfl, rfl, rfl, rfl, rfl, trivial⟩ (fun _ h => h.drop4.drop3.pick2.pick2)
        · refine TC.seq ?_
          refine TC.region ?_   -- region 13 edit.go:293
          refine TL.opP rfl (op_eql rfl rfl) ?_
          refine TL.opP rfl (op_assign rfl) ?_
          refine TL.nil ?_
          refine TQ.then ?_
          first | refine TC.condD rfl (fun c5 => ?_) (fun c5 => ?_) | refine TC.condB rfl (fun c5 => ?_) (fun c5 => ?_)
          · obtain ⟨hln, hp0, hp1, hmb, hc⟩ := hI.stepD hfit hkl hpk c4 c5
            refine TC.seq ?_
            refine TC.region ?_   -- region 14 edit.go:294
            refine TL.opP rfl (op_move rfl) ?_
            refine TL.opP rfl (op_field fld_api_Part_N rfl) ?_
            refine TL.opV rfl (op_load ts_int rfl m0 rfl) ?_
            refine TL.opV rfl (op_cut 0 p.n.toNat tsl_int32 rfl rd3 (vlo := none) (vhi := (some _)) rfl rfl (.inl ⟨rfl, rfl⟩) (.inr ⟨_, _, rfl, by omega⟩) (by omega) (by omega)) ?_
            refine TL.opV rfl (op_unrunes tsl_int32 un_int32 un_string rfl (Rdb.ints_take rd3 p.n.toNat hln)) ?_
            refine TL.callq rfl en_54 rfl (fun w2 hp => put_calls _ w2 (by have := (enc_size (l.take p.n.toNat)).2; rw [List.length_take] at this; omega)) ?_
            refine TL.opX rfl (OpX.buildSlice (ps := #[(0, _)]) rfl (bs_api_Part_1 (putP (enc (l.take p.n.toNat))))) ?_; rintro _ _ ⟨g54, rfl, rfl⟩
            refine TL.hp (fun _ h => blk_row (k := 3) (m := 1) h rfl (by decide)) ?_
            refine TL.hp (fun _ h => h.pick3.pick3) ?_
            refine TL.opX rfl (OpX.callX en_52 rfl (add_x [putP (enc (l.take p.n.toNat))] r _ _ _ hmb rw0)) ?_; rintro _ _ ⟨rfl, mv3, rfl⟩
            refine TL.nil ?_
            refine TQ.then ?_
            refine TC.region ?_   -- region 15 edit.go:295
            refine TL.opP rfl (op_move rfl) ?_
            refine TL.opP rfl (op_field fld_api_Part_N rfl) ?_
            refine TL.opV rfl (op_load ts_int rfl m3 rfl) ?_
            refine TL.opV rfl (op_cut p.n.toNat l.length tsl_int32 rfl rd4 (vlo := (some _)) (vhi := none) rfl rfl (.inr ⟨_, _, rfl, by omega⟩) (.inl ⟨rfl, rfl⟩) (by omega) (by omega)) ?_
            refine TL.opP rfl (op_assign rfl) ?_
            refine TL.hp (fun _ h => h.pick4) ?_
            refine TL.hp (fun _ h => rd_drop h p.n.toNat hln) ?_
            refine TL.nil ?_
            refine TQ.block_normal ?_
            refine TQ.block_normal ?_
            refine TQ.then ?_
            refine TC.region ?_   -- region 16 edit.go:288
            refine TL.opP rfl (op_add rfl rfl rfl (by omega) (by omega)) ?_
            refine TL.opP rfl (op_move rfl) ?_
            refine TL.nil ?_
            exact TQ.round (k + 1, (l.drop p.n.toNat), (addRs r [putP (enc (l.take p.n.toNat))]), (Value.cut lv p.n.toNat l.length 1), mv3) (hc) (by show _ - (k + 1) < _ - k; omega) ⟨rfl, rfl, rfl, rfl, rfl, trivial⟩ (fun _ h => h.drop4.drop3.pick2.pick2)
          · obtain ⟨hmb, hc⟩ := hI.stepP hfit hkl hpk c4 c5
            refine TC.region ?_   -- region 9 edit.go:297
            refine TL.opP rfl (op_field fld_api_Part_N rfl) ?_
            refine TL.opV rfl (op_load ts_int rfl m0 rfl) ?_
            refine TL.callq rfl en_55 rfl (fun w2 hp => drop_calls _ w2) ?_
            refine TL.opX rfl (OpX.buildSlice (ps := #[(0, _)]) rfl (bs_api_Part_1 (dropP p.n))) ?_; rintro _ _ ⟨g35, rfl, rfl⟩
            refine TL.hp (fun _ h => blk_row (k := 3) (m := 1) h rfl (by decide)) ?_
            refine TL.hp (fun _ h => h.pick3.pick3) ?_
            refine TL.opX rfl (OpX.callX en_52 rfl (add_x [dropP p.n] r _ _ _ hmb rw0)) ?_; rintro _ _ ⟨rfl, mv4, rfl⟩
            refine TL.nil ?_
            refine TQ.block_normal ?_
            refine TQ.block_normal ?_
            refine TQ.then ?_
            refine TC.region ?_   -- region 16 edit.go:288
            refine TL.opP rfl (op_add rfl rfl rfl (by omega) (by omega)) ?_
            refine TL.opP rfl (op_move rfl) ?_
            refine TL.nil ?_
            exact TQ.round (k + 1, l, (addRs r [dropP p.n]), lv, mv4) (hc) (by show _ - (k + 1) < _ - k; omega) ⟨rfl, rfl, rfl, rfl, rfl, trivial⟩ (fun _ h => h.drop3.drop2)
      · obtain rfl : r = invR e s := hI.stop (by omega)
        refine TC.exit ?_
        refine TQ.then_exit ?_
        refine TQ.loop_exit ?_
        refine TQ.block_hit ?_
        refine TQ.then ?_
        refine TC.seq ?_
        refine TC.region ?_   -- region 17 edit.go:300
        refine TL.opX rfl (OpX.callX en_63 rfl (done_x _ _ _ (hI.texts hfit) (.tail _ hT))) ?_; rintro _ _ ⟨rfl, rfl⟩
        refine TL.opP rfl (op_move rfl) ?_
        refine TL.opP rfl (op_extract rfl rfl) ?_
        refine TL.opP rfl (op_extract rfl rfl) ?_
        refine TL.opP rfl (op_assign rfl) ?_
        refine TL.opP rfl (op_assign rfl) ?_
        refine TL.nil ?_
        refine TQ.then ?_
        refine TC.seq ?_
        refine TC.seq ?_
        refine TC.region ?_   -- region 18 edit.go:301
        refine TL.opP rfl (op_move rfl) ?_
        refine TL.opP rfl (op_not rfl rfl) ?_
        refine TL.nil ?_
        refine TQ.then ?_
        first | refine TC.condD rfl (fun c6 => ?_) (fun c6 => ?_) | refine TC.condB rfl (fun c6 => ?_) (fun c6 => ?_)
        · refine TC.seq ?_
          refine TC.region ?_   -- region 19 edit.go:302
          refine TL.opP rfl (op_assign rfl) ?_
          refine TL.opP rfl (op_assign rfl) ?_
          refine TL.nil ?_
          refine TQ.then ?_
          refine TC.ret ?_
          refine TQ.then_ret ?_
          refine ret2 rfl rfl rfl (fun w' hp => ?_)
          first
            | (have hbad : applyBad e s := by (unfold applyBad; grind)
               exact ⟨_, _, rfl, ⟨.slice none 0 0, by rw [(inv_bad hbad).1], by rw [(inv_bad hbad).2]; rfl⟩, new_nil _ 3 (hp.drop2.drop1.tail)⟩)
            | exact ⟨_, _, rfl, ⟨.slice none 0 0, by rw [(inv_long hok (by grind)).1], by rw [(inv_long hok (by grind)).2]; rfl⟩, new_nil _ 3 (hp.drop2.drop1.tail)⟩
            | exact ⟨_, _, rfl, ⟨mv, by rw [(inv_ok hok (by grind)).1]; first | done | rfl, by rw [(inv_ok hok (by grind)).2, List.length_reverse]⟩, (hp.drop2.drop1.tail)⟩
        · refine TC.skip ?_
          refine TQ.then ?_
          refine TC.seq ?_
          refine TC.region ?_   -- region 20 edit.go:304
          refine TL.opP rfl (op_move rfl) ?_
          refine TL.opP rfl (op_assign rfl) ?_
          refine TL.opP rfl (op_assign rfl) ?_
          refine TL.nil ?_
          refine TQ.then ?_
          refine TC.ret ?_
          refine ret2 rfl rfl rfl (fun w' hp => ?_)
          first
            | (have hbad : applyBad e s := by (unfold applyBad; grind)
               exact ⟨_, _, rfl, ⟨.slice none 0 0, by rw [(inv_bad hbad).1], by rw [(inv_bad hbad).2]; rfl⟩, new_nil _ 3 (hp.drop2.tail)⟩)
            | exact ⟨_, _, rfl, ⟨.slice none 0 0, by rw [(inv_long hok (by grind)).1], by rw [(inv_long hok (by grind)).2]; rfl⟩, new_nil _ 3 (hp.drop2.tail)⟩
            | exact ⟨_, _, rfl, ⟨mv, by rw [(inv_ok hok (by grind)).1]; first | done | rfl, by rw [(inv_ok hok (by grind)).2, List.length_reverse]⟩, (hp.drop2.tail)⟩

theorem norm_x (e : List Part) (v : Value) (hs : ∀ p ∈ e, p.text.size < 9223372036854775807) (hl : e.length ≤ 524288) (hT : tabs ∈ L) (hr : Rdb L v 3 e.length (encs e)) :
    CallX Tryd.prog 42 [v] S w0 (L) (fun u L' => ∃ v', u = v' ∧ L' = .row v' 47 3 (normF e).length (encs (normF e)) :: L) := by
  intro w hp
  refine calls_start Tryd.func42 rfl rfl rfl (hp) ?_
  refine TC.seq ?_
  refine TC.region ?_   -- region 0 edit.go:95
  refine TL.opP rfl (op_assign rfl) ?_
  refine TL.nil ?_
  refine TQ.then ?_
  refine TC.seq ?_
  refine TC.region ?_   -- region 1 edit.go:96
  refine TL.opX rfl (OpX.alloc tz_edit_maker rfl) ?_; rintro _ _ ⟨g3, rfl, rfl⟩
  refine TL.hp (fun _ h => new_nil 47 3 h) ?_
  refine TL.nil ?_
  refine TQ.then ?_
  refine TC.seq ?_
  refine TC.seq ?_
  refine TC.region ?_   -- region 2 edit.go:97
  refine TL.opP rfl (op_move rfl) ?_
  refine TL.opV rfl (op_lenV rfl un_sl_api_Part rfl hr.cons.cons) ?_
  refine TL.opP rfl (op_move rfl) ?_
  refine TL.nil ?_
  refine TQ.then ?_
  refine TC.block ?_
  refine TC.loop (ι := Nat × Value) (fun (k, mv) => [(3, .pointer (some ⟨g3, 0, none⟩)), (6, v), (7, .int .i64 (e.length : Int)), (8, .int .i64 (k : Int))]) (fun (k, mv) => .blk g3 (.cells [mv].toArray 63 (0, 0)) :: .row mv 47 3 (addRs [] ((e.take k).filter fitsB)).length (encs (addRs [] ((e.take k).filter fitsB)).reverse) :: L) (fun (k, mv) => k ≤ e.length) (fun (k, mv) => e.length - k) ((0, .slice none 0 0)) (Nat.zero_le _) ⟨rfl, rfl, rfl, rfl, trivial⟩ (fun _ h => h.pick1) ?_
  rintro ⟨k, mv⟩ (hk : k ≤ e.length)
  show TC _ _ _ _ [(3, .pointer (some ⟨g3, 0, none⟩)), (6, v), (7, .int .i64 (e.length : Int)), (8, .int .i64 (k : Int))] _ _ (.blk g3 (.cells [mv].toArray 63 (0, 0)) :: .row mv 47 3 (addRs [] ((e.take k).filter fitsB)).length (encs (addRs [] ((e.take k).filter fitsB)).reverse) :: L)
  refine TC.seq ?_
  refine TC.region ?_   -- region 3 edit.go:97
  refine TL.opP rfl (op_lss rfl rfl) ?_
  refine TL.nil ?_
  refine TQ.then ?_
  refine TC.seq ?_
  first | refine TC.condD rfl (fun c1 => ?_) (fun c1 => ?_) | refine TC.condB rfl (fun c1 => ?_) (fun c1 => ?_)
  · have hkl : k < e.length := by omega
    obtain ⟨p, hpk⟩ : ∃ p, e.getD k default = p := ⟨_, rfl⟩
    have hd := drop_getD hkl hpk
    have hpe : p ∈ e := by rw [← hpk, List.getD_eq_getElem?_getD, List.getElem?_eq_getElem hkl]; exact List.getElem_mem hkl
    refine TC.skip ?_
    refine TQ.then ?_
    refine TC.seq ?_
    refine TC.block ?_
    refine TC.seq ?_
    refine TC.region ?_   -- region 4 edit.go:97
    refine TL.opV rfl (op_index tsl_api_Part rfl hr.cons.cons rfl (by omega) (by omega)) ?_
    refine TL.opV rfl (op_loadRS tst_api_Part rfl hr.cons.cons (cs := p.cs) rfl (lkS hkl hpk) (by decide)) ?_
    refine TL.opX rfl (OpX.alloc tz_api_Part rfl) ?_; rintro _ _ ⟨g5, rfl, rfl⟩
    refine TL.opX0 (OpX.storeS tst_api_Part rfl rfl rfl rfl rfl (List.all_eq_true.1 rfl)) ?_; rintro _ _ rfl
    refine TL.nil ?_
    refine TQ.then ?_
    refine TC.seq ?_
    refine TC.region ?_   -- region 5 edit.go:98
    refine TL.opV rfl (op_loadS tst_api_Part rfl m0 rfl) ?_
    refine TL.callq rfl en_60 rfl (fun w2 hp => fits_calls p w2 (tabs_at hp (.tail _ (.tail _ (.tail _ hT)))) (hs p hpe)) ?_
    refine TL.nil ?_
    refine TQ.then ?_
    first | refine TC.condD rfl (fun c2 => ?_) (fun c2 => ?_) | refine TC.condB rfl (fun c2 => ?_) (fun c2 => ?_)
    · refine TC.region ?_   -- region 6 edit.go:99
      refine TL.opV rfl (op_loadS tst_api_Part rfl m0 rfl) ?_
      refine TL.opX rfl (OpX.buildSlice (ps := #[(0, _)]) rfl (bs_api_Part_1 p)) ?_; rintro _ _ ⟨g15, rfl, rfl⟩
      refine TL.hp (fun _ h => blk_row (k := 3) (m := 1) h rfl (by decide)) ?_
      refine TL.hp (fun _ h => h.pick3.pick3) ?_
      refine TL.opX rfl (OpX.callX en_52 rfl (add_x [p] (addRs [] ((e.take k).filter fitsB)) _ _ _ (norm_many (filter_fits _) (by have := List.length_filter_le fitsB (e.take k); rw [List.length_take] at this; omega) c2) rw0)) ?_; rintro _ _ ⟨rfl, w1, rfl⟩
      refine TL.nil ?_
      refine TQ.block_normal ?_
      refine TQ.then ?_
      refine TC.region ?_   -- region 7 edit.go:97
      refine TL.opP rfl (op_add rfl rfl rfl (by omega) (by omega)) ?_
      refine TL.opP rfl (op_move rfl) ?_
      refine TL.nil ?_
      exact TQ.round (k + 1, w1) (by show k + 1 ≤ _; omega) (by show _ - (k + 1) < _ - k; omega) ⟨rfl, rfl, rfl, rfl, trivial⟩ (fun _ h => by dsimp only; first | (rw [filter_take hkl hpk, if_pos c2, addRs_append]; exact h.drop3.drop2) | (rw [filter_take hkl hpk, if_neg (by simp [c2]), List.append_nil]; exact h.drop3.drop2))
    · refine TC.skip ?_
      refine TQ.block_normal ?_
      refine TQ.then ?_
      refine TC.region ?_   -- region 7 edit.go:97
      refine TL.opP rfl (op_add rfl rfl rfl (by omega) (by omega)) ?_
      refine TL.opP rfl (op_move rfl) ?_
      refine TL.nil ?_
      exact TQ.round (k + 1, mv) (by show k + 1 ≤ _; omega) (by show _ - (k + 1) < _ - k; omega) ⟨rfl, rfl, rfl, rfl, trivial⟩ (fun _ h => by dsimp only; first | (rw [filter_take hkl hpk, if_pos c2, addRs_append]; exact h.tail) | (rw [filter_take hkl hpk, if_neg (by simp [c2]), List.append_nil]; exact h.tail))
  · refine TC.exit ?_
    refine TQ.then_exit ?_
    refine TQ.loop_exit ?_
    refine TQ.block_hit ?_
    refine TQ.then ?_
    refine TC.seq ?_
    refine TC.region ?_   -- region 8 edit.go:102
    refine TL.opP rfl (op_field fld_edit_maker_out rfl) ?_
    refine TL.opV rfl (op_load ts_sl_api_Part rfl m0 rfl) ?_
    refine TL.opP rfl (op_assign rfl) ?_
    refine TL.nil ?_
    refine TQ.then ?_
    refine TC.ret ?_
    refine ret1 rfl rfl (fun w' hp => ?_)
    have hq := (hp.tail)
    rw [List.take_of_length_le (by omega)] at hq
    exact ⟨_, _, rfl, ⟨mv, rfl, by rw [normF, List.length_reverse]⟩, hq⟩

theorem changes_calls (e : List Part) (v : Value) (w : World) (hv : RdRow w v 3 e.length (encs e)) :
    Calls Tryd.prog 32 (List.toArray [v]) w fun e' w' => e' = .returned (.bool (changesF e)) ∧ Kp NoB w w' := by
  have hlen : e.length ≤ 9223372036854775807 := by obtain ⟨_, A, c, _, h1, h2, _⟩ := hv; simp only [maxLen] at h2; omega
  refine calls_start Tryd.func32 rfl rfl rfl (Hp.i1 (r := .rd v 3 e.length (encs e)) hv) ?_
  refine TC.seq ?_
  refine TC.region ?_   -- region 0 edit.go:311
  refine TL.opP rfl (op_assign rfl) ?_
  refine TL.nil ?_
  refine TQ.then ?_
  refine TC.seq ?_
  refine TC.seq ?_
  refine TC.region ?_   -- region 1 edit.go:312
  refine TL.opP rfl (op_move rfl) ?_
  refine TL.opV rfl (op_lenV rfl un_sl_api_Part rfl rd0) ?_
  refine TL.opP rfl (op_move rfl) ?_
  refine TL.nil ?_
  refine TQ.then ?_
  refine TC.block ?_
  refine TC.loop (ι := Nat) (fun k => [(5, v), (6, .int .i64 (e.length : Int)), (7, .int .i64 (k : Int))]) (fun k => [.rd v 3 e.length (encs e)]) (fun k => k ≤ e.length ∧ changesF (e.drop k) = changesF e) (fun k => e.length - k) (0) (⟨Nat.zero_le _, rfl⟩) ⟨rfl, rfl, rfl, trivial⟩ (fun _ h => h) ?_
  rintro k ⟨hk, hgo⟩
  refine TC.seq ?_
  refine TC.region ?_   -- region 2 edit.go:312
  refine TL.opP rfl (op_lss rfl rfl) ?_
  refine TL.nil ?_
  refine TQ.then ?_
  refine TC.seq ?_
  first | refine TC.condD rfl (fun c1 => ?_) (fun c1 => ?_) | refine TC.condB rfl (fun c1 => ?_) (fun c1 => ?_)
  · have hkl : k < e.length := by omega
    obtain ⟨p, hpk⟩ : ∃ p, e.getD k default = p := ⟨_, rfl⟩
    have hd := drop_getD hkl hpk
    have hpe : p ∈ e := by rw [← hpk, List.getD_eq_getElem?_getD, List.getElem?_eq_getElem hkl]; exact List.getElem_mem hkl
    refine TC.skip ?_
    refine TQ.then ?_
    refine TC.seq ?_
    refine TC.block ?_
    refine TC.seq ?_
    refine TC.region ?_   -- region 3 edit.go:312
    refine TL.opV rfl (op_index tsl_api_Part rfl rd0 rfl (by omega) (by omega)) ?_
    refine TL.opV rfl (op_loadRS tst_api_Part rfl rd0 (cs := p.cs) rfl (lkS hkl hpk) (by decide)) ?_
    refine TL.opX rfl (OpX.alloc tz_api_Part rfl) ?_; rintro _ _ ⟨g4, rfl, rfl⟩
    refine TL.opX0 (OpX.storeS tst_api_Part rfl rfl rfl rfl rfl (List.all_eq_true.1 rfl)) ?_; rintro _ _ rfl
    refine TL.nil ?_
    refine TQ.then ?_
    refine TC.seq ?_
    refine TC.region ?_   -- region 4 edit.go:313
    refine TL.opP rfl (op_field fld_api_Part_Kind rfl) ?_
    refine TL.opV rfl (op_load ts_int rfl m0 rfl) ?_
    refine TL.opP rfl (op_neq rfl rfl) ?_
    refine TL.nil ?_
    refine TQ.then ?_
    first | refine TC.condD rfl (fun c2 => ?_) (fun c2 => ?_) | refine TC.condB rfl (fun c2 => ?_) (fun c2 => ?_)
    · refine TC.seq ?_
      refine TC.region ?_   -- region 5 edit.go:314
      refine TL.opP rfl (op_assign rfl) ?_
      refine TL.nil ?_
      refine TQ.then ?_
      refine TC.ret ?_
      refine TQ.block_ret ?_
      refine TQ.then_ret ?_
      refine TQ.loop_ret ?_
      refine TQ.block_ret ?_
      refine TQ.then_ret ?_
      refine ret1 rfl rfl (fun w' hp => ?_)
      exact ⟨by rw [← hgo]; first | (rw [List.drop_eq_nil_of_le (by omega)]; rfl) | (rw [hd]; simp [changesF, c2]), hp.kp⟩
    · refine TC.skip ?_
      refine TQ.block_normal ?_
      refine TQ.then ?_
      refine TC.region ?_   -- region 6 edit.go:312
      refine TL.opP rfl (op_add rfl rfl rfl (by omega) (by omega)) ?_
      refine TL.opP rfl (op_move rfl) ?_
      refine TL.nil ?_
      exact TQ.round (k + 1) (⟨by omega, by rw [← hgo, hd]; simp [changesF, c2]⟩) (by omega) ⟨rfl, rfl, rfl, trivial⟩ (fun _ h => h.tail)
  · refine TC.exit ?_
    refine TQ.then_exit ?_
    refine TQ.loop_exit ?_
    refine TQ.block_hit ?_
    refine TQ.then ?_
    refine TC.seq ?_
    refine TC.region ?_   -- region 7 edit.go:317
    refine TL.opP rfl (op_assign rfl) ?_
    refine TL.nil ?_
    refine TQ.then ?_
    refine TC.ret ?_
    refine ret1 rfl rfl (fun w' hp => ?_)
    exact ⟨by rw [← hgo]; first | (rw [List.drop_eq_nil_of_le (by omega)]; rfl) | (rw [hd]; simp [changesF, c2]), hp.kp⟩

theorem weight_calls (e : List Part) (v : Value) (hl : e.length ≤ 1048576) (w : World) (hT : Tabs w) (hs : ∀ p ∈ e, p.text.size < 9223372036854775807) (hv : RdRow w v 3 e.length (encs e)) :
    Calls Tryd.prog 30 (List.toArray [v]) w fun e' w' => e' = .returned (.tuple #[.int .i64 (weightF e).1, .int .i64 (weightF e).2]) ∧ Kp NoB w w' := by
  have hlen : e.length ≤ 9223372036854775807 := by obtain ⟨_, A, c, _, h1, h2, _⟩ := hv; simp only [maxLen] at h2; omega
  refine calls_start Tryd.func30 rfl rfl rfl (Hp.i1 (r := .rd v 3 e.length (encs e)) hv) ?_
  refine TC.seq ?_
  refine TC.region ?_   -- region 0 edit.go:321
  refine TL.opP rfl (op_assign rfl) ?_
  refine TL.opP rfl (op_assign rfl) ?_
  refine TL.nil ?_
  refine TQ.then ?_
  refine TC.seq ?_
  refine TC.seq ?_
  refine TC.region ?_   -- region 1 edit.go:322
  refine TL.opP rfl (op_move rfl) ?_
  refine TL.opV rfl (op_lenV rfl un_sl_api_Part rfl rd0) ?_
  refine TL.opP rfl (op_move rfl) ?_
  refine TL.nil ?_
  refine TQ.then ?_
  refine TC.block ?_
  refine TC.loop (ι := Nat × Int × Int) (fun (k, a, b) => [(2, .int .i64 a), (3, .int .i64 b), (6, v), (7, .int .i64 (e.length : Int)), (8, .int .i64 (k : Int))]) (fun (k, a, b) => [.rd v 3 e.length (encs e)]) (fun (k, a, b) => k ≤ e.length ∧ weightGo (e.drop k) a b = weightF e ∧ 0 ≤ a ∧ a ≤ k * 1099511627776 ∧ 0 ≤ b ∧ b ≤ k * 1099511627776) (fun (k, a, b) => e.length - k) ((0, 0, 0)) (⟨Nat.zero_le _, rfl, by omega, by omega, by omega, by omega⟩) ⟨rfl, rfl, rfl, rfl, rfl, trivial⟩ (fun _ h => h) ?_
  rintro ⟨k, a, b⟩ ⟨hk, hgo, ha0, ha1, hb0, hb1⟩
  show TC _ _ _ _ [(2, .int .i64 a), (3, .int .i64 b), (6, v), (7, .int .i64 (e.length : Int)), (8, .int .i64 (k : Int))] _ _ ([.rd v 3 e.length (encs e)])
  refine TC.seq ?_
  refine TC.region ?_   -- region 2 edit.go:322
  refine TL.opP rfl (op_lss rfl rfl) ?_
  refine TL.nil ?_
  refine TQ.then ?_
  refine TC.seq ?_
  first | refine TC.condD rfl (fun c1 => ?_) (fun c1 => ?_) | refine TC.condB rfl (fun c1 => ?_) (fun c1 => ?_)
  · have hkl : k < e.length := by omega
    obtain ⟨p, hpk⟩ : ∃ p, e.getD k default = p := ⟨_, rfl⟩
    have hd := drop_getD hkl hpk
    have hpe : p ∈ e := by rw [← hpk, List.getD_eq_getElem?_getD, List.getElem?_eq_getElem hkl]; exact List.getElem_mem hkl
    refine TC.skip ?_
    refine TQ.then ?_
    refine TC.seq ?_
    refine TC.block ?_
    refine TC.seq ?_
    refine TC.region ?_   -- region 3 edit.go:322
    refine TL.opV rfl (op_index tsl_api_Part rfl rd0 rfl (by omega) (by omega)) ?_
    refine TL.opV rfl (op_loadRS tst_api_Part rfl rd0 (cs := p.cs) rfl (lkS hkl hpk) (by decide)) ?_
    refine TL.opX rfl (OpX.alloc tz_api_Part rfl) ?_; rintro _ _ ⟨g5, rfl, rfl⟩
    refine TL.opX0 (OpX.storeS tst_api_Part rfl rfl rfl rfl rfl (List.all_eq_true.1 rfl)) ?_; rintro _ _ rfl
    refine TL.nil ?_
    refine TQ.then ?_
    refine TC.seq ?_
    refine TC.seq ?_
    refine TC.region ?_   -- region 4 edit.go:323
    refine TL.opV rfl (op_loadS tst_api_Part rfl m0 rfl) ?_
    refine TL.callq rfl en_60 rfl (fun w2 hp => fits_calls p w2 (hT.kp hp.kp) (hs p hpe)) ?_
    refine TL.opP rfl (op_not rfl rfl) ?_
    refine TL.nil ?_
    refine TQ.then ?_
    first | refine TC.condD rfl (fun c2 => ?_) (fun c2 => ?_) | refine TC.condB rfl (fun c2 => ?_) (fun c2 => ?_)
    · refine TC.seq ?_
      refine TC.region ?_   -- region 5 edit.go:324
      refine TL.opP rfl (op_assign rfl) ?_
      refine TL.opP rfl (op_assign rfl) ?_
      refine TL.nil ?_
      refine TQ.then ?_
      refine TC.ret ?_
      refine TQ.then_ret ?_
      refine TQ.block_ret ?_
      refine TQ.then_ret ?_
      refine TQ.loop_ret ?_
      refine TQ.block_ret ?_
      refine TQ.then_ret ?_
      refine ret2 rfl rfl rfl (fun w' hp => ?_)
      exact ⟨by rw [← hgo]; first | (rw [List.drop_eq_nil_of_le (by omega)]; rfl) | (rw [hd, weightGo, if_neg (by grind)]), hp.kp⟩
    · have hff : fitsB p = true := by simpa using c2
      have hfn := fitsB_n hff
      refine TC.skip ?_
      refine TQ.then ?_
      refine TC.seq ?_
      refine TC.region ?_   -- region 6 edit.go:326
      refine TL.opP rfl (op_field fld_api_Part_Kind rfl) ?_
      refine TL.opV rfl (op_load ts_int rfl m0 rfl) ?_
      refine TL.nil ?_
      refine TQ.then ?_
      refine TC.block ?_
      refine TC.seq ?_
      refine TC.region ?_   -- region 7 edit.go:327
      refine TL.opP rfl (op_eql rfl rfl) ?_
      refine TL.opP rfl (op_assign rfl) ?_
      refine TL.nil ?_
      refine TQ.then ?_
      first | refine TC.condD rfl (fun c3 => ?_) (fun c3 => ?_) | refine TC.condB rfl (fun c3 => ?_) (fun c3 => ?_)
      · refine TC.region ?_   -- region 8 edit.go:328
        refine TL.opP rfl (op_move rfl) ?_
        refine TL.opP rfl (op_field fld_api_Part_N rfl) ?_
        refine TL.opV rfl (op_load ts_int rfl m0 rfl) ?_
        refine TL.opP rfl (op_add rfl rfl rfl (by omega) (by omega)) ?_
        refine TL.opP rfl (op_assign rfl) ?_
        refine TL.nil ?_
        refine TQ.block_normal ?_
        refine TQ.block_normal ?_
        refine TQ.then ?_
        refine TC.region ?_   -- region 11 edit.go:322
        refine TL.opP rfl (op_add rfl rfl rfl (by omega) (by omega)) ?_
        refine TL.opP rfl (op_move rfl) ?_
        refine TL.nil ?_
        exact TQ.round (k + 1, (if p.kind = 2 then a + p.n else a), (if p.kind = 3 then b + p.n else b)) (⟨by omega, by rw [← hgo, hd, weightGo, if_pos hff], by split <;> omega, by split <;> omega, by split <;> omega, by split <;> omega⟩) (by show _ - (k + 1) < _ - k; omega) ⟨gi rfl (by grind), gi rfl (by grind), rfl, rfl, rfl, trivial⟩ (fun _ h => h.tail)
      · refine TC.seq ?_
        refine TC.region ?_   -- region 9 edit.go:329
        refine TL.opP rfl (op_eql rfl rfl) ?_
        refine TL.opP rfl (op_assign rfl) ?_
        refine TL.nil ?_
        refine TQ.then ?_
        first | refine TC.condD rfl (fun c4 => ?_) (fun c4 => ?_) | refine TC.condB rfl (fun c4 => ?_) (fun c4 => ?_)
        · refine TC.region ?_   -- region 10 edit.go:330
          refine TL.opP rfl (op_move rfl) ?_
          refine TL.opP rfl (op_field fld_api_Part_N rfl) ?_
          refine TL.opV rfl (op_load ts_int rfl m0 rfl) ?_
          refine TL.opP rfl (op_add rfl rfl rfl (by omega) (by omega)) ?_
          refine TL.opP rfl (op_assign rfl) ?_
          refine TL.nil ?_
          refine TQ.block_normal ?_
          refine TQ.block_normal ?_
          refine TQ.then ?_
          refine TC.region ?_   -- region 11 edit.go:322
          refine TL.opP rfl (op_add rfl rfl rfl (by omega) (by omega)) ?_
          refine TL.opP rfl (op_move rfl) ?_
          refine TL.nil ?_
          exact TQ.round (k + 1, (if p.kind = 2 then a + p.n else a), (if p.kind = 3 then b + p.n else b)) (⟨by omega, by rw [← hgo, hd, weightGo, if_pos hff], by split <;> omega, by split <;> omega, by split <;> omega, by split <;> omega⟩) (by show _ - (k + 1) < _ - k; omega) ⟨gi rfl (by grind), gi rfl (by grind), rfl, rfl, rfl, trivial⟩ (fun _ h => h.tail)
        · refine TC.skip ?_
          refine TQ.block_normal ?_
          refine TQ.block_normal ?_
          refine TQ.then ?_
          refine TC.region ?_   -- region 11 edit.go:322
          refine TL.opP rfl (op_add rfl rfl rfl (by omega) (by omega)) ?_
          refine TL.opP rfl (op_move rfl) ?_
          refine TL.nil ?_
          exact TQ.round (k + 1, (if p.kind = 2 then a + p.n else a), (if p.kind = 3 then b + p.n else b)) (⟨by omega, by rw [← hgo, hd, weightGo, if_pos hff], by split <;> omega, by split <;> omega, by split <;> omega, by split <;> omega⟩) (by show _ - (k + 1) < _ - k; omega) ⟨gi rfl (by grind), gi rfl (by grind), rfl, rfl, rfl, trivial⟩ (fun _ h => h.tail)
  · refine TC.exit ?_
    refine TQ.then_exit ?_
    refine TQ.loop_exit ?_
    refine TQ.block_hit ?_
    refine TQ.then ?_
    refine TC.seq ?_
    refine TC.region ?_   -- region 12 edit.go:333
    refine TL.opP rfl (op_move rfl) ?_
    refine TL.opP rfl (op_move rfl) ?_
    refine TL.opP rfl (op_assign rfl) ?_
    refine TL.opP rfl (op_assign rfl) ?_
    refine TL.nil ?_
    refine TQ.then ?_
    refine TC.ret ?_
    refine ret2 rfl rfl rfl (fun w' hp => ?_)
    exact ⟨by rw [← hgo]; first | (rw [List.drop_eq_nil_of_le (by omega)]; rfl) | (rw [hd, weightGo, if_neg (by grind)]), hp.kp⟩

theorem cursor_calls (e : List Part) (i : Int) (ah : Bool) (v : Value) (w : World) (hT : Tabs w) (hs : ∀ p ∈ e, p.text.size < 9223372036854775807) (hv : RdRow w v 3 e.length (encs e)) :
    Calls Tryd.prog 39 (List.toArray [v, .int .i64 i, .bool ah]) w fun e' w' => e' = .returned (.tuple #[.int .i64 (curF e i ah), .int .i64 (curE e i)]) ∧ Kp NoB w w' := by
  have hlen : e.length ≤ 9223372036854775807 := by obtain ⟨_, A, c, _, h1, h2, _⟩ := hv; simp only [maxLen] at h2; omega
  refine calls_start Tryd.func39 rfl rfl rfl (Hp.i1 (r := .rd v 3 e.length (encs e)) hv) ?_
  refine TC.seq ?_
  refine TC.region ?_   -- region 0 edit.go:256
  refine TL.opP rfl (op_assign rfl) ?_
  refine TL.opP rfl (op_assign rfl) ?_
  refine TL.nil ?_
  refine TQ.then ?_
  refine TC.seq ?_
  refine TC.region ?_   -- region 1 edit.go:257
  refine TL.opP rfl (op_move rfl) ?_
  refine TL.callq rfl en_58 rfl (fun w2 hp => sizes_calls e v w2 (hT.kp hp.kp) hs (rd0 _ _ _ hp)) ?_
  refine TL.opP rfl (op_move rfl) ?_
  refine TL.opP rfl (op_extract rfl rfl) ?_
  refine TL.opP rfl (op_extract rfl rfl) ?_
  refine TL.opP rfl (op_extract rfl rfl) ?_
  refine TL.opP rfl (op_assign rfl) ?_
  refine TL.opP rfl (op_assign rfl) ?_
  refine TL.opP rfl (op_assign rfl) ?_
  refine TL.nil ?_
  refine TQ.then ?_
  refine TC.seq ?_
  refine TC.seq ?_
  refine TC.region ?_   -- region 2 edit.go:258
  refine TL.opP rfl (op_move rfl) ?_
  refine TL.opP rfl (op_not rfl rfl) ?_
  refine TL.opP rfl (op_move rfl) ?_
  first | refine TL.splitD (fun c1 => ?_) (fun c1 => ?_) | refine TL.splitB (fun c1 => ?_) (fun c1 => ?_)
  · refine TL.gFt rfl rfl rfl ?_
    refine TL.gFt rfl rfl rfl ?_
    refine TL.opP rfl (op_pickT rfl rfl) ?_
    refine TL.opP rfl (op_move rfl) ?_
    refine TL.gFt rfl rfl rfl ?_
    refine TL.gFt rfl rfl rfl ?_
    refine TL.gFt rfl rfl rfl ?_
    refine TL.opP rfl (op_pickT rfl rfl) ?_
    refine TL.nil ?_
    refine TQ.then ?_
    refine TC.condT rfl ?_
    refine TC.seq ?_
    refine TC.region ?_   -- region 3 edit.go:259
    refine TL.opP rfl (op_assign rfl) ?_
    refine TL.opP rfl (op_assign rfl) ?_
    refine TL.nil ?_
    refine TQ.then ?_
    refine TC.ret ?_
    refine TQ.then_ret ?_
    refine ret2 rfl rfl rfl (fun w' hp => ?_)
    first
      | (have hbad : curBad e i := by (unfold curBad; grind)
         exact ⟨by rw [(cur_bad (ah := ah) hbad).1, (cur_bad (ah := ah) hbad).2], hp.kp⟩)
      | exact ⟨by rw [(cur_ok (ah := ah) hok).1, (cur_ok (ah := ah) hok).2, ← hI.stop (by omega)], hp.kp⟩
      | exact ⟨by rw [(cur_ok (ah := ah) hok).1, (cur_ok (ah := ah) hok).2, ← hI.ret0 hkl hpk c7 c8], hp.kp⟩
      | exact ⟨by rw [(cur_ok (ah := ah) hok).1, (cur_ok (ah := ah) hok).2, ← hI.ret1 hkl hpk c7 c8 c10, if_pos c9]; first | done | rfl, hp.kp⟩
      | exact ⟨by rw [(cur_ok (ah := ah) hok).1, (cur_ok (ah := ah) hok).2, ← hI.ret1 hkl hpk c7 c8 c11, if_neg c9]; first | done | rfl, hp.kp⟩
  · refine TL.gT rfl rfl ?_
    refine TL.opP rfl (op_move rfl) ?_
    refine TL.gT rfl rfl ?_
    refine TL.opP rfl (op_lss rfl rfl) ?_
    refine TL.opP rfl (op_pickF rfl rfl) ?_
    refine TL.opP rfl (op_move rfl) ?_
    first | refine TL.splitD (fun c2 => ?_) (fun c2 => ?_) | refine TL.splitB (fun c2 => ?_) (fun c2 => ?_)
    · refine TL.gFt rfl rfl rfl ?_
      refine TL.gFt rfl rfl rfl ?_
      refine TL.gFt rfl rfl rfl ?_
      refine TL.opP rfl (op_pickT rfl rfl) ?_
      refine TL.nil ?_
      refine TQ.then ?_
      refine TC.condT rfl ?_
      refine TC.seq ?_
      refine TC.region ?_   -- region 3 edit.go:259
      refine TL.opP rfl (op_assign rfl) ?_
      refine TL.opP rfl (op_assign rfl) ?_
      refine TL.nil ?_
      refine TQ.then ?_
      refine TC.ret ?_
      refine TQ.then_ret ?_
      refine ret2 rfl rfl rfl (fun w' hp => ?_)
      first
        | (have hbad : curBad e i := by (unfold curBad; grind)
           exact ⟨by rw [(cur_bad (ah := ah) hbad).1, (cur_bad (ah := ah) hbad).2], hp.kp⟩)
        | exact ⟨by rw [(cur_ok (ah := ah) hok).1, (cur_ok (ah := ah) hok).2, ← hI.stop (by omega)], hp.kp⟩
        | exact ⟨by rw [(cur_ok (ah := ah) hok).1, (cur_ok (ah := ah) hok).2, ← hI.ret0 hkl hpk c7 c8], hp.kp⟩
        | exact ⟨by rw [(cur_ok (ah := ah) hok).1, (cur_ok (ah := ah) hok).2, ← hI.ret1 hkl hpk c7 c8 c10, if_pos c9]; first | done | rfl, hp.kp⟩
        | exact ⟨by rw [(cur_ok (ah := ah) hok).1, (cur_ok (ah := ah) hok).2, ← hI.ret1 hkl hpk c7 c8 c11, if_neg c9]; first | done | rfl, hp.kp⟩
    · refine TL.gT rfl rfl ?_
      refine TL.opP rfl (op_move rfl) ?_
      refine TL.gT rfl rfl ?_
      refine TL.opP rfl (op_move rfl) ?_
      refine TL.gT rfl rfl ?_
      refine TL.opP rfl (op_gtr rfl rfl) ?_
      refine TL.opP rfl (op_pickF rfl rfl) ?_
      refine TL.nil ?_
      refine TQ.then ?_
      first | refine TC.condD rfl (fun c3 => ?_) (fun c3 => ?_) | refine TC.condB rfl (fun c3 => ?_) (fun c3 => ?_)
      · refine TC.seq ?_
        refine TC.region ?_   -- region 3 edit.go:259
        refine TL.opP rfl (op_assign rfl) ?_
        refine TL.opP rfl (op_assign rfl) ?_
        refine TL.nil ?_
        refine TQ.then ?_
        refine TC.ret ?_
        refine TQ.then_ret ?_
        refine ret2 rfl rfl rfl (fun w' hp => ?_)
        first
          | (have hbad : curBad e i := by (unfold curBad; grind)
             exact ⟨by rw [(cur_bad (ah := ah) hbad).1, (cur_bad (ah := ah) hbad).2], hp.kp⟩)
          | exact ⟨by rw [(cur_ok (ah := ah) hok).1, (cur_ok (ah := ah) hok).2, ← hI.stop (by omega)], hp.kp⟩
          | exact ⟨by rw [(cur_ok (ah := ah) hok).1, (cur_ok (ah := ah) hok).2, ← hI.ret0 hkl hpk c7 c8], hp.kp⟩
          | exact ⟨by rw [(cur_ok (ah := ah) hok).1, (cur_ok (ah := ah) hok).2, ← hI.ret1 hkl hpk c7 c8 c10, if_pos c9]; first | done | rfl, hp.kp⟩
          | exact ⟨by rw [(cur_ok (ah := ah) hok).1, (cur_ok (ah := ah) hok).2, ← hI.ret1 hkl hpk c7 c8 c11, if_neg c9]; first | done | rfl, hp.kp⟩
      · have hok : ¬ curBad e i := by unfold curBad; grind
        obtain ⟨hst, hfit⟩ := UInv.start (ah := ah) hok
        refine TC.skip ?_
        refine TQ.then ?_
        refine TC.seq ?_
        refine TC.region ?_   -- region 4 edit.go:261
        refine TL.opP rfl (op_assign rfl) ?_
        refine TL.nil ?_
        refine TQ.then ?_
        refine TC.seq ?_
        refine TC.seq ?_
        refine TC.region ?_   -- region 5 edit.go:262
        refine TL.opP rfl (op_move rfl) ?_
        refine TL.opV rfl (op_lenV rfl un_sl_api_Part rfl rd0) ?_
        refine TL.opP rfl (op_move rfl) ?_
        refine TL.nil ?_
        refine TQ.then ?_
        refine TC.block ?_
        refine TC.loop (ι := Nat × Int × Int) (fun (k, i', tt) => [(1, .int .i64 i'), (2, .bool ah), (11, .int .i64 tt), (32, v), (33, .int .i64 (e.length : Int)), (34, .int .i64 (k : Int))]) (fun (k, i', tt) => [.rd v 3 e.length (encs e)]) (fun (k, i', tt) => UInv e k i' ah tt (curGo e i ah 0)) (fun (k, i', tt) => e.length - k) ((0, i, 0)) (hst) ⟨rfl, rfl, rfl, rfl, rfl, rfl, trivial⟩ (fun _ h => h) ?_
        rintro ⟨k, i', tt⟩ (hI : UInv e k i' ah tt (curGo e i ah 0))
        have hk := hI.kle
        have hi0 := hI.i0
        have hi1 := hI.i1
        have ht0 := hI.t0
        show TC _ _ _ _ [(1, .int .i64 i'), (2, .bool ah), (11, .int .i64 tt), (32, v), (33, .int .i64 (e.length : Int)), (34, .int .i64 (k : Int))] _ _ ([.rd v 3 e.length (encs e)])
        refine TC.seq ?_
        refine TC.region ?_   -- region 6 edit.go:262
        refine TL.opP rfl (op_lss rfl rfl) ?_
        refine TL.nil ?_
        refine TQ.then ?_
        refine TC.seq ?_
        first | refine TC.condD rfl (fun c4 => ?_) (fun c4 => ?_) | refine TC.condB rfl (fun c4 => ?_) (fun c4 => ?_)
        · have hkl : k < e.length := by omega
          obtain ⟨p, hpk⟩ : ∃ p, e.getD k default = p := ⟨_, rfl⟩
          have hd := drop_getD hkl hpk
          have hpe : p ∈ e := by rw [← hpk, List.getD_eq_getElem?_getD, List.getElem?_eq_getElem hkl]; exact List.getElem_mem hkl
          have hpos := hI.pos hfit hkl hpk
          refine TC.skip ?_
          refine TQ.then ?_
          refine TC.seq ?_
          refine TC.block ?_
          refine TC.seq ?_
          refine TC.region ?_   -- region 7 edit.go:262
          refine TL.opV rfl (op_index tsl_api_Part rfl rd0 rfl (by omega) (by omega)) ?_
          refine TL.opV rfl (op_loadRS tst_api_Part rfl rd0 (cs := p.cs) rfl (lkS hkl hpk) (by decide)) ?_
          refine TL.opX rfl (OpX.alloc tz_api_Part rfl) ?_; rintro _ _ ⟨g13, rfl, rfl⟩
          refine TL.opX0 (OpX.storeS tst_api_Part rfl rfl rfl rfl rfl (List.all_eq_true.1 rfl)) ?_; rintro _ _ rfl
          refine TL.nil ?_
          refine TQ.then ?_
          refine TC.block ?_
          refine TC.join1 [(1, .int .i64 i'), (2, .bool ah), (11, .int .i64 tt), (32, v), (33, .int .i64 (e.length : Int)), (34, .int .i64 (k : Int)), (13, .pointer (some ⟨g13, 0, none⟩)), (56, .bool (decide (p.kind = 2 ∧ (0 < i' ∨ ah = true))))] ([.blk g13 (.cells p.cs.toArray 47 (0, 0)), .rd v 3 e.length (encs e)]) ?_ ?_
          · refine TC.region ?_   -- region 14 edit.go:264
            refine TL.opP rfl (op_field fld_api_Part_Kind rfl) ?_
            refine TL.opV rfl (op_load ts_int rfl m0 rfl) ?_
            refine TL.opP rfl (op_eql rfl rfl) ?_
            refine TL.opP rfl (op_move rfl) ?_
            first | refine TL.splitD (fun c5 => ?_) (fun c5 => ?_) | refine TL.splitB (fun c5 => ?_) (fun c5 => ?_)
            · refine TL.gT rfl rfl ?_
              refine TL.opP rfl (op_move rfl) ?_
              refine TL.gT rfl rfl ?_
              refine TL.opP rfl (op_gtr rfl rfl) ?_
              refine TL.gT rfl rfl ?_
              refine TL.opP rfl (op_move rfl) ?_
              first | refine TL.splitD (fun c6 => ?_) (fun c6 => ?_) | refine TL.splitB (fun c6 => ?_) (fun c6 => ?_)
              · refine TL.gFt rfl rfl rfl ?_
                refine TL.gT rfl rfl ?_
                refine TL.opP rfl (op_pickT rfl rfl) ?_
                refine TL.opP rfl (op_pickT rfl rfl) ?_
                refine TL.opP rfl (op_assign rfl) ?_
                refine TL.nil ?_
                exact TQ.join1 ⟨rfl, rfl, rfl, rfl, rfl, rfl, rfl, gb rfl (by first | (simp [c5]; done) | (simp [c5, c6]; done) | grind), trivial⟩ (fun _ h => h)
              · refine TL.gT rfl rfl ?_
                refine TL.opP rfl (op_move rfl) ?_
                refine TL.gT rfl rfl ?_
                refine TL.opP rfl (op_pickF rfl rfl) ?_
                refine TL.opP rfl (op_pickT rfl rfl) ?_
                refine TL.opP rfl (op_assign rfl) ?_
                refine TL.nil ?_
                exact TQ.join1 ⟨rfl, rfl, rfl, rfl, rfl, rfl, rfl, gb rfl (by first | (simp [c5]; done) | (simp [c5, c6]; done) | grind), trivial⟩ (fun _ h => h)
            · refine TL.gFf rfl rfl rfl ?_
              refine TL.gFf rfl rfl rfl ?_
              refine TL.gFf rfl rfl rfl ?_
              refine TL.gU rfl rfl rfl ?_
              refine TL.gFf rfl rfl rfl ?_
              refine TL.opP rfl (op_pickF rfl rfl) ?_
              refine TL.opP rfl (op_assign rfl) ?_
              refine TL.nil ?_
              exact TQ.join1 ⟨rfl, rfl, rfl, rfl, rfl, rfl, rfl, gb rfl (by first | (simp [c5]; done) | (simp [c5, c6]; done) | grind), trivial⟩ (fun _ h => h)
          · first | refine TC.condD rfl (fun c7 => ?_) (fun c7 => ?_) | refine TC.condB rfl (fun c7 => ?_) (fun c7 => ?_)
            · refine TC.region ?_   -- region 15 edit.go:265
              refine TL.opP rfl (op_move rfl) ?_
              refine TL.opP rfl (op_field fld_api_Part_N rfl) ?_
              refine TL.opV rfl (op_load ts_int rfl m0 rfl) ?_
              refine TL.opP rfl (op_add rfl rfl rfl (by first | omega | (split <;> omega)) (by first | omega | (split <;> omega))) ?_
              refine TL.opP rfl (op_assign rfl) ?_
              refine TL.nil ?_
              refine TQ.block_normal ?_
              refine TQ.block_normal ?_
              refine TQ.then ?_
              refine TC.region ?_   -- region 18 edit.go:262
              refine TL.opP rfl (op_add rfl rfl rfl (by first | omega | (split <;> omega)) (by first | omega | (split <;> omega))) ?_
              refine TL.opP rfl (op_move rfl) ?_
              refine TL.nil ?_
              exact TQ.round (k + 1, i', tt + p.n) (hI.stepP hfit hkl hpk c7.1 c7.2) (by show _ - (k + 1) < _ - k; omega) ⟨rfl, rfl, gi rfl (by first | rfl | (rw [if_pos c9]; rfl) | (rw [if_neg c9]; first | done | rfl)), rfl, rfl, rfl, trivial⟩ (fun _ h => h.tail)
            · refine TC.seq ?_
              refine TC.region ?_   -- region 16 edit.go:266
              refine TL.opP rfl (op_move rfl) ?_
              refine TL.opP rfl (op_eql rfl rfl) ?_
              refine TL.opP rfl (op_assign rfl) ?_
              refine TL.nil ?_
              refine TQ.then ?_
              first | refine TC.condD rfl (fun c8 => ?_) (fun c8 => ?_) | refine TC.condB rfl (fun c8 => ?_) (fun c8 => ?_)
              · refine TC.seq ?_
                refine TC.region ?_   -- region 17 edit.go:267
                refine TL.opP rfl (op_move rfl) ?_
                refine TL.opP rfl (op_assign rfl) ?_
                refine TL.opP rfl (op_assign rfl) ?_
                refine TL.nil ?_
                refine TQ.then ?_
                refine TC.ret ?_
                refine TQ.block_ret ?_
                refine TQ.block_ret ?_
                refine TQ.then_ret ?_
                refine TQ.loop_ret ?_
                refine TQ.block_ret ?_
                refine TQ.then_ret ?_
                refine ret2 rfl rfl rfl (fun w' hp => ?_)
                first
                  | (have hbad : curBad e i := by (unfold curBad; grind)
                     exact ⟨by rw [(cur_bad (ah := ah) hbad).1, (cur_bad (ah := ah) hbad).2], hp.kp⟩)
                  | exact ⟨by rw [(cur_ok (ah := ah) hok).1, (cur_ok (ah := ah) hok).2, ← hI.stop (by omega)], hp.kp⟩
                  | exact ⟨by rw [(cur_ok (ah := ah) hok).1, (cur_ok (ah := ah) hok).2, ← hI.ret0 hkl hpk c7 c8], hp.kp⟩
                  | exact ⟨by rw [(cur_ok (ah := ah) hok).1, (cur_ok (ah := ah) hok).2, ← hI.ret1 hkl hpk c7 c8 c10, if_pos c9]; first | done | rfl, hp.kp⟩
                  | exact ⟨by rw [(cur_ok (ah := ah) hok).1, (cur_ok (ah := ah) hok).2, ← hI.ret1 hkl hpk c7 c8 c11, if_neg c9]; first | done | rfl, hp.kp⟩
              · refine TC.seq ?_
                refine TC.region ?_   -- region 8 edit.go:269
                refine TL.opP rfl (op_field fld_api_Part_N rfl) ?_
                refine TL.opV rfl (op_load ts_int rfl m0 rfl) ?_
                refine TL.opP rfl (op_move rfl) ?_
                refine TL.opP rfl (op_min rfl) ?_
                refine TL.opP rfl (op_assign rfl) ?_
                refine TL.nil ?_
                refine TQ.then ?_
                refine TC.seq ?_
                refine TC.seq ?_
                refine TC.region ?_   -- region 9 edit.go:270
                refine TL.opP rfl (op_field fld_api_Part_Kind rfl) ?_
                refine TL.opV rfl (op_load ts_int rfl m0 rfl) ?_
                refine TL.opP rfl (op_eql rfl rfl) ?_
                refine TL.nil ?_
                refine TQ.then ?_
                first | refine TC.condD rfl (fun c9 => ?_) (fun c9 => ?_) | refine TC.condB rfl (fun c9 => ?_) (fun c9 => ?_)
                · refine TC.region ?_   -- region 10 edit.go:271
                  refine TL.opP rfl (op_move rfl) ?_
                  refine TL.opP rfl (op_move rfl) ?_
                  refine TL.opP rfl (op_add rfl rfl rfl (by first | omega | (split <;> omega)) (by first | omega | (split <;> omega))) ?_
                  refine TL.opP rfl (op_assign rfl) ?_
                  refine TL.nil ?_
                  refine TQ.then ?_
                  refine TC.seq ?_
                  refine TC.region ?_   -- region 11 edit.go:273
                  refine TL.opP rfl (op_move rfl) ?_
                  refine TL.opP rfl (op_move rfl) ?_
                  refine TL.opP rfl (op_sub rfl rfl rfl (by first | omega | (split <;> omega)) (by first | omega | (split <;> omega))) ?_
                  refine TL.opP rfl (op_assign rfl) ?_
                  refine TL.nil ?_
                  refine TQ.then ?_
                  refine TC.seq ?_
                  refine TC.region ?_   -- region 12 edit.go:273
                  refine TL.opP rfl (op_field fld_api_Part_N rfl) ?_
                  refine TL.opV rfl (op_load ts_int rfl m0 rfl) ?_
                  refine TL.opP rfl (op_move rfl) ?_
                  refine TL.opP rfl (op_gtr rfl rfl) ?_
                  refine TL.nil ?_
                  refine TQ.then ?_
                  first | refine TC.condD rfl (fun c10 => ?_) (fun c10 => ?_) | refine TC.condB rfl (fun c10 => ?_) (fun c10 => ?_)
                  · refine TC.seq ?_
                    refine TC.region ?_   -- region 13 edit.go:274
                    refine TL.opP rfl (op_move rfl) ?_
                    refine TL.opP rfl (op_assign rfl) ?_
                    refine TL.opP rfl (op_assign rfl) ?_
                    refine TL.nil ?_
                    refine TQ.then ?_
                    refine TC.ret ?_
                    refine TQ.block_ret ?_
                    refine TQ.block_ret ?_
                    refine TQ.then_ret ?_
                    refine TQ.loop_ret ?_
                    refine TQ.block_ret ?_
                    refine TQ.then_ret ?_
                    refine ret2 rfl rfl rfl (fun w' hp => ?_)
                    first
                      | (have hbad : curBad e i := by (unfold curBad; grind)
                         exact ⟨by rw [(cur_bad (ah := ah) hbad).1, (cur_bad (ah := ah) hbad).2], hp.kp⟩)
                      | exact ⟨by rw [(cur_ok (ah := ah) hok).1, (cur_ok (ah := ah) hok).2, ← hI.stop (by omega)], hp.kp⟩
                      | exact ⟨by rw [(cur_ok (ah := ah) hok).1, (cur_ok (ah := ah) hok).2, ← hI.ret0 hkl hpk c7 c8], hp.kp⟩
                      | exact ⟨by rw [(cur_ok (ah := ah) hok).1, (cur_ok (ah := ah) hok).2, ← hI.ret1 hkl hpk c7 c8 c10, if_pos c9]; first | done | rfl, hp.kp⟩
                      | exact ⟨by rw [(cur_ok (ah := ah) hok).1, (cur_ok (ah := ah) hok).2, ← hI.ret1 hkl hpk c7 c8 c11, if_neg c9]; first | done | rfl, hp.kp⟩
                  · refine TC.skip ?_
                    refine TQ.block_normal ?_
                    refine TQ.block_normal ?_
                    refine TQ.then ?_
                    refine TC.region ?_   -- region 18 edit.go:262
                    refine TL.opP rfl (op_add rfl rfl rfl (by first | omega | (split <;> omega)) (by first | omega | (split <;> omega))) ?_
                    refine TL.opP rfl (op_move rfl) ?_
                    refine TL.nil ?_
                    exact TQ.round (k + 1, i' - minI p.n i', (if p.kind = 1 then tt + minI p.n i' else tt)) (hI.stepB hfit hkl hpk c7 c8 (by first | exact c10 | exact c11)) (by show _ - (k + 1) < _ - k; omega) ⟨rfl, rfl, gi rfl (by first | rfl | (rw [if_pos c9]; rfl) | (rw [if_neg c9]; first | done | rfl)), rfl, rfl, rfl, trivial⟩ (fun _ h => h.tail)
                · refine TC.skip ?_
                  refine TQ.then ?_
                  refine TC.seq ?_
                  refine TC.region ?_   -- region 11 edit.go:273
                  refine TL.opP rfl (op_move rfl) ?_
                  refine TL.opP rfl (op_move rfl) ?_
                  refine TL.opP rfl (op_sub rfl rfl rfl (by first | omega | (split <;> omega)) (by first | omega | (split <;> omega))) ?_
                  refine TL.opP rfl (op_assign rfl) ?_
                  refine TL.nil ?_
                  refine TQ.then ?_
                  refine TC.seq ?_
                  refine TC.region ?_   -- region 12 edit.go:273
                  refine TL.opP rfl (op_field fld_api_Part_N rfl) ?_
                  refine TL.opV rfl (op_load ts_int rfl m0 rfl) ?_
                  refine TL.opP rfl (op_move rfl) ?_
                  refine TL.opP rfl (op_gtr rfl rfl) ?_
                  refine TL.nil ?_
                  refine TQ.then ?_
                  first | refine TC.condD rfl (fun c11 => ?_) (fun c11 => ?_) | refine TC.condB rfl (fun c11 => ?_) (fun c11 => ?_)
                  · refine TC.seq ?_
                    refine TC.region ?_   -- region 13 edit.go:274
                    refine TL.opP rfl (op_move rfl) ?_
                    refine TL.opP rfl (op_assign rfl) ?_
                    refine TL.opP rfl (op_assign rfl) ?_
                    refine TL.nil ?_
                    refine TQ.then ?_
                    refine TC.ret ?_
                    refine TQ.block_ret ?_
                    refine TQ.block_ret ?_
                    refine TQ.then_ret ?_
                    refine TQ.loop_ret ?_
                    refine TQ.block_ret ?_
                    refine TQ.then_ret ?_
                    refine ret2 rfl rfl rfl (fun w' hp => ?_)
                    first
                      | (have hbad : curBad e i := by (unfold curBad; grind)
                         exact ⟨by rw [(cur_bad (ah := ah) hbad).1, (cur_bad (ah := ah) hbad).2], hp.kp⟩)
                      | exact ⟨by rw [(cur_ok (ah := ah) hok).1, (cur_ok (ah := ah) hok).2, ← hI.stop (by omega)], hp.kp⟩
                      | exact ⟨by rw [(cur_ok (ah := ah) hok).1, (cur_ok (ah := ah) hok).2, ← hI.ret0 hkl hpk c7 c8], hp.kp⟩
                      | exact ⟨by rw [(cur_ok (ah := ah) hok).1, (cur_ok (ah := ah) hok).2, ← hI.ret1 hkl hpk c7 c8 c10, if_pos c9]; first | done | rfl, hp.kp⟩
                      | exact ⟨by rw [(cur_ok (ah := ah) hok).1, (cur_ok (ah := ah) hok).2, ← hI.ret1 hkl hpk c7 c8 c11, if_neg c9]; first | done | rfl, hp.kp⟩
                  · refine TC.skip ?_
                    refine TQ.block_normal ?_
                    refine TQ.block_normal ?_
                    refine TQ.then ?_
                    refine TC.region ?_   -- region 18 edit.go:262
                    refine TL.opP rfl (op_add rfl rfl rfl (by first | omega | (split <;> omega)) (by first | omega | (split <;> omega))) ?_
                    refine TL.opP rfl (op_move rfl) ?_
                    refine TL.nil ?_
                    exact TQ.round (k + 1, i' - minI p.n i', (if p.kind = 1 then tt + minI p.n i' else tt)) (hI.stepB hfit hkl hpk c7 c8 (by first | exact c10 | exact c11)) (by show _ - (k + 1) < _ - k; omega) ⟨rfl, rfl, gi rfl (by first | rfl | (rw [if_pos c9]; rfl) | (rw [if_neg c9]; first | done | rfl)), rfl, rfl, rfl, trivial⟩ (fun _ h => h.tail)
        · refine TC.exit ?_
          refine TQ.then_exit ?_
          refine TQ.loop_exit ?_
          refine TQ.block_hit ?_
          refine TQ.then ?_
          refine TC.seq ?_
          refine TC.region ?_   -- region 19 edit.go:278
          refine TL.opP rfl (op_move rfl) ?_
          refine TL.opP rfl (op_assign rfl) ?_
          refine TL.opP rfl (op_assign rfl) ?_
          refine TL.nil ?_
          refine TQ.then ?_
          refine TC.ret ?_
          refine ret2 rfl rfl rfl (fun w' hp => ?_)
          first
            | (have hbad : curBad e i := by (unfold curBad; grind)
               exact ⟨by rw [(cur_bad (ah := ah) hbad).1, (cur_bad (ah := ah) hbad).2], hp.kp⟩)
            | exact ⟨by rw [(cur_ok (ah := ah) hok).1, (cur_ok (ah := ah) hok).2, ← hI.stop (by omega)], hp.kp⟩
            | exact ⟨by rw [(cur_ok (ah := ah) hok).1, (cur_ok (ah := ah) hok).2, ← hI.ret0 hkl hpk c7 c8], hp.kp⟩
            | exact ⟨by rw [(cur_ok (ah := ah) hok).1, (cur_ok (ah := ah) hok).2, ← hI.ret1 hkl hpk c7 c8 c10, if_pos c9]; first | done | rfl, hp.kp⟩
            | exact ⟨by rw [(cur_ok (ah := ah) hok).1, (cur_ok (ah := ah) hok).2, ← hI.ret1 hkl hpk c7 c8 c11, if_neg c9]; first | done | rfl, hp.kp⟩

end Go.SK
