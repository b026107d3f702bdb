/- The law UndoAll answers true where all that comes in is of bulk at most 2^20. -/
import Derived.Test.YtcfdglknagbbgaaDoorE101
set_option linter.unusedVariables false
set_option linter.unusedSimpArgs false
set_option maxRecDepth 100000
namespace Go.SK
open Go Go.RowKit Go.Proofs
variable {S : Nat → Prop} {w0 : World} {F L : List Res}
theorem undoAll_law (s : ByteArray) (l : List DoE) (vl : Value) {w : World} (hss : s.size ≤ 140737488351232) (hl : RdRow w vl 3 l.length (encs l)) (hr : ∀ d ∈ l, EditIn w d.v d.e) (hB : s.size + dsum l + l.length ≤ 1048576) (hT : Tabs w) :
    Calls Tryd.prog 5 (List.toArray [.string s, vl]) w fun e' w' => e' = .returned (.bool true) ∧ Kp NoB w w' := by
 refine calls_start Tryd.func5 rfl rfl rfl (Hp.i3 (r := tabs) (s := .rd vl 3 l.length (encs l)) (t := col 3 (dcol l)) hT hl (dcol_holds hr)) ?_
 refine TC.seq (TC.region (TL.opP rfl (op_assign rfl) (TL.nil (TQ.then (TC.seq (TC.seq (TC.region (TL.opP rfl (op_move rfl) (TL.opP rfl (op_move rfl) ?_)))))))))
 refine TL.opX rfl (OpX.callX en_7 rfl (ushort_x s l _ (by omega) rd1 (fun d hd => Rdb.col (x := (d.v, d.e.length, encs d.e)) m2 (dcol_mem hd)))) ?_; rintro _ _ ⟨b1, rfl, hb1, rfl⟩
 refine TL.opP rfl (op_not rfl rfl) (TL.opP rfl (op_move rfl) ?_)
 refine TL.sp (fun c1 => ?_) (fun c1 => ?_)
 ·refine TL.gFt rfl rfl rfl (TL.gFt rfl rfl rfl (TL.gFt rfl rfl rfl (TL.opP rfl (op_pickT rfl rfl) (TL.opP rfl (op_move rfl) (TL.gFt rfl rfl rfl (TL.gFt rfl rfl rfl (TL.gFt rfl rfl rfl (TL.opP rfl (op_pickT rfl rfl) (TL.nil (TQ.then (TC.condT rfl (TC.seq (TC.region (TL.callq rfl en_9 rfl (fun w2 hp => uawake_calls w2 (tabs_at hp m0)) (TL.opP rfl (op_assign rfl) (TL.nil (TQ.then (TC.ret (TQ.then_ret ?_)))))))))))))))))))
  refine ret1 rfl rfl (fun w' hp => ?_)
  exact ⟨rfl, hp.kp⟩
 ·refine TL.gT rfl rfl (TL.opP rfl (op_move rfl) (TL.gT rfl rfl (TL.opV rfl (op_lenV rfl un_sl_sealskinlaw17_Do rfl rd1) (TL.gT rfl rfl (TL.opP rfl (op_gtr rfl rfl) (TL.opP rfl (op_pickF rfl rfl) (TL.opP rfl (op_move rfl) ?_)))))))
  refine TL.sp (fun c2 => ?_) (fun c2 => ?_)
  ·refine TL.gFt rfl rfl rfl (TL.gFt rfl rfl rfl (TL.gFt rfl rfl rfl (TL.opP rfl (op_pickT rfl rfl) (TL.nil (TQ.then (TC.condT rfl (TC.seq (TC.region (TL.callq rfl en_9 rfl (fun w2 hp => uawake_calls w2 (tabs_at hp m0)) (TL.opP rfl (op_assign rfl) (TL.nil (TQ.then (TC.ret (TQ.then_ret ?_))))))))))))))
   refine ret1 rfl rfl (fun w' hp => ?_)
   exact ⟨rfl, hp.kp⟩
  ·refine TL.gT rfl rfl (TL.opP rfl (op_move rfl) (TL.gT rfl rfl (TL.callq rfl en_8 rfl (fun w2 hp => valid_calls s w2 (tabs_at hp m0) (by omega)) (TL.gT rfl rfl (TL.opP rfl (op_not rfl rfl) (TL.opP rfl (op_pickF rfl rfl) (TL.nil (TQ.then ?_))))))))
   refine TC.sp rfl (fun c3 => ?_) (fun c3 => ?_)
   ·refine TC.seq (TC.region (TL.callq rfl en_9 rfl (fun w2 hp => uawake_calls w2 (tabs_at hp m0)) (TL.opP rfl (op_assign rfl) (TL.nil (TQ.then (TC.ret (TQ.then_ret ?_)))))))
    refine ret1 rfl rfl (fun w' hp => ?_)
    exact ⟨rfl, hp.kp⟩
   ·obtain ⟨hs6, hl1, hdo⟩ := hb1 (by simpa using c1)
    have hv : valid s = true := by simpa using c3
    have hl50 : l.length ≤ 50 := by omega
    have hrd := rcount_dec s
    have hdl := dec_len s
    refine TC.skip (TQ.then (TC.seq (TC.region (TL.opP rfl (op_move rfl) ?_))))
    refine TL.opX rfl (OpX.callX en_10 rfl (ubegun_x s (by omega) (by omega))) ?_; rintro _ _ ⟨g2, rfl, rfl⟩
    rw [rcount_dec]
    refine TL.opP rfl (op_assign rfl) (TL.nil (TQ.then (TC.seq (TC.region (TL.opP rfl (op_move rfl) ?_)))))
    refine TL.opX rfl (OpX.buildSlice (ps := #[(0, _)]) rfl (bs_string_1 _)) ?_; rintro _ _ ⟨g38, rfl, rfl⟩
    refine TL.hp (fun _ h => blk_row (k := 1) (m := 1) h rfl (by decide)) (TL.opP rfl (op_assign rfl) (TL.nil (TQ.then (TC.seq (TC.seq (TC.region (TL.opP rfl (op_move rfl) (TL.opV rfl (op_lenV rfl un_sl_sealskinlaw17_Do rfl rd5) (TL.opP rfl (op_move rfl) (TL.nil (TQ.then (TC.block ?_))))))))))))
    refine TC.loop (ι := Nat × HS × Value × Value × List PE × List PE × Value × List (List Part)) (fun (i, h, bv, av, pb, pa, tv, E) => [(0, .string (txt E s E.length)), (5, .pointer (some ⟨g2, 0, none⟩)), (6, tv), (39, vl), (40, .int .i64 (l.length : Int)), (41, .int .i64 (i : Int))]) (fun (i, h, bv, av, pb, pa, tv, E) => [.blk g2 (.cells [bv, av, .int .i64 h.n, .bool true].toArray 66 (0, 0)), pileR bv pb, pileR av pa, .row tv 9 1 (txts E s).length ((txts E s).map Value.string), tabs, .rd vl 3 l.length (encs l), col 3 (dcol l)]) (fun (i, h, bv, av, pb, pa, tv, E) => AL E s h ∧ hsOf pb pa h.n = h ∧ ((dec (txt E s E.length)).length : Int) + dsum (l.drop i) ≤ 1048576 ∧ E.length ≤ i ∧ i ≤ l.length) (fun (i, h, bv, av, pb, pa, tv, E) => l.length - i) ((0, hs0 s, .slice none 0 0, .slice none 0 0, [], [], .slice (some ⟨g38, 0, none⟩) 1 1, [])) (⟨AL.start hv (by omega), rfl, by rw [List.drop_zero]; show ((dec s).length : Int) + _ ≤ _; omega, Nat.zero_le _, Nat.zero_le _⟩) ⟨rfl, rfl, rfl, rfl, rfl, rfl, trivial⟩ (fun _ h => (by first | exact h.pick6.pick6.pick6.pick3.pick6.pick6.pick6 | (have hq := h.pick6.pick6.pick6.pick3.pick6.pick6.pick6; exact hq))) ?_
    rintro ⟨i, h, bv, av, pb, pa, tv, E⟩ ⟨hA, he2, hrm, hEi, hi⟩
    have he := he2
    have hG := hA.g
    have htl := txts_len (E := E) (s := s)
    obtain ⟨hrb, hra, _, rlb, rla⟩ := hs_eq he
    have hbl := hG.bl
    have hal := hG.al
    have hz := hG.size
    have hGn := hG.n
    have hGl := hG.nle
    show TC _ _ _ _ [(0, .string (txt E s E.length)), (5, .pointer (some ⟨g2, 0, none⟩)), (6, tv), (39, vl), (40, .int .i64 (l.length : Int)), (41, .int .i64 (i : Int))] _ _ ([.blk g2 (.cells [bv, av, .int .i64 h.n, .bool true].toArray 66 (0, 0)), pileR bv pb, pileR av pa, .row tv 9 1 (txts E s).length ((txts E s).map Value.string), tabs, .rd vl 3 l.length (encs l), col 3 (dcol l)])
    refine TC.seq (TC.region (TL.opP rfl (op_lss rfl rfl) (TL.nil (TQ.then (TC.seq ?_)))))
    refine TC.sp rfl (fun c4 => ?_) (fun c4 => ?_)
    ·have hkl0 : i < l.length := by omega
     obtain ⟨d, hdk⟩ : ∃ d, l.getD i default = d := ⟨_, rfl⟩
     have hdm : d ∈ l := by rw [← hdk, List.getD_eq_getElem?_getD, List.getElem?_eq_getElem hkl0]; exact List.getElem_mem hkl0
     have hme := dcol_mem hdm
     have hE := hr d hdm
     obtain ⟨hd1, hd2⟩ := hdo i hkl0
     rw [hdk] at hd1
     have hsmd : Sm d.e := ⟨hE.small, by omega⟩
     have hdr := dsum_drop hkl0 hdk
     refine TC.skip (TQ.then (TC.seq (TC.block (TC.seq (TC.region (TL.opV rfl (op_index tsl_sealskinlaw17_Do rfl rd5 rfl (by omega) (by omega)) (TL.opV rfl (op_loadRS tst_sealskinlaw17_Do rfl rd5 (cs := [.int .i64 d.op, .int .i64 d.n, d.v]) rfl (lkS hkl0 hdk) (by decide)) ?_)))))))
     refine TL.opX rfl (OpX.alloc tz_sealskinlaw17_Do rfl) ?_; rintro _ _ ⟨g8, rfl, rfl⟩
     refine TL.opX0 (OpX.storeS tst_sealskinlaw17_Do rfl rfl rfl rfl rfl (by first | exact List.all_eq_true.1 rfl | exact do_one)) ?_; rintro _ _ rfl
     refine TL.nil (TQ.then (TC.seq (TC.region (TL.opP rfl (op_field fld_sealskinlaw17_Do_E rfl) (TL.opV rfl (op_load ts_sl_api_Part rfl m0 rfl) (TL.opP rfl (op_move rfl) (TL.callq rfl en_11 rfl (fun w2 hp => apply_calls d.e (txt E s E.length) d.v (by omega) w2 (tabs_at hp m5) hE.small ((Rdb.col (x := (d.v, d.e.length, encs d.e)) m7 hme) _ _ _ hp)) (TL.opP rfl (op_move rfl) (TL.opP rfl (op_extract rfl rfl) (TL.opP rfl (op_extract rfl rfl) (TL.opP rfl (op_assign rfl) (TL.opP rfl (op_assign rfl) (TL.nil (TQ.then (TC.seq (TC.region (TL.opP rfl (op_move rfl) (TL.opP rfl (op_eql rfl rfl) (TL.nil (TQ.then ?_))))))))))))))))))))
     refine TC.sp rfl (fun c5 => ?_) (fun c5 => ?_)
     ·obtain ⟨r1, r2, r3⟩ := app_room (B := 1048576) c5 (by omega)
      obtain ⟨mm1, mm2, mm3⟩ := hA.step (by omega) c5 r1 hsmd
      have hE1 : (E ++ [d.e]).length = E.length + 1 := by simp
      refine TC.seq (TC.seq (TC.region (TL.opP rfl (op_move rfl) (TL.opP rfl (op_field fld_sealskinlaw17_Do_E rfl) (TL.opV rfl (op_load ts_sl_api_Part rfl m0 rfl) (TL.opP rfl (op_move rfl) (TL.hp (fun _ h => h.pick3.pick3.pick3) ?_)))))))
      refine TL.opX rfl (OpX.callX en_12 rfl (hmine_x (d.e) ((txt E s E.length)) _ _ _ _ _ _ _ hsmd (by omega) (by first | omega | simp) m2 (Rdb.col (x := (d.v, d.e.length, encs d.e)) m4 hme))) ?_; rintro _ _ ⟨bv3, av3, hn3, pb3, pa3, rfl, hh3, rfl⟩
      rw [he] at hh3
      rw [he]
      have q1 := (hs_eq hh3).2.2.1
      subst q1
      refine TL.opP rfl (op_neq rfl rfl) (TL.nil (TQ.then ?_))
      refine TC.sp rfl (fun c6 => ?_) (fun c6 => ?_)
      ·exact absurd mm1 c6
      ·refine TC.skip (TQ.then (TC.seq (TC.region (TL.opP rfl (op_move rfl) (TL.opP rfl (op_assign rfl) (TL.nil (TQ.then (TC.region (TL.opP rfl (op_move rfl) (TL.opP rfl (op_move rfl) ?_))))))))))
       refine TL.opX rfl (OpX.buildSlice (ps := #[(0, _)]) rfl (bs_string_1 _)) ?_; rintro _ _ ⟨g63, rfl, rfl⟩
       refine TL.hp (fun _ h => blk_row (k := 1) (m := 1) h rfl (by decide)) (TL.hp (fun _ h => h.pick5) ?_)
       refine TL.opX rfl (OpX.append (bytes := 16) tsl_string (by decide) (by decide) rfl rw1 (List.all_eq_true.1 rfl) (by omega) (zs := (txts (E ++ [d.e]) s).map Value.string) (by rw [txts_app, List.map_append]; rfl)) ?_; rintro v4 _ rfl
       refine TL.know (fun _ h => row1 h) (fun o4 => (TL.hp (fun _ h => row_lenM h) (TL.opP rfl (op_assign rfl) (TL.nil (TQ.block_normal (TQ.then (TC.region (TL.opP rfl (op_add rfl rfl rfl (by omega) (by omega)) (TL.opP rfl (op_move rfl) (TL.nil ?_))))))))))
       exact TQ.round (i + 1, h.mine d.e (txt E s E.length), bv3, av3, pb3, pa3, v4, E ++ [d.e]) (by (try dsimp only); exact ⟨mm2, hh3, by rw [mm3]; omega, by omega, by omega⟩) (by show l.length - (i + 1) < l.length - i; omega) ⟨(by first | rfl | (show _ = some (Value.string (txt (E ++ [d.e]) s (E ++ [d.e]).length)); rw [mm3]; rfl)), rfl, rfl, rfl, rfl, rfl, trivial⟩ (fun _ h => h.drop5.drop1.pick6.pick6.pick6.pick3.pick6.pick6.pick6)
     ·refine TC.skip (TQ.block_normal (TQ.then (TC.region (TL.opP rfl (op_add rfl rfl rfl (by omega) (by omega)) (TL.opP rfl (op_move rfl) (TL.nil ?_))))))
      exact TQ.round (i + 1, h, bv, av, pb, pa, tv, E) (by (try dsimp only); exact ⟨hA, he2, by omega, by omega, by omega⟩) (by show l.length - (i + 1) < l.length - i; omega) ⟨(by first | rfl | (show _ = some (Value.string (txt (E ++ [d.e]) s (E ++ [d.e]).length)); rw [mm3]; rfl)), rfl, rfl, rfl, rfl, rfl, trivial⟩ (fun _ h => h.tail)
    ·refine TC.exit (TQ.then_exit (TQ.loop_exit (TQ.block_hit (TQ.then (TC.seq (TC.seq (TC.region (TL.opP rfl (op_move rfl) (TL.opV rfl (op_lenV rfl un_sl_string rfl rw3) (TL.opP rfl (op_sub rfl rfl rfl (by omega) (by omega)) (TL.opP rfl (op_assign rfl) ?_)))))))))))
     have e1 : ((txts E s).length : Int) - 2 = (E.length : Int) - 1 := by omega
     rw [e1]
     refine TL.nil (TQ.then (TC.block (TC.loop (ι := Nat × HS × Value × Value × List PE × List PE) (fun (k, h2, bv2, av2, pb2, pa2) => [(0, .string (txt E s k)), (5, .pointer (some ⟨g2, 0, none⟩)), (6, tv), (11, .int .i64 ((k : Int) - 1))]) (fun (k, h2, bv2, av2, pb2, pa2) => [.blk g2 (.cells [bv2, av2, .int .i64 h2.n, .bool true].toArray 66 (0, 0)), pileR bv2 pb2, pileR av2 pa2, .row tv 9 1 (txts E s).length ((txts E s).map Value.string), tabs]) (fun (k, h2, bv2, av2, pb2, pa2) => UL E s k h2 ∧ hsOf pb2 pa2 h2.n = h2) (fun (k, h2, bv2, av2, pb2, pa2) => k) ((E.length, h, bv, av, pb, pa)) (⟨hA.turn, he2⟩) ⟨rfl, rfl, rfl, rfl, trivial⟩ (fun _ h => h.drop6.drop5) ?_)))
     rintro ⟨k, h2, bv2, av2, pb2, pa2⟩ ⟨hU, he3⟩
     obtain ⟨hrb2, hra2, _, rlb2, rla2⟩ := hs_eq he3
     have hbl2 := hU.g.bl
     have hal2 := hU.g.al
     have hz2 := hU.g.size
     have hkl := hU.kl
     show TC _ _ _ _ [(0, .string (txt E s k)), (5, .pointer (some ⟨g2, 0, none⟩)), (6, tv), (11, .int .i64 ((k : Int) - 1))] _ _ ([.blk g2 (.cells [bv2, av2, .int .i64 h2.n, .bool true].toArray 66 (0, 0)), pileR bv2 pb2, pileR av2 pa2, .row tv 9 1 (txts E s).length ((txts E s).map Value.string), tabs])
     refine TC.seq (TC.seq (TC.region (TL.opP rfl (op_move rfl) (TL.opP rfl (op_geq rfl rfl) (TL.nil (TQ.then ?_))))))
     refine TC.sp rfl (fun c7 => ?_) (fun c7 => ?_)
     ·obtain ⟨j, rfl⟩ : ∃ j, k = j + 1 := ⟨k - 1, by omega⟩
      have e2 : (((j + 1 : Nat) : Int) - 1) = (j : Int) := by omega
      rw [e2]
      obtain ⟨us1, us2, us3, us4, us5⟩ := hU.step hA (by omega)
      refine TC.skip (TQ.then (TC.seq (TC.block (TC.seq (TC.region (TL.opP rfl (op_move rfl) (TL.opP rfl (op_move rfl) ?_)))))))
      refine TL.opX rfl (OpX.callX en_14 rfl (hundo_x (txt E s (j + 1)) _ _ _ _ _ _ (sm_sn (by rw [hrb2]; exact hU.g.smb)) (by omega) (by first | omega | simp) (by first | omega | simp) m1)) ?_; rintro _ _ ⟨bv5, av5, hn5, pb5, pa5, ve5, rfl, hh5, rfl⟩
      rw [he3] at hh5
      rw [he3, us2]
      have q1 := (hs_eq hh5).2.2.1
      subst q1
      refine TL.opP rfl (op_move rfl) (TL.opP rfl (op_extract rfl rfl) (TL.opP rfl (op_extract rfl rfl) (TL.opP rfl (op_assign rfl) (TL.opP rfl (op_assign rfl) (TL.nil (TQ.then (TC.seq (TC.region (TL.opP rfl (op_move rfl) (TL.opP rfl (op_move rfl) (TL.callq rfl en_16 rfl (fun w2 hp => uapplied_at _ w2 (tabs_at hp m5) (by omega) us4.1 us3 (rw0 _ _ _ hp)) (TL.opP rfl (op_assign rfl) (TL.nil (TQ.then (TC.seq (TC.region (TL.opP rfl (op_move rfl) (TL.opP rfl (op_neq rfl rfl) (TL.opP rfl (op_move rfl) ?_)))))))))))))))))))
      refine TL.sp (fun c8 => ?_) (fun c8 => ?_)
      ·exact absurd us1 c8
      ·refine TL.gT rfl rfl (TL.opP rfl (op_move rfl) (TL.gT rfl rfl (TL.opP rfl (op_move rfl) (TL.gT rfl rfl (TL.opP rfl (op_move rfl) (TL.gT rfl rfl (TL.opV rfl (op_index tsl_string rfl rw4 rfl (by omega) (by omega)) (TL.gT rfl rfl (TL.opV rfl (op_loadR ts_string rfl rw4 (lkM (f := Value.string) (i := j) (d := ⟨#[]⟩) (by omega) rfl (by omega))) (TL.gT rfl rfl (TL.opP rfl (op_sneq rfl rfl) (TL.opP rfl (op_pickF rfl rfl) (TL.nil (TQ.then ?_))))))))))))))
       refine TC.sp rfl (fun c9 => ?_) (fun c9 => ?_)
       ·exact absurd (txts_get (by omega)).symm c9
       ·refine TC.skip (TQ.block_normal (TQ.then (TC.region (TL.opP rfl (op_move rfl) (TL.opP rfl (op_sub rfl rfl rfl (by omega) (by omega)) (TL.opP rfl (op_assign rfl) (TL.nil ?_)))))))
        exact TQ.round (j, h2.undo (txt E s (j + 1)), bv5, av5, pb5, pa5) (by (try dsimp only); exact ⟨us5, hh5⟩) (by show j < j + 1; omega) ⟨rfl, rfl, rfl, rfl, trivial⟩ (fun _ h => h.tail)
     ·obtain rfl : k = 0 := by omega
      obtain ⟨uz1, uz2⟩ := hU.zero
      refine TC.exit (TQ.then_exit (TQ.loop_exit (TQ.block_hit (TQ.then (TC.seq (TC.seq (TC.region (TL.opP rfl (op_move rfl) (TL.opP rfl (op_move rfl) ?_)))))))))
      refine TL.opX rfl (OpX.callX en_14 rfl (hundo_x (txt E s 0) _ _ _ _ _ _ (sm_sn (by rw [hrb2]; exact hU.g.smb)) (by omega) (by first | omega | simp) (by first | omega | simp) m1)) ?_; rintro _ _ ⟨bv6, av6, hn6, pb6, pa6, ve6, rfl, hh6, rfl⟩
      rw [he3] at hh6
      rw [he3]
      rw [uz2] at hh6
      have q1 := (hs_eq hh6).2.2.1
      subst q1
      refine TL.opP rfl (op_move rfl) (TL.opP rfl (op_extract rfl rfl) (TL.opP rfl (op_extract rfl rfl) (TL.opP rfl (op_assign rfl) (TL.opP rfl (op_assign rfl) (TL.nil (TQ.then (TC.seq (TC.region (TL.opP rfl (op_move rfl) (TL.opP rfl (op_neq rfl rfl) (TL.nil (TQ.then ?_))))))))))))
      refine TC.sp rfl (fun c10 => ?_) (fun c10 => ?_)
      ·exact absurd uz1 c10
      ·refine TC.skip (TQ.then (TC.seq (TC.seq (TC.region (TL.opP rfl (op_move rfl) (TL.opV rfl (op_cut 1 ((txts E s).length) tsl_string rfl rw4 (vlo := (some _)) (vhi := none) rfl rfl (.inr ⟨_, _, rfl, by omega⟩) (.inl ⟨rfl, rfl⟩) (by omega) (by omega)) (TL.opV rfl (op_lenV rfl un_sl_string rfl (Rdb.cut rw4 1 ((txts E s).length) (by omega) (by omega))) (TL.opP rfl (op_move rfl) (TL.nil (TQ.then (TC.block (TC.loop (ι := Nat × HS × Value × Value × List PE × List PE) (fun (k, h3, bv3, av3, pb3, pa3) => [(0, .string (txt E s k)), (5, .pointer (some ⟨g2, 0, none⟩)), (101, Value.cut tv 1 ((txts E s).length) 1), (102, .int .i64 (((txts E s).length - 1 : Nat) : Int)), (103, .int .i64 (k : Int))]) (fun (k, h3, bv3, av3, pb3, pa3) => [.blk g2 (.cells [bv3, av3, .int .i64 h3.n, .bool true].toArray 66 (0, 0)), pileR bv3 pb3, pileR av3 pa3, .row tv 9 1 (txts E s).length ((txts E s).map Value.string), tabs]) (fun (k, h3, bv3, av3, pb3, pa3) => RL E s k h3 ∧ hsOf pb3 pa3 h3.n = h3) (fun (k, h3, bv3, av3, pb3, pa3) => E.length - k) ((0, h2, bv6, av6, pb6, pa6)) (⟨hU.turn, hh6⟩) ⟨rfl, rfl, rfl, rfl, rfl, trivial⟩ (fun _ h => h.tail) ?_))))))))))))
       rintro ⟨k, h3, bv3, av3, pb3, pa3⟩ ⟨hR, he4⟩
       obtain ⟨hrb3, hra3, _, rlb3, rla3⟩ := hs_eq he4
       have hbl3 := hR.g.bl
       have hal3 := hR.g.al
       have hz3 := hR.g.size
       have hkl3 := hR.kl
       show TC _ _ _ _ [(0, .string (txt E s k)), (5, .pointer (some ⟨g2, 0, none⟩)), (101, Value.cut tv 1 ((txts E s).length) 1), (102, .int .i64 (((txts E s).length - 1 : Nat) : Int)), (103, .int .i64 (k : Int))] _ _ ([.blk g2 (.cells [bv3, av3, .int .i64 h3.n, .bool true].toArray 66 (0, 0)), pileR bv3 pb3, pileR av3 pa3, .row tv 9 1 (txts E s).length ((txts E s).map Value.string), tabs])
       refine TC.seq (TC.region (TL.opP rfl (op_lss rfl rfl) (TL.nil (TQ.then (TC.seq ?_)))))
       refine TC.sp rfl (fun c11 => ?_) (fun c11 => ?_)
       ·obtain ⟨rs1, rs2, rs3⟩ := hR.step hA (by omega)
        refine TC.skip (TQ.then (TC.seq (TC.block (TC.seq (TC.region (TL.opV rfl (op_index tsl_string rfl (Rdb.cut rw3 1 ((txts E s).length) (by omega) (by omega)) rfl (by omega) (by omega)) (TL.opV rfl (op_loadR ts_string rfl (Rdb.cut rw3 1 ((txts E s).length) (by omega) (by omega)) (lk_tail (k := k) (by omega) (by omega))) (TL.opP rfl (op_assign rfl) (TL.nil (TQ.then (TC.seq (TC.region (TL.opP rfl (op_move rfl) (TL.opP rfl (op_move rfl) ?_))))))))))))))
        refine TL.opX rfl (OpX.callX en_15 rfl (hredo_x (txt E s k) _ _ _ _ _ _ (sm_sn (by rw [hra3]; exact hR.g.sma)) (by omega) (by first | omega | simp) (by first | omega | simp) m1)) ?_; rintro _ _ ⟨bv7, av7, hn7, pb7, pa7, ve7, rfl, hh7, rfl⟩
        rw [he4] at hh7
        rw [he4, rs2]
        have q1 := (hs_eq hh7).2.2.1
        subst q1
        refine TL.opP rfl (op_move rfl) (TL.opP rfl (op_extract rfl rfl) (TL.opP rfl (op_extract rfl rfl) (TL.opP rfl (op_assign rfl) (TL.opP rfl (op_assign rfl) (TL.nil (TQ.then (TC.seq (TC.region (TL.opP rfl (op_move rfl) (TL.opP rfl (op_move rfl) (TL.callq rfl en_16 rfl (fun w2 hp => uapplied_at (t := txt E s (k + 1)) _ w2 (tabs_at hp m5) (by omega) (hA.sm k (by omega)).1 rfl (rw0 _ _ _ hp)) (TL.opP rfl (op_assign rfl) (TL.nil (TQ.then (TC.seq (TC.region (TL.opP rfl (op_move rfl) (TL.opP rfl (op_neq rfl rfl) (TL.opP rfl (op_move rfl) ?_)))))))))))))))))))
        refine TL.sp (fun c12 => ?_) (fun c12 => ?_)
        ·exact absurd rs1 c12
        ·refine TL.gT rfl rfl (TL.opP rfl (op_move rfl) (TL.gT rfl rfl (TL.opP rfl (op_move rfl) (TL.gT rfl rfl (TL.opP rfl (op_sneq rfl rfl) (TL.opP rfl (op_pickF rfl rfl) (TL.nil (TQ.then ?_))))))))
         refine TC.sp rfl (fun c13 => ?_) (fun c13 => ?_)
         ·exact absurd (txts_get (by omega)).symm c13
         ·refine TC.skip (TQ.block_normal (TQ.then (TC.region (TL.opP rfl (op_add rfl rfl rfl (by omega) (by omega)) (TL.opP rfl (op_move rfl) (TL.nil ?_))))))
          exact TQ.round (k + 1, h3.redo (txt E s k), bv7, av7, pb7, pa7) (by (try dsimp only); exact ⟨rs3, hh7⟩) (by show E.length - (k + 1) < E.length - k; omega) ⟨rfl, rfl, rfl, rfl, rfl, trivial⟩ (fun _ h => h.tail)
       ·refine TC.exit (TQ.then_exit (TQ.loop_exit (TQ.block_hit (TQ.then (TC.seq (TC.region (TL.callq rfl en_9 rfl (fun w2 hp => uawake_calls w2 (tabs_at hp m4)) (TL.opP rfl (op_assign rfl) (TL.nil (TQ.then (TC.ret ?_)))))))))))
        refine ret1 rfl rfl (fun w' hp => ?_)
        exact ⟨rfl, hp.kp⟩

end Go.SK
