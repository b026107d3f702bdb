/- The law UndoBack answers true where all that comes in is of bulk at most 2^20. -/
import Derived.Test.YtcfdglknagbbgaaDoorE100
set_option linter.unusedVariables false
set_option linter.unusedSimpArgs false
set_option maxRecDepth 100000
namespace Go.SK
open Go Go.RowKit Go.Proofs
variable {S : Nat → Prop} {w0 : World} {F L : List Res}
theorem undoBack_law (s : ByteArray) (l : List DoE) (vl : Value) (e : List Part) (v : Value) {w : World} (hss : s.size ≤ 140737488351232) (hl : RdRow w vl 3 l.length (encs l)) (hr : ∀ d ∈ l, EditIn w d.v d.e) (he : EditIn w v e) (hB : s.size + dsum l + bsum e + l.length ≤ 1048576) (hT : Tabs w) :
    Calls Tryd.prog 3 (List.toArray [.string s, vl, v]) w fun e' w' => e' = .returned (.bool true) ∧ Kp NoB w w' := by
 have he1 := he.rd.one
 refine calls_start Tryd.func3 rfl rfl rfl (Hp.i4 (r := tabs) (s := .rd vl 3 l.length (encs l)) (t := col 3 (dcol l)) (u := .rd v 3 e.length (encs e)) hT hl (dcol_holds hr) he.rd) ?_
 refine TC.seq (TC.region (TL.opP rfl (op_assign rfl) (TL.nil (TQ.then (TC.seq (TC.seq (TC.region (TL.opP rfl (op_move rfl) (TL.opP rfl (op_move rfl) (TL.opP rfl (op_build (ps := #[(2, _)]) rfl (bl_sealskinlaw17_Do_2 _)) ?_))))))))))
 refine TL.opX rfl (OpX.buildSlice (ps := #[(0, _)]) rfl (bs_sealskinlaw17_Do_1 ⟨0, 0, v, e, he1⟩)) ?_; rintro _ _ ⟨g23, rfl, rfl⟩
 refine TL.hp (fun _ h => blk_row (k := 3) (m := 1) h rfl (by decide)) (TL.opP rfl (op_move rfl) ?_)
 refine TL.opX rfl (OpX.append (bytes := 40) tsl_sealskinlaw17_Do (by decide) (by decide) rfl rd2 (encs_one _) (by omega) (zs := encs ((⟨0, 0, v, e, he1⟩ : DoE) :: l)) rfl) ?_; rintro v1 _ rfl
 refine TL.know (fun _ h => row1 h) (fun o1 => ?_)
 refine TL.hp (fun _ h => row_lenE (show 1 + l.length = ((⟨0, 0, v, e, he1⟩ : DoE) :: l).length from by rw [List.length_cons]; omega) h) ?_
 refine TL.opX rfl (OpX.callX en_7 rfl (ushort_x s ((⟨0, 0, v, e, he1⟩ : DoE) :: l) _ (by omega) rw0 (by intro d hd; rcases List.mem_cons.1 hd with rfl | hd; exact rd4; exact Rdb.col (x := (d.v, d.e.length, encs d.e)) m3 (dcol_mem hd)))) ?_; rintro _ _ ⟨b2, rfl, hb2, rfl⟩
 refine TL.opP rfl (op_not rfl rfl) (TL.opP rfl (op_move rfl) ?_)
 refine TL.sp (fun c1 => ?_) (fun c1 => ?_)
 ·refine TL.gFt rfl rfl rfl (TL.gFt rfl rfl rfl (TL.gFt rfl rfl rfl (TL.opP rfl (op_pickT rfl rfl) (TL.nil (TQ.then (TC.condT rfl (TC.seq (TC.region (TL.callq rfl en_9 rfl (fun w2 hp => uawake_calls w2 (tabs_at hp m1)) (TL.opP rfl (op_assign rfl) (TL.nil (TQ.then (TC.ret (TQ.then_ret ?_))))))))))))))
  refine ret1 rfl rfl (fun w' hp => ?_)
  exact ⟨rfl, hp.kp⟩
 ·refine TL.gT rfl rfl (TL.opP rfl (op_move rfl) (TL.gT rfl rfl (TL.callq rfl en_8 rfl (fun w2 hp => valid_calls s w2 (tabs_at hp m1) (by omega)) (TL.gT rfl rfl (TL.opP rfl (op_not rfl rfl) (TL.opP rfl (op_pickF rfl rfl) (TL.nil (TQ.then ?_))))))))
  refine TC.sp rfl (fun c2 => ?_) (fun c2 => ?_)
  ·refine TC.seq (TC.region (TL.callq rfl en_9 rfl (fun w2 hp => uawake_calls w2 (tabs_at hp m1)) (TL.opP rfl (op_assign rfl) (TL.nil (TQ.then (TC.ret (TQ.then_ret ?_)))))))
   refine ret1 rfl rfl (fun w' hp => ?_)
   exact ⟨rfl, hp.kp⟩
  ·obtain ⟨hs6, hl1, hdo0⟩ := hb2 (by simpa using c1)
   have hv : valid s = true := by simpa using c2
   have hdo : ∀ j, j < l.length → DoOk (l.getD j default) := fun j hj => by have := hdo0 (j + 1) (by rw [List.length_cons]; omega); simpa using this
   have hel : e.length ≤ 100 := (hdo0 0 (by rw [List.length_cons]; omega)).1
   have hsme : Sm e := ⟨he.small, by omega⟩
   have hrd := rcount_dec s
   have hdl := dec_len s
   refine TC.skip (TQ.then (TC.seq (TC.region (TL.opP rfl (op_move rfl) ?_))))
   refine TL.opX rfl (OpX.callX en_10 rfl (ubegun_x s (by omega) (by omega))) ?_; rintro _ _ ⟨g3, rfl, rfl⟩
   rw [rcount_dec]
   refine TL.opP rfl (op_assign rfl) (TL.nil (TQ.then (TC.seq (TC.seq (TC.region (TL.opP rfl (op_move rfl) (TL.opV rfl (op_lenV rfl un_sl_sealskinlaw17_Do rfl rd5) (TL.opP rfl (op_move rfl) (TL.nil (TQ.then (TC.block ?_)))))))))))
   refine TC.loop (ι := Nat × ByteArray × HS × Value × Value × List PE × List PE) (fun (i, s', h, bv, av, pb, pa) => [(0, .string s'), (2, v), (7, .pointer (some ⟨g3, 0, none⟩)), (36, vl), (37, .int .i64 (l.length : Int)), (38, .int .i64 (i : Int))]) (fun (i, s', h, bv, av, pb, pa) => [.blk g3 (.cells [bv, av, .int .i64 h.n, .bool true].toArray 66 (0, 0)), pileR bv pb, pileR av pa, tabs, .rd vl 3 l.length (encs l), col 3 (dcol l), .rd v 3 e.length (encs e)]) (fun (i, s', h, bv, av, pb, pa) => HG 1048576 h s' ∧ hsOf pb pa h.n = h ∧ ((dec s').length : Int) + dsum (l.drop i) + bsum e ≤ 1048576 ∧ i ≤ l.length) (fun (i, s', h, bv, av, pb, pa) => l.length - i) ((0, s, hs0 s, .slice none 0 0, .slice none 0 0, [], [])) (⟨HG.start hv (by omega), rfl, by rw [List.drop_zero]; omega, Nat.zero_le _⟩) ⟨rfl, rfl, rfl, rfl, rfl, rfl, trivial⟩ (fun _ h => h.drop3) ?_
   rintro ⟨i, s', h, bv, av, pb, pa⟩ ⟨hG, he2, hrm, hi⟩
   have he := he2
   obtain ⟨hrb, hra, _, rlb, rla⟩ := hs_eq he
   have hbl := hG.bl
   have hal := hG.al
   have hz := hG.size
   have hGn := hG.n
   have hGl := hG.nle
   show TC _ _ _ _ [(0, .string s'), (2, v), (7, .pointer (some ⟨g3, 0, none⟩)), (36, vl), (37, .int .i64 (l.length : Int)), (38, .int .i64 (i : Int))] _ _ ([.blk g3 (.cells [bv, av, .int .i64 h.n, .bool true].toArray 66 (0, 0)), pileR bv pb, pileR av pa, tabs, .rd vl 3 l.length (encs l), col 3 (dcol l), .rd v 3 e.length (encs e)])
   refine TC.seq (TC.region (TL.opP rfl (op_lss rfl rfl) (TL.nil (TQ.then (TC.seq ?_)))))
   refine TC.sp rfl (fun c3 => ?_) (fun c3 => ?_)
   ·have hkl0 : i < l.length := by omega
    obtain ⟨d, hdk⟩ : ∃ d, l.getD i default = d := ⟨_, rfl⟩
    have hdm : d ∈ l := by rw [← hdk, List.getD_eq_getElem?_getD, List.getElem?_eq_getElem hkl0]; exact List.getElem_mem hkl0
    have hme := dcol_mem hdm
    have hE := hr d hdm
    obtain ⟨hd1, hd2⟩ := hdo i hkl0
    rw [hdk] at hd1
    have hsmd : Sm d.e := ⟨hE.small, by omega⟩
    have hdr := dsum_drop hkl0 hdk
    refine TC.skip (TQ.then (TC.seq (TC.block (TC.seq (TC.region (TL.opV rfl (op_index tsl_sealskinlaw17_Do rfl rd4 rfl (by omega) (by omega)) (TL.opV rfl (op_loadRS tst_sealskinlaw17_Do rfl rd4 (cs := [.int .i64 d.op, .int .i64 d.n, d.v]) rfl (lkS hkl0 hdk) (by decide)) ?_)))))))
    refine TL.opX rfl (OpX.alloc tz_sealskinlaw17_Do rfl) ?_; rintro _ _ ⟨g9, rfl, rfl⟩
    refine TL.opX0 (OpX.storeS tst_sealskinlaw17_Do rfl rfl rfl rfl rfl (by first | exact List.all_eq_true.1 rfl | exact do_one)) ?_; rintro _ _ rfl
    refine TL.nil (TQ.then (TC.seq (TC.region (TL.opP rfl (op_field fld_sealskinlaw17_Do_E rfl) (TL.opV rfl (op_load ts_sl_api_Part rfl m0 rfl) (TL.opP rfl (op_move rfl) (TL.callq rfl en_11 rfl (fun w2 hp => apply_calls d.e s' d.v (by omega) w2 (tabs_at hp m4) hE.small ((Rdb.col (x := (d.v, d.e.length, encs d.e)) m6 hme) _ _ _ hp)) (TL.opP rfl (op_move rfl) (TL.opP rfl (op_extract rfl rfl) (TL.opP rfl (op_extract rfl rfl) (TL.opP rfl (op_assign rfl) (TL.opP rfl (op_assign rfl) (TL.nil (TQ.then (TC.seq (TC.region (TL.opP rfl (op_move rfl) (TL.opP rfl (op_eql rfl rfl) (TL.nil (TQ.then ?_))))))))))))))))))))
    refine TC.sp rfl (fun c4 => ?_) (fun c4 => ?_)
    ·obtain ⟨r1, r2, r3⟩ := app_room (B := 1048576) c4 (by omega)
     obtain ⟨_, oe, hn⟩ := applyE_z c4
     have hbb := bes_of hG oe (by rw [hn, hG.n]) r1
     refine TC.seq (TC.seq (TC.region (TL.opP rfl (op_field fld_sealskinlaw17_Do_Op rfl) (TL.opV rfl (op_load ts_int rfl m0 rfl) (TL.opP rfl (op_and rfl rfl) (TL.opP rfl (op_eql rfl rfl) (TL.nil (TQ.then ?_))))))))
     refine TC.sp rfl (fun c5 => ?_) (fun c5 => ?_)
     ·refine TC.region (TL.opP rfl (op_move rfl) (TL.opP rfl (op_field fld_sealskinlaw17_Do_E rfl) (TL.opV rfl (op_load ts_sl_api_Part rfl m0 rfl) (TL.opP rfl (op_move rfl) (TL.hp (fun _ h => h.pick3.pick3.pick3) ?_)))))
      refine TL.opX rfl (OpX.callX en_12 rfl (hmine_x (d.e) (s') _ _ _ _ _ _ _ hsmd (by omega) (by first | omega | simp) m1 (Rdb.col (x := (d.v, d.e.length, encs d.e)) m3 hme))) ?_; rintro _ _ ⟨bv4, av4, hn4, pb4, pa4, rfl, hh4, rfl⟩
      rw [he] at hh4
      rw [he]
      obtain ⟨_, m2, _⟩ := hG.mine c4 r1 (Int.le_refl _)
      have q1 := (hs_eq hh4).2.2.1
      subst q1
      refine TL.nil (TQ.then (TC.region (TL.opP rfl (op_move rfl) (TL.opP rfl (op_assign rfl) (TL.nil (TQ.block_normal (TQ.then (TC.region (TL.opP rfl (op_add rfl rfl rfl (by omega) (by omega)) (TL.opP rfl (op_move rfl) (TL.nil ?_)))))))))))
      exact TQ.round (i + 1, applyF d.e s', h.mine d.e s', bv4, av4, pb4, pa4) (by (try dsimp only); exact ⟨m2, hh4, by omega, by omega⟩) (by show l.length - (i + 1) < l.length - i; omega) ⟨rfl, rfl, rfl, rfl, rfl, rfl, trivial⟩ (fun _ h => h.drop3)
     ·refine TC.region (TL.opP rfl (op_move rfl) (TL.opP rfl (op_field fld_sealskinlaw17_Do_E rfl) (TL.opV rfl (op_load ts_sl_api_Part rfl m0 rfl) (TL.hp (fun _ h => h.pick3.pick3.pick3) ?_))))
      refine TL.opX rfl (OpX.callX en_13 rfl (htheirs_x d.e _ _ _ _ _ _ _ hsmd (by omega) (by omega) (fun _ => by rw [hrb]; exact hbb.1) (fun _ => by rw [hra]; exact hbb.2) m1 (Rdb.col (x := (d.v, d.e.length, encs d.e)) m3 hme))) ?_; rintro _ _ ⟨bv5, av5, hn5, pb5, pa5, rfl, hh5, rfl⟩
      rw [he] at hh5
      rw [he]
      obtain ⟨_, m2, _⟩ := hG.theirs c4 r1 (by decide) (by decide)
      have q1 := (hs_eq hh5).2.2.1
      subst q1
      refine TL.nil (TQ.then (TC.region (TL.opP rfl (op_move rfl) (TL.opP rfl (op_assign rfl) (TL.nil (TQ.block_normal (TQ.then (TC.region (TL.opP rfl (op_add rfl rfl rfl (by omega) (by omega)) (TL.opP rfl (op_move rfl) (TL.nil ?_)))))))))))
      exact TQ.round (i + 1, applyF d.e s', h.theirs d.e, bv5, av5, pb5, pa5) (by (try dsimp only); exact ⟨m2, hh5, by omega, by omega⟩) (by show l.length - (i + 1) < l.length - i; omega) ⟨rfl, rfl, rfl, rfl, rfl, rfl, trivial⟩ (fun _ h => h.drop3)
    ·refine TC.skip (TQ.block_normal (TQ.then (TC.region (TL.opP rfl (op_add rfl rfl rfl (by omega) (by omega)) (TL.opP rfl (op_move rfl) (TL.nil ?_))))))
     exact TQ.round (i + 1, s', h, bv, av, pb, pa) (by (try dsimp only); exact ⟨hG, he2, by omega, by omega⟩) (by show l.length - (i + 1) < l.length - i; omega) ⟨rfl, rfl, rfl, rfl, rfl, rfl, trivial⟩ (fun _ h => h.tail)
   ·refine TC.exit (TQ.then_exit (TQ.loop_exit (TQ.block_hit (TQ.then (TC.seq (TC.region (TL.opP rfl (op_move rfl) (TL.opP rfl (op_move rfl) (TL.callq rfl en_11 rfl (fun w2 hp => apply_calls e s' v (by omega) w2 (tabs_at hp m3) hsme.1 (rd6 _ _ _ hp)) (TL.opP rfl (op_move rfl) (TL.opP rfl (op_extract rfl rfl) (TL.opP rfl (op_extract rfl rfl) (TL.opP rfl (op_assign rfl) (TL.opP rfl (op_assign rfl) (TL.nil (TQ.then (TC.seq (TC.seq (TC.region (TL.opP rfl (op_move rfl) (TL.opP rfl (op_neq rfl rfl) (TL.nil (TQ.then ?_)))))))))))))))))))))))
    refine TC.sp rfl (fun c6 => ?_) (fun c6 => ?_)
    ·refine TC.seq (TC.region (TL.opP rfl (op_move rfl) (TL.opP rfl (op_move rfl) (TL.opP rfl (op_move rfl) ?_))))
     refine TL.opX rfl (OpX.callX en_12 rfl (hmine_x (e) (s') _ _ _ _ _ _ _ hsme (by omega) (by first | omega | simp) m0 rd3)) ?_; rintro _ _ ⟨bv6, av6, hn6, pb6, pa6, rfl, hh6, rfl⟩
     rw [he]
     refine TL.opP rfl (op_eql rfl rfl) (TL.opP rfl (op_move rfl) ?_)
     refine TL.sp (fun c7 => ?_) (fun c7 => ?_)
     ·refine TL.gT rfl rfl (TL.callq rfl en_9 rfl (fun w2 hp => uawake_calls w2 (tabs_at hp m3)) (TL.opP rfl (op_pickT rfl rfl) (TL.opP rfl (op_assign rfl) (TL.nil (TQ.then (TC.ret (TQ.then_ret ?_)))))))
      refine ret1 rfl rfl (fun w' hp => ?_)
      exact ⟨rfl, hp.kp⟩
     ·exact absurd (mine_30 hG c6) c7
    ·have z := Classical.not_not.1 c6
     obtain ⟨r1, r2, r3⟩ := app_room (B := 1048576) z (by omega)
     have K := bk_law hG z r1
     have hzt := app_any (e := e) (s := s')
     refine TC.skip (TQ.then (TC.seq (TC.seq (TC.region (TL.opP rfl (op_move rfl) (TL.opP rfl (op_move rfl) (TL.opP rfl (op_move rfl) ?_)))))))
     refine TL.opX rfl (OpX.callX en_12 rfl (hmine_x (e) (s') _ _ _ _ _ _ _ hsme (by omega) (by first | omega | simp) m0 rd3)) ?_; rintro _ _ ⟨bv7, av7, hn7, pb7, pa7, rfl, hh7, rfl⟩
     rw [he] at hh7
     rw [he]
     have E1 : hsOf pb7 pa7 hn7 = (h.mine e s') := hh7
     obtain ⟨bE1, aE1, qE1, lbE1, laE1⟩ := hs_eq E1
     subst qE1
     have ybE1 := (K.g1).bl
     have yaE1 := (K.g1).al
     refine TL.opP rfl (op_neq rfl rfl) (TL.nil (TQ.then ?_))
     refine TC.sp rfl (fun c8 => ?_) (fun c8 => ?_)
     ·exact absurd K.m c8
     ·refine TC.skip (TQ.then (TC.seq (TC.region (TL.opP rfl (op_move rfl) (TL.opP rfl (op_move rfl) ?_)))))
      refine TL.opX rfl (OpX.callX en_14 rfl (hundo_x (applyF e s') _ _ _ _ _ _ (sm_sn (by rw [bE1]; exact K.g1.smb)) (by omega) (by first | omega | simp) (by first | omega | simp) m0)) ?_; rintro _ _ ⟨bv8, av8, hn8, pb8, pa8, ve8, rfl, hh8, rfl⟩
      rw [E1] at hh8
      rw [E1, K.uF]
      have E2 : hsOf pb8 pa8 hn8 = ((h.mine e s').undo (applyF e s')) := hh8
      obtain ⟨bE2, aE2, qE2, lbE2, laE2⟩ := hs_eq E2
      subst qE2
      have ybE2 := (K.g2).bl
      have yaE2 := (K.g2).al
      refine TL.opP rfl (op_move rfl) (TL.opP rfl (op_extract rfl rfl) (TL.opP rfl (op_extract rfl rfl) (TL.opP rfl (op_assign rfl) (TL.opP rfl (op_assign rfl) (TL.nil (TQ.then (TC.seq (TC.region (TL.opP rfl (op_move rfl) (TL.opP rfl (op_move rfl) (TL.hp (fun _ h => h.pick3.pick3.pick3) ?_)))))))))))
      refine TL.opX rfl (OpX.callX en_15 rfl (hredo_x s' _ _ _ _ _ _ (sm_sn (by rw [aE2]; exact K.g2.sma)) (by omega) (by first | omega | simp) (by first | omega | simp) m1)) ?_; rintro _ _ ⟨bv9, av9, hn9, pb9, pa9, ve9, rfl, hh9, rfl⟩
      rw [E2] at hh9
      rw [E2, K.rF]
      have E3 : hsOf pb9 pa9 hn9 = (((h.mine e s').undo (applyF e s')).redo s') := hh9
      obtain ⟨bE3, aE3, qE3, lbE3, laE3⟩ := hs_eq E3
      subst qE3
      have ybE3 := (K.g3).bl
      have yaE3 := (K.g3).al
      refine TL.opP rfl (op_move rfl) (TL.opP rfl (op_extract rfl rfl) (TL.opP rfl (op_extract rfl rfl) (TL.opP rfl (op_assign rfl) (TL.opP rfl (op_assign rfl) (TL.nil (TQ.then (TC.seq (TC.region (TL.opP rfl (op_move rfl) (TL.opP rfl (op_move rfl) (TL.hp (fun _ h => h.pick3.pick3.pick3) ?_)))))))))))
      refine TL.opX rfl (OpX.callX en_14 rfl (hundo_x (applyF e s') _ _ _ _ _ _ (sm_sn (by rw [bE3]; exact K.g3.smb)) (by omega) (by first | omega | simp) (by first | omega | simp) m2)) ?_; rintro _ _ ⟨bv10, av10, hn10, pb10, pa10, ve10, rfl, hh10, rfl⟩
      rw [E3, K.vF]
      refine TL.opP rfl (op_move rfl) (TL.opP rfl (op_extract rfl rfl) (TL.opP rfl (op_extract rfl rfl) (TL.opP rfl (op_assign rfl) (TL.opP rfl (op_assign rfl) (TL.nil (TQ.then (TC.seq (TC.region (TL.opP rfl (op_move rfl) (TL.opP rfl (op_eql rfl rfl) (TL.opP rfl (op_move rfl) ?_)))))))))))
      refine TL.sp (fun c9 => ?_) (fun c9 => ?_)
      ·refine TL.gT rfl rfl (TL.opP rfl (op_move rfl) (TL.gT rfl rfl (TL.opP rfl (op_move rfl) (TL.gT rfl rfl (TL.callq rfl en_16 rfl (fun w2 hp => uapplied_at _ w2 (tabs_at hp m6) (by omega) K.us.1 K.ua (rw5 _ _ _ hp)) (TL.gT rfl rfl (TL.opP rfl (op_move rfl) (TL.gT rfl rfl (TL.opP rfl (op_seql rfl rfl) (TL.opP rfl (op_pickT rfl rfl) (TL.opP rfl (op_move rfl) ?_)))))))))))
       refine TL.sp (fun c10 => ?_) (fun c10 => ?_)
       ·refine TL.gT rfl rfl (TL.opP rfl (op_move rfl) (TL.gT rfl rfl (TL.opP rfl (op_eql rfl rfl) (TL.opP rfl (op_pickT rfl rfl) (TL.opP rfl (op_move rfl) ?_)))))
        refine TL.sp (fun c11 => ?_) (fun c11 => ?_)
        ·refine TL.gT rfl rfl (TL.opP rfl (op_move rfl) (TL.gT rfl rfl (TL.opP rfl (op_move rfl) (TL.gT rfl rfl (TL.callq rfl en_16 rfl (fun w2 hp => uapplied_at _ w2 (tabs_at hp m6) (by omega) hsme.1 rfl (rw4 _ _ _ hp)) (TL.gT rfl rfl (TL.opP rfl (op_move rfl) (TL.gT rfl rfl (TL.opP rfl (op_seql rfl rfl) (TL.opP rfl (op_pickT rfl rfl) (TL.opP rfl (op_move rfl) ?_)))))))))))
         refine TL.sp (fun c12 => ?_) (fun c12 => ?_)
         ·refine TL.gT rfl rfl (TL.opP rfl (op_move rfl) (TL.gT rfl rfl (TL.opP rfl (op_eql rfl rfl) (TL.opP rfl (op_pickT rfl rfl) (TL.opP rfl (op_move rfl) ?_)))))
          refine TL.sp (fun c13 => ?_) (fun c13 => ?_)
          ·refine TL.gT rfl rfl (TL.opP rfl (op_move rfl) (TL.gT rfl rfl (TL.opP rfl (op_move rfl) (TL.gT rfl rfl (TL.callq rfl en_17 rfl (fun w2 hp => rsame_calls (invF e s') (invF e s') _ _ w2 (rw5 _ _ _ hp) (rw0 _ _ _ hp)) (TL.opP rfl (op_pickT rfl rfl) (TL.opP rfl (op_move rfl) ?_)))))))
           refine TL.sp (fun c14 => ?_) (fun c14 => ?_)
           ·refine TL.gT rfl rfl (TL.callq rfl en_9 rfl (fun w2 hp => uawake_calls w2 (tabs_at hp m6)) (TL.opP rfl (op_pickT rfl rfl) (TL.opP rfl (op_assign rfl) (TL.nil (TQ.then (TC.ret ?_))))))
            refine ret1 rfl rfl (fun w' hp => ?_)
            exact ⟨rfl, hp.kp⟩
           ·exact absurd rfl c14
          ·exact absurd K.v c13
         ·exact absurd rfl c12
        ·exact absurd K.r c11
       ·exact absurd rfl c10
      ·exact absurd K.u c9

end Go.SK
