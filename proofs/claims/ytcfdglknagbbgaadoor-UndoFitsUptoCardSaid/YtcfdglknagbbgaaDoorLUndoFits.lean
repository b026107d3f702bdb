/- The law UndoFits answers true where all that comes in is of bulk at most 2^20. -/
import Derived.Test.YtcfdglknagbbgaaDoorE101
set_option linter.unusedVariables false
set_option linter.unusedSimpArgs false
set_option maxRecDepth 100000
namespace Go.SK
open Go Go.RowKit Go.Proofs
variable {S : Nat → Prop} {w0 : World} {F L : List Res}
theorem undoFits_law (s : ByteArray) (l : List DoE) (vl : Value) {w : World} (hss : s.size ≤ 140737488351232) (hl : RdRow w vl 3 l.length (encs l)) (hr : ∀ d ∈ l, EditIn w d.v d.e) (hB : s.size + dsum l + l.length ≤ 1048576) (hT : Tabs w) :
    Calls Tryd.prog 6 (List.toArray [.string s, vl]) w fun e' w' => e' = .returned (.bool true) ∧ Kp NoB w w' := by
 refine calls_start Tryd.func6 rfl rfl rfl (Hp.i3 (r := tabs) (s := .rd vl 3 l.length (encs l)) (t := col 3 (dcol l)) hT hl (dcol_holds hr)) ?_
 refine TC.seq (TC.region (TL.opP rfl (op_assign rfl) (TL.nil (TQ.then (TC.seq (TC.seq (TC.region (TL.opP rfl (op_move rfl) (TL.opP rfl (op_move rfl) ?_)))))))))
 refine TL.opX rfl (OpX.callX en_7 rfl (ushort2_x s l _ (by omega) rd1 (fun d hd => Rdb.col (x := (d.v, d.e.length, encs d.e)) m2 (dcol_mem hd)))) ?_; rintro _ _ ⟨b1, rfl, hb1, rfl⟩
 refine TL.opP rfl (op_not rfl rfl) (TL.opP rfl (op_move rfl) ?_)
 refine TL.sp (fun c1 => ?_) (fun c1 => ?_)
 ·refine TL.gFt rfl rfl rfl (TL.gFt rfl rfl rfl (TL.gFt rfl rfl rfl (TL.opP rfl (op_pickT rfl rfl) (TL.nil (TQ.then (TC.condT rfl (TC.seq (TC.region (TL.callq rfl en_9 rfl (fun w2 hp => uawake_calls w2 (tabs_at hp m0)) (TL.opP rfl (op_assign rfl) (TL.nil (TQ.then (TC.ret (TQ.then_ret ?_))))))))))))))
  refine ret1 rfl rfl (fun w' hp => ?_)
  exact ⟨rfl, hp.kp⟩
 ·refine TL.gT rfl rfl (TL.opP rfl (op_move rfl) (TL.gT rfl rfl (TL.callq rfl en_8 rfl (fun w2 hp => valid_calls s w2 (tabs_at hp m0) (by omega)) (TL.gT rfl rfl (TL.opP rfl (op_not rfl rfl) (TL.opP rfl (op_pickF rfl rfl) (TL.nil (TQ.then ?_))))))))
  refine TC.sp rfl (fun c2 => ?_) (fun c2 => ?_)
  ·refine TC.seq (TC.region (TL.callq rfl en_9 rfl (fun w2 hp => uawake_calls w2 (tabs_at hp m0)) (TL.opP rfl (op_assign rfl) (TL.nil (TQ.then (TC.ret (TQ.then_ret ?_)))))))
   refine ret1 rfl rfl (fun w' hp => ?_)
   exact ⟨rfl, hp.kp⟩
  ·obtain ⟨⟨hs6, hl1, hdo⟩, hms⟩ := hb1 (by simpa using c1)
   have hv : valid s = true := by simpa using c2
   have hrd := rcount_dec s
   have hdl := dec_len s
   refine TC.skip (TQ.then (TC.seq (TC.region (TL.opP rfl (op_move rfl) ?_))))
   refine TL.opX rfl (OpX.callX en_10 rfl (ubegun_x s (by omega) (by omega))) ?_; rintro _ _ ⟨g2, rfl, rfl⟩
   rw [rcount_dec]
   refine TL.opP rfl (op_assign rfl) (TL.nil (TQ.then (TC.seq (TC.seq (TC.region (TL.opP rfl (op_move rfl) (TL.opV rfl (op_lenV rfl un_sl_sealskinlaw17_Do rfl rd4) (TL.opP rfl (op_move rfl) (TL.nil (TQ.then (TC.block ?_)))))))))))
   refine TC.loop (ι := Nat × Nat × ByteArray × HS × Value × Value × List PE × List PE) (fun (i, m, s', h, bv, av, pb, pa) => [(0, .string s'), (5, .pointer (some ⟨g2, 0, none⟩)), (26, vl), (27, .int .i64 (l.length : Int)), (28, .int .i64 (i : Int))]) (fun (i, m, s', h, bv, av, pb, pa) => [.blk g2 (.cells [bv, av, .int .i64 h.n, .bool true].toArray 66 (0, 0)), pileR bv pb, pileR av pa, tabs, .rd vl 3 l.length (encs l), col 3 (dcol l)]) (fun (i, m, s', h, bv, av, pb, pa) => FI h s' m ∧ hsOf pb pa h.n = h ∧ m + mdsum (l.drop i) ≤ 600 ∧ dsum (l.drop i) ≤ 1048576 ∧ i ≤ l.length) (fun (i, m, s', h, bv, av, pb, pa) => l.length - i) ((0, s.size, s, hs0 s, .slice none 0 0, .slice none 0 0, [], [])) (⟨FI.start hv hs6, rfl, by rw [List.drop_zero]; exact hms, by rw [List.drop_zero]; omega, Nat.zero_le _⟩) ⟨rfl, rfl, rfl, rfl, rfl, trivial⟩ (fun _ h => h) ?_
   rintro ⟨i, m, s', h, bv, av, pb, pa⟩ ⟨hI, he2, hmm, hdd, hi⟩
   have he := he2
   have hG := hI.g
   obtain ⟨hrb, hra, _, rlb, rla⟩ := hs_eq he
   have hbl := hG.bl
   have hal := hG.al
   have hz := hG.size
   have hGn := hG.n
   have hGl := hG.nle
   show TC _ _ _ _ [(0, .string s'), (5, .pointer (some ⟨g2, 0, none⟩)), (26, vl), (27, .int .i64 (l.length : Int)), (28, .int .i64 (i : Int))] _ _ ([.blk g2 (.cells [bv, av, .int .i64 h.n, .bool true].toArray 66 (0, 0)), pileR bv pb, pileR av pa, tabs, .rd vl 3 l.length (encs l), col 3 (dcol l)])
   refine TC.seq (TC.region (TL.opP rfl (op_lss rfl rfl) (TL.nil (TQ.then (TC.seq ?_)))))
   refine TC.sp rfl (fun c3 => ?_) (fun c3 => ?_)
   ·have hkl0 : i < l.length := by omega
    obtain ⟨d, hdk⟩ : ∃ d, l.getD i default = d := ⟨_, rfl⟩
    have hdm : d ∈ l := by rw [← hdk, List.getD_eq_getElem?_getD, List.getElem?_eq_getElem hkl0]; exact List.getElem_mem hkl0
    have hme := dcol_mem hdm
    have hE := hr d hdm
    obtain ⟨hd1, hd2⟩ := hdo i hkl0
    rw [hdk] at hd1
    have hsmd : Sm d.e := ⟨hE.small, by omega⟩
    have hdr := dsum_drop hkl0 hdk
    have hmdr := mdsum_drop hkl0 hdk
    refine TC.skip (TQ.then (TC.seq (TC.block (TC.seq (TC.region (TL.opV rfl (op_index tsl_sealskinlaw17_Do rfl rd4 rfl (by omega) (by omega)) (TL.opV rfl (op_loadRS tst_sealskinlaw17_Do rfl rd4 (cs := [.int .i64 d.op, .int .i64 d.n, d.v]) rfl (lkS hkl0 hdk) (by decide)) ?_)))))))
    refine TL.opX rfl (OpX.alloc tz_sealskinlaw17_Do rfl) ?_; rintro _ _ ⟨g7, rfl, rfl⟩
    refine TL.opX0 (OpX.storeS tst_sealskinlaw17_Do rfl rfl rfl rfl rfl (by first | exact List.all_eq_true.1 rfl | exact do_one)) ?_; rintro _ _ rfl
    refine TL.nil (TQ.then (TC.seq (TC.region (TL.opP rfl (op_assign rfl) (TL.nil (TQ.then (TC.seq (TC.region (TL.opP rfl (op_assign rfl) (TL.nil (TQ.then ?_)))))))))))
    refine TC.join (ι := HS × Value × Value × List PE × List PE × Value × List Part × Int × Nat) (fun (h2, bv2, av2, pb2, pa2, va, ea, z, m2) => [(0, .string s'), (5, .pointer (some ⟨g2, 0, none⟩)), (8, va), (9, .int .i64 z), (26, vl), (27, .int .i64 (l.length : Int)), (28, .int .i64 (i : Int))]) (fun (h2, bv2, av2, pb2, pa2, va, ea, z, m2) => [.blk g2 (.cells [bv2, av2, .int .i64 h2.n, .bool true].toArray 66 (0, 0)), pileR bv2 pb2, pileR av2 pa2, .rd va 3 ea.length (encs ea), tabs, .rd vl 3 l.length (encs l), col 3 (dcol l)]) (fun (h2, bv2, av2, pb2, pa2, va, ea, z, m2) => hsOf pb2 pa2 h2.n = h2 ∧ small ea ∧ (z ≠ 0 → h2 = h) ∧ (z = 0 → applyE ea s' = 0 ∧ h2.n = (dec (applyF ea s')).length ∧ ((dec (applyF ea s')).length ≤ 600 → FI h2 (applyF ea s') m2)) ∧ m ≤ m2 ∧ m2 + mdsum (l.drop (i + 1)) ≤ 600) ?_ ?_
    ·refine TC.seq (TC.region (TL.opP rfl (op_field fld_sealskinlaw17_Do_Op rfl) (TL.opV rfl (op_load ts_int rfl m0 rfl) (TL.opP rfl (op_int un_uint rfl rfl) (TL.opP rfl (op_rem rfl rfl (u64_pos _) (by decide)) (TL.opP rfl (op_int un_int rfl rfl) (TL.nil (TQ.then (TC.block (TC.seq (TC.region (TL.opP rfl (op_eql rfl rfl) (TL.opP rfl (op_assign rfl) (TL.nil (TQ.then ?_)))))))))))))))
     refine TC.sp rfl (fun c4 => ?_) (fun c4 => ?_)
     ·refine TC.region (TL.opP rfl (op_move rfl) (TL.opP rfl (op_move rfl) (TL.hp (fun _ h => h.pick3.pick3.pick3) ?_)))
      refine TL.opX rfl (OpX.callX en_14 rfl (hundo_x s' _ _ _ _ _ _ (sm_sn (by rw [hrb]; exact hG.smb)) (by omega) (by first | omega | simp) (by first | omega | simp) m1)) ?_; rintro _ _ ⟨bv3, av3, hn3, pb3, pa3, ve3, rfl, hh3, rfl⟩
      rw [he] at hh3
      rw [he]
      have q1 := (hs_eq hh3).2.2.1
      subst q1
      refine TL.hp (fun _ h => row_rd h) (TL.opP rfl (op_move rfl) (TL.opP rfl (op_extract rfl rfl) (TL.opP rfl (op_extract rfl rfl) (TL.opP rfl (op_assign rfl) (TL.opP rfl (op_assign rfl) (TL.nil (TQ.block_normal ?_)))))))
      exact TQ.join (h.undo s', bv3, av3, pb3, pa3, ve3, h.undoF s', h.undoE s', m) (⟨hh3, (moveF_sm hG.smb).1, fun hz => if_neg hz, hI.undo, Nat.le_refl _, by omega⟩) ⟨rfl, rfl, rfl, rfl, rfl, rfl, rfl, trivial⟩ (fun _ h => h.drop4.pick6.pick6.pick6.pick3.pick6.pick6.pick6)
     ·refine TC.seq (TC.region (TL.opP rfl (op_eql rfl rfl) (TL.opP rfl (op_assign rfl) (TL.nil (TQ.then ?_)))))
      refine TC.sp rfl (fun c5 => ?_) (fun c5 => ?_)
      ·refine TC.region (TL.opP rfl (op_move rfl) (TL.opP rfl (op_move rfl) (TL.hp (fun _ h => h.pick3.pick3.pick3) ?_)))
       refine TL.opX rfl (OpX.callX en_15 rfl (hredo_x s' _ _ _ _ _ _ (sm_sn (by rw [hra]; exact hG.sma)) (by omega) (by first | omega | simp) (by first | omega | simp) m1)) ?_; rintro _ _ ⟨bv4, av4, hn4, pb4, pa4, ve4, rfl, hh4, rfl⟩
       rw [he] at hh4
       rw [he]
       have q1 := (hs_eq hh4).2.2.1
       subst q1
       refine TL.hp (fun _ h => row_rd h) (TL.opP rfl (op_move rfl) (TL.opP rfl (op_extract rfl rfl) (TL.opP rfl (op_extract rfl rfl) (TL.opP rfl (op_assign rfl) (TL.opP rfl (op_assign rfl) (TL.nil (TQ.block_normal ?_)))))))
       exact TQ.join (h.redo s', bv4, av4, pb4, pa4, ve4, h.redoF s', h.redoE s', m) (⟨hh4, (moveF_sm hG.sma).1, fun hz => if_neg hz, hI.redo, Nat.le_refl _, by omega⟩) ⟨rfl, rfl, rfl, rfl, rfl, rfl, rfl, trivial⟩ (fun _ h => h.drop4.pick6.pick6.pick6.pick3.pick6.pick6.pick6)
      ·refine TC.seq (TC.region (TL.opP rfl (op_field fld_sealskinlaw17_Do_E rfl) (TL.opV rfl (op_load ts_sl_api_Part rfl m0 rfl) (TL.opP rfl (op_assign rfl) (TL.hp (fun _ h => rd_col (x := (d.v, d.e.length, encs d.e)) m6 hme h) (TL.nil (TQ.then (TC.seq (TC.seq (TC.region (TL.opP rfl (op_move rfl) (TL.opP rfl (op_move rfl) (TL.callq rfl en_11 rfl (fun w2 hp => apply_calls d.e s' d.v (by omega) w2 (tabs_at hp m5) hE.small (rd0 _ _ _ hp)) (TL.opP rfl (op_move rfl) (TL.opP rfl (op_extract rfl rfl) (TL.opP rfl (op_extract rfl rfl) (TL.opP rfl (op_assign rfl) (TL.opP rfl (op_assign rfl) (TL.nil (TQ.then (TC.seq (TC.region (TL.opP rfl (op_move rfl) (TL.opP rfl (op_neq rfl rfl) (TL.nil (TQ.then ?_))))))))))))))))))))))))))
       refine TC.sp rfl (fun c6 => ?_) (fun c6 => ?_)
       ·refine TC.exit (TQ.then_exit (TQ.block_miss rfl (TQ.join_exit (TQ.block_hit (TQ.then (TC.region (TL.opP rfl (op_add rfl rfl rfl (by omega) (by omega)) (TL.opP rfl (op_move rfl) (TL.nil ?_)))))))))
        exact TQ.round (i + 1, m, s', h, bv, av, pb, pa) (by (try dsimp only); exact ⟨hI, he2, by omega, by omega, by omega⟩) (by show l.length - (i + 1) < l.length - i; omega) ⟨rfl, rfl, rfl, rfl, rfl, trivial⟩ (fun _ h => h.drop1.tail)
       ·have z0 := Classical.not_not.1 c6
        have hbs : bsum d.e ≤ 1048576 := by omega
        have ht := hI.room z0 (by omega) hbs
        obtain ⟨_, oe, hn⟩ := applyE_z z0
        have hbb := bes_of hG oe (by rw [hn, hG.n]) ht
        refine TC.skip (TQ.then (TC.seq (TC.seq (TC.region (TL.opP rfl (op_field fld_sealskinlaw17_Do_Op rfl) (TL.opV rfl (op_load ts_int rfl m1 rfl) (TL.opP rfl (op_and rfl rfl) (TL.opP rfl (op_eql rfl rfl) (TL.nil (TQ.then ?_))))))))))
        refine TC.sp rfl (fun c7 => ?_) (fun c7 => ?_)
        ·refine TC.region (TL.opP rfl (op_move rfl) (TL.opP rfl (op_move rfl) (TL.opP rfl (op_move rfl) (TL.hp (fun _ h => h.pick4.pick4.pick4) ?_))))
         refine TL.opX rfl (OpX.callX en_12 rfl (hmine_x (d.e) (s') _ _ _ _ _ _ _ hsmd (by omega) (by first | omega | simp) m2 rd0)) ?_; rintro _ _ ⟨bv5, av5, hn5, pb5, pa5, rfl, hh5, rfl⟩
         rw [he] at hh5
         rw [he]
         obtain ⟨f1, f2, f3⟩ := hI.mine z0 (by omega) hbs
         have q1 := (hs_eq hh5).2.2.1
         subst q1
         refine TL.opP rfl (op_assign rfl) (TL.nil (TQ.then (TC.seq (TC.region (TL.opP rfl (op_move rfl) (TL.opP rfl (op_neq rfl rfl) (TL.nil (TQ.then ?_))))))))
         refine TC.sp rfl (fun c8 => ?_) (fun c8 => ?_)
         ·exact absurd f1 c8
         ·refine TC.skip (TQ.block_normal ?_)
          exact TQ.join (h.mine d.e s', bv5, av5, pb5, pa5, d.v, d.e, h.mineE d.e s', m + msum d.e) (⟨hh5, hE.small, fun hz => absurd f1 hz, fun _ => ⟨z0, f2.n, f3⟩, by omega, by omega⟩) ⟨rfl, rfl, rfl, rfl, rfl, rfl, rfl, trivial⟩ (fun _ h => h.drop4)
        ·refine TC.region (TL.opP rfl (op_move rfl) (TL.opP rfl (op_move rfl) (TL.hp (fun _ h => h.pick4.pick4.pick4) ?_)))
         refine TL.opX rfl (OpX.callX en_13 rfl (htheirs_x d.e _ _ _ _ _ _ _ hsmd (by omega) (by omega) (fun _ => by rw [hrb]; exact hbb.1) (fun _ => by rw [hra]; exact hbb.2) m2 rd0)) ?_; rintro _ _ ⟨bv6, av6, hn6, pb6, pa6, rfl, hh6, rfl⟩
         rw [he] at hh6
         rw [he]
         obtain ⟨f1, f2, f3⟩ := hI.theirs z0 (by omega) hbs
         have q1 := (hs_eq hh6).2.2.1
         subst q1
         refine TL.opP rfl (op_assign rfl) (TL.nil (TQ.then (TC.seq (TC.region (TL.opP rfl (op_move rfl) (TL.opP rfl (op_neq rfl rfl) (TL.nil (TQ.then ?_))))))))
         refine TC.sp rfl (fun c9 => ?_) (fun c9 => ?_)
         ·exact absurd f1 c9
         ·refine TC.skip (TQ.block_normal ?_)
          exact TQ.join (h.theirs d.e, bv6, av6, pb6, pa6, d.v, d.e, h.theirsE d.e, m + msum d.e) (⟨hh6, hE.small, fun hz => absurd f1 hz, fun _ => ⟨z0, f2.n, f3⟩, by omega, by omega⟩) ⟨rfl, rfl, rfl, rfl, rfl, rfl, rfl, trivial⟩ (fun _ h => h.drop4)
    ·rintro ⟨h2, bv2, av2, pb2, pa2, va, ea, z, m2⟩ ⟨he3, hsa, hzn, hz0, hm2, hmm2⟩
     have hae := app_any (e := ea) (s := s')
     show TC _ _ _ _ [(0, .string s'), (5, .pointer (some ⟨g2, 0, none⟩)), (8, va), (9, .int .i64 z), (26, vl), (27, .int .i64 (l.length : Int)), (28, .int .i64 (i : Int))] _ _ ([.blk g2 (.cells [bv2, av2, .int .i64 h2.n, .bool true].toArray 66 (0, 0)), pileR bv2 pb2, pileR av2 pa2, .rd va 3 ea.length (encs ea), tabs, .rd vl 3 l.length (encs l), col 3 (dcol l)])
     refine TC.seq (TC.seq (TC.region (TL.opP rfl (op_move rfl) (TL.opP rfl (op_neq rfl rfl) (TL.nil (TQ.then ?_))))))
     refine TC.sp rfl (fun c10 => ?_) (fun c10 => ?_)
     ·refine TC.exit (TQ.then_exit (TQ.block_hit (TQ.then (TC.region (TL.opP rfl (op_add rfl rfl rfl (by omega) (by omega)) (TL.opP rfl (op_move rfl) (TL.nil ?_)))))))
      exact TQ.round (i + 1, m2, s', h2, bv2, av2, pb2, pa2) (by (try dsimp only); exact ⟨hzn c10 ▸ (hI.more' hm2), he3, by omega, by omega, by omega⟩) (by show l.length - (i + 1) < l.length - i; omega) ⟨rfl, rfl, rfl, rfl, rfl, trivial⟩ (fun _ h => h.drop3)
     ·obtain ⟨w1, w2', w3⟩ := hz0 (Classical.not_not.1 c10)
      refine TC.skip (TQ.then (TC.seq (TC.region (TL.opP rfl (op_move rfl) (TL.opP rfl (op_move rfl) (TL.callq rfl en_11 rfl (fun w2 hp => apply_calls ea s' _ (by omega) w2 (tabs_at hp m4) hsa (rd3 _ _ _ hp)) (TL.opP rfl (op_move rfl) (TL.opP rfl (op_extract rfl rfl) (TL.opP rfl (op_extract rfl rfl) (TL.opP rfl (op_assign rfl) (TL.opP rfl (op_assign rfl) (TL.nil (TQ.then (TC.seq (TC.seq (TC.region (TL.opP rfl (op_move rfl) (TL.opP rfl (op_assign rfl) (TL.nil (TQ.then (TC.seq (TC.region (TL.opP rfl (op_move rfl) (TL.opP rfl (op_neq rfl rfl) (TL.opP rfl (op_move rfl) ?_)))))))))))))))))))))))))
      refine TL.sp (fun c11 => ?_) (fun c11 => ?_)
      ·exact absurd w1 c11
      ·refine TL.gT rfl rfl (TL.opP rfl (op_move rfl) (TL.gT rfl rfl ?_))
       refine TL.opX rfl (OpX.callX en_20 rfl (hsize_x _ _ _ _)) ?_; rintro _ _ ⟨rfl, rfl⟩
       refine TL.gT rfl rfl (TL.opP rfl (op_move rfl) (TL.gT rfl rfl (TL.callq rfl en_21 rfl (fun w2 hp => rcount_calls (applyF ea s') w2 (by omega)) (TL.gT rfl rfl (TL.opP rfl (op_neq rfl rfl) (TL.opP rfl (op_pickF rfl rfl) (TL.nil (TQ.then ?_))))))))
       refine TC.sp rfl (fun c12 => ?_) (fun c12 => ?_)
       ·exact absurd (by rw [w2', rcount_dec]) c12
       ·refine TC.skip (TQ.then (TC.seq (TC.region (TL.opP rfl (op_move rfl) (TL.callq rfl en_21 rfl (fun w2 hp => rcount_calls (applyF ea s') w2 (by omega)) (TL.opP rfl (op_gtr rfl rfl) (TL.nil (TQ.then ?_))))))))
        refine TC.sp rfl (fun c13 => ?_) (fun c13 => ?_)
        ·refine TC.seq (TC.region (TL.callq rfl en_9 rfl (fun w2 hp => uawake_calls w2 (tabs_at hp m4)) (TL.opP rfl (op_assign rfl) (TL.nil (TQ.then (TC.ret (TQ.block_ret (TQ.then_ret (TQ.loop_ret (TQ.block_ret (TQ.then_ret ?_)))))))))))
         refine ret1 rfl rfl (fun w' hp => ?_)
         exact ⟨rfl, hp.kp⟩
        ·have hl6 : (dec (applyF ea s')).length ≤ 600 := by have := rcount_dec (applyF ea s'); omega
         have hI3 := w3 hl6
         refine TC.skip (TQ.block_normal (TQ.then (TC.region (TL.opP rfl (op_add rfl rfl rfl (by omega) (by omega)) (TL.opP rfl (op_move rfl) (TL.nil ?_))))))
         exact TQ.round (i + 1, m2, applyF ea s', h2, bv2, av2, pb2, pa2) (by (try dsimp only); exact ⟨hI3, he3, by omega, by omega, by omega⟩) (by show l.length - (i + 1) < l.length - i; omega) ⟨rfl, rfl, rfl, rfl, rfl, trivial⟩ (fun _ h => h.drop3)
   ·refine TC.exit (TQ.then_exit (TQ.loop_exit (TQ.block_hit (TQ.then (TC.seq (TC.region (TL.callq rfl en_9 rfl (fun w2 hp => uawake_calls w2 (tabs_at hp m3)) (TL.opP rfl (op_assign rfl) (TL.nil (TQ.then (TC.ret ?_)))))))))))
    refine ret1 rfl rfl (fun w' hp => ?_)
    exact ⟨rfl, hp.kp⟩

end Go.SK
