/- The law MatchAll answers true. -/
import Derived.Test.YtpomdenbgdgbhaaDoorE93
set_option linter.unusedVariables false
set_option linter.unusedSimpArgs false
set_option maxRecDepth 100000
namespace Go.SK
open Go Go.RowKit Go.Proofs
variable {S : Nat → Prop} {w0 : World} {F L : List Res}
theorem matchAll_law (p s : ByteArray) {w : World}  (hp0 : p.size ≤ 140737488351232) (hs0 : s.size ≤ 140737488351232) (hT : Tabs w) :
    Calls Tryd.prog 16 (List.toArray [.string p, .string s]) w fun e' w' => e' = .returned (.bool true) ∧ Kp NoB w w' := by
 refine calls_start Tryd.func16 rfl rfl rfl (Hp.i1 (r := tabs) hT) ?_
 refine TC.seq (TC.region (TL.opP rfl (op_assign rfl) (TL.nil (TQ.then (TC.seq (TC.seq (TC.region (TL.opP rfl (op_move rfl) (TL.opP rfl (op_slen rfl un_string rfl) (TL.opP rfl (op_gtr rfl rfl) (TL.opP rfl (op_move rfl) ?_)))))))))))
 refine TL.sp (fun c1 => ?_) (fun c1 => ?_)
 ·refine TL.gFt rfl rfl rfl (TL.gFt rfl rfl rfl (TL.gFt rfl rfl rfl (TL.opP rfl (op_pickT rfl rfl) (TL.nil (TQ.then (TC.condT rfl (TC.seq (TC.region (TL.callq rfl en_47 rfl (fun w2 hp => wawake_calls w2 (tabs_at hp m0)) (TL.opP rfl (op_assign rfl) (TL.nil (TQ.then (TC.ret (TQ.then_ret ?_))))))))))))))
  refine ret1 rfl rfl (fun w' hp => ?_)
  exact ⟨rfl, hp.kp⟩
 ·refine TL.gT rfl rfl (TL.opP rfl (op_move rfl) (TL.gT rfl rfl (TL.opP rfl (op_slen rfl un_string rfl) (TL.gT rfl rfl (TL.opP rfl (op_gtr rfl rfl) (TL.opP rfl (op_pickF rfl rfl) (TL.nil (TQ.then ?_))))))))
  refine TC.sp rfl (fun c2 => ?_) (fun c2 => ?_)
  ·refine TC.seq (TC.region (TL.callq rfl en_47 rfl (fun w2 hp => wawake_calls w2 (tabs_at hp m0)) (TL.opP rfl (op_assign rfl) (TL.nil (TQ.then (TC.ret (TQ.then_ret ?_)))))))
   refine ret1 rfl rfl (fun w' hp => ?_)
   exact ⟨rfl, hp.kp⟩
  ·refine TC.skip (TQ.then (TC.seq (TC.region (TL.opP rfl (op_move rfl) ?_))))
   refine TL.opX rfl (OpX.callX en_48 rfl (wcompiled_x p (by omega) m0)) ?_; rintro _ _ ⟨rz1, vz1, iz1, ez1, rfl, hR1, rfl⟩
   refine TL.opP rfl (op_move rfl) (TL.opP rfl (op_extract rfl rfl) (TL.opP rfl (op_extract rfl rfl) (TL.opP rfl (op_assign rfl) (TL.opP rfl (op_assign rfl) (TL.nil (TQ.then (TC.seq (TC.region (TL.opP rfl (op_move rfl) ?_)))))))))
   refine TL.opX rfl (OpX.callX en_49 rfl (xcompile_x p (by omega))) ?_; rintro _ _ ⟨rx2, vx2, ix2, ex2, rfl, hX2, rfl⟩
   refine TL.opP rfl (op_move rfl) (TL.opP rfl (op_extract rfl rfl) (TL.opP rfl (op_extract rfl rfl) (TL.opP rfl (op_extract rfl rfl) (TL.opP rfl (op_assign rfl) (TL.opP rfl (op_assign rfl) (TL.opP rfl (op_assign rfl) ?_))))))
   obtain ⟨_, hee, _⟩ := cmp_same hR1 hX2
   refine TL.nil (TQ.then (TC.seq (TC.seq (TC.region (TL.opP rfl (op_move rfl) (TL.opP rfl (op_not rfl rfl) (TL.opP rfl (op_move rfl) ?_)))))))
   refine TL.sp (fun c3 => ?_) (fun c3 => ?_)
   ·refine TL.gFt rfl rfl rfl (TL.gFt rfl rfl rfl (TL.opP rfl (op_pickT rfl rfl) (TL.nil (TQ.then (TC.condT rfl (TC.seq (TC.region (TL.opP rfl (op_move rfl) (TL.opP rfl (op_move rfl) (TL.opP rfl (op_eql rfl rfl) (TL.opP rfl (op_beqB un_bool rfl rfl) (TL.opP rfl (op_move rfl) ?_))))))))))))
    refine TL.sp (fun c4 => ?_) (fun c4 => ?_)
    ·refine TL.gT rfl rfl (TL.callq rfl en_47 rfl (fun w2 hp => wawake_calls w2 (tabs_at hp m2)) (TL.opP rfl (op_pickT rfl rfl) (TL.opP rfl (op_assign rfl) (TL.nil (TQ.then (TC.ret (TQ.then_ret ?_)))))))
     refine ret1 rfl rfl (fun w' hp => ?_)
     exact ⟨rfl, hp.kp⟩
    ·exact absurd c4 (by rw [eq_zz hee]; decide)
   ·refine TL.gT rfl rfl (TL.opP rfl (op_move rfl) (TL.gT rfl rfl (TL.opP rfl (op_neq rfl rfl) (TL.opP rfl (op_pickF rfl rfl) (TL.nil (TQ.then ?_))))))
    refine TC.sp rfl (fun c5 => ?_) (fun c5 => ?_)
    ·exact absurd (hee.symm.trans c3) c5
    ·obtain ⟨t, g, hG, hpl, hG2, ⟨pa, lv, ms, rfl, hpat, hstp, hpgm, hmok⟩, ⟨xa, xl, xm, rfl, xpat, xstp, xpgm, xmok⟩⟩ := cmp_both hR1 hX2 c3
     refine TC.skip (TQ.then (TC.seq (TC.region (TL.opP rfl (op_move rfl) (TL.opP rfl (op_move rfl) (TL.hp (fun _ h => h.pick1) ?_))))))
     refine TL.opX rfl (OpX.callX en_57 rfl (mall_x (progF t) g rz1 ms lv pa hG hpgm hmok hpat hstp hpl hG2 m1 s (by omega))) ?_; rintro _ _ ⟨rsA3, av3, am3, rfl, hsA3, hal3, hok3, hao3, rfl⟩
     refine TL.opP rfl (op_move rfl) (TL.opP rfl (op_extract rfl rfl) (TL.opP rfl (op_extract rfl rfl) (TL.opP rfl (op_assign rfl) (TL.opP rfl (op_assign rfl) (TL.nil (TQ.then (TC.seq (TC.region (TL.opP rfl (op_move rfl) (TL.opP rfl (op_move rfl) (TL.hp (fun _ h => h.pick2) ?_)))))))))))
     refine TL.opX rfl (OpX.callX en_58 rfl (xall_x (progF t) g rx2 xm xl xa hG xpgm xmok xpat xstp hpl hG2 s (by omega))) ?_; rintro _ _ ⟨rsB4, bv4, bm4, rfl, hsB4, hbl4, hbk4, hbo4, rfl⟩
     refine TL.opP rfl (op_move rfl) (TL.opP rfl (op_extract rfl rfl) (TL.opP rfl (op_extract rfl rfl) (TL.opP rfl (op_assign rfl) (TL.opP rfl (op_assign rfl) (TL.nil (TQ.then (TC.seq (TC.seq (TC.region (TL.opP rfl (op_move rfl) (TL.opP rfl (op_move rfl) (TL.opP rfl (op_neq rfl rfl) (TL.opP rfl (op_move rfl) ?_)))))))))))))
     refine TL.sp (fun c6 => ?_) (fun c6 => ?_)
     ·exact absurd rfl c6
     ·refine TL.gT rfl rfl (TL.opP rfl (op_move rfl) (TL.gT rfl rfl (TL.opP rfl (op_move rfl) (TL.gT rfl rfl ?_))))
      refine TL.opX rfl (OpX.callX en_59 rfl (weqf_x am3 bm4 _ _ rw2 rw0 (fun x hx => rdb_fz m3 (hok3 x hx).2) (fun x hx => rdb_fz m1 (hbk4 x hx).2) (hal3.trans hbl4.symm))) ?_; rintro _ _ ⟨rfl, rfl⟩
      refine TL.gT rfl rfl (TL.opP rfl (op_not rfl rfl) (TL.opP rfl (op_pickF rfl rfl) (TL.nil (TQ.then ?_))))
      refine TC.sp rfl (fun c7 => ?_) (fun c7 => ?_)
      ·exact absurd c7 (by decide)
      ·refine TC.skip (TQ.then (TC.seq (TC.region (TL.opP rfl (op_assign rfl) (TL.nil (TQ.then (TC.seq (TC.seq (TC.region (TL.opP rfl (op_move rfl) (TL.opV rfl (op_lenV rfl un_sl_sl_int rfl rw2) (TL.opP rfl (op_move rfl) (TL.nil (TQ.then (TC.block (TC.loop (ι := Nat × Nat) (fun (k, last) => [(1, .string s), (10, av3), (13, nv last), (70, av3), (71, .int .i64 (am3.length : Int)), (72, .int .i64 (k : Int))]) (fun (k, last) => [.row av3 29 1 (am3).length ((am3).map Prod.snd), fz rsA3, tabs]) (fun (k, last) => k ≤ am3.length ∧ Ris (txF s).length g last ((allR (progF t) g s).drop k)) (fun (k, last) => am3.length - k) ((0, 0)) (⟨Nat.zero_le _, allR_ris hG⟩) ⟨rfl, rfl, rfl, rfl, rfl, rfl, trivial⟩ (fun _ h => h.drop1.tail) ?_))))))))))))))))
       rintro ⟨k, last⟩ ⟨hk, hR0⟩
       have htd := (txF_dec (s := s)).1
       have hdl := dec_len s
       have haml : am3.length ≤ (txF s).length + 1 := by have h := congrArg List.length hal3; rw [List.length_map] at h; rw [h]; exact allR_len
       show TC _ _ _ _ [(1, .string s), (10, av3), (13, nv last), (70, av3), (71, .int .i64 (am3.length : Int)), (72, .int .i64 (k : Int))] _ _ ([.row av3 29 1 (am3).length ((am3).map Prod.snd), fz rsA3, tabs])
       refine TC.seq (TC.region (TL.opP rfl (op_lss rfl rfl) (TL.nil (TQ.then (TC.seq ?_)))))
       refine TC.sp rfl (fun c8 => ?_) (fun c8 => ?_)
       ·obtain ⟨x, hx⟩ : ∃ x, am3.getD k ([], nilS) = x := ⟨_, rfl⟩
        obtain ⟨hd1, hd2⟩ := drop_AM (am := am3) (k := k) (by omega)
        rw [hx] at hd1 hd2
        rw [hal3] at hd1
        have hrd := (hok3 x hd2).2
        rw [hd1] at hR0
        obtain ⟨i, j, g1, g2, g3, gl, g4, g5, hR⟩ : ∃ i j : Nat, last ≤ i ∧ i ≤ j ∧ j ≤ (txF s).length ∧ x.1.length = 2 * g + 2 ∧ x.1.getD 0 0 = i ∧ x.1.getD 1 0 = j ∧ Ris (txF s).length g j ((allR (progF t) g s).drop (k + 1)) := by
          cases hR0 with
          | cons _ i j _ _ q1 q2 q3 q4 q5 q6 q7 q8 => exact ⟨i, j, q1, q2, q3, q4, q5, q6, q8⟩
        refine TC.skip (TQ.then (TC.seq (TC.block (TC.seq (TC.region (TL.opV rfl (op_index tsl_sl_int rfl rw0 rfl (by omega) (by omega)) (TL.opV rfl (op_loadR ts_sl_int rfl rw0 (lkM (f := Prod.snd) (i := k) (d := ([], nilS)) (by omega) hx (by omega))) (TL.opP rfl (op_assign rfl) (TL.nil (TQ.then (TC.seq (TC.seq (TC.draw [] (.cons (.p, 0) (.cons (.p, 3) (.cons (.t, 1) (.cons (.t, 2) (.cons (.p, 4) (.cons (.p, 5) (.cons (.p, 6) (.cons (.p, 9) (.cons (.t, 7) (.cons (.t, 8) (.cons (.t, 10) (.cons (.t, 11) (.cons (.p, 12) (.cons (.p, 13) (.cons (.p, 14) (.cons (.p, 15) (.cons (.p, 18) (.cons (.t, 16) (.cons (.t, 17) (.cons (.t, 19) (.cons (.p, 20) (.cons (.p, 21) (.nil))))))))))))))))))))))) mo (by kernel_rfl) ?_)))))))))))))
        refine TR.p rfl rfl wt0 (op_move rfl) (TR.p rfl rfl wt0 (op_move rfl) (TR.t rfl rfl wt0 (op_index tsl_int rfl (rdb_fz m1 hrd) rfl (by omega) (by omega)) (fun _ h => h) (TR.t rfl rfl wt0 (op_loadR ts_int rfl (rdb_fz m1 hrd) (lkM (f := Value.int .i64) (i := 0) (d := 0) (by omega) g4 (by omega))) (fun _ h => h) (TR.p rfl rfl wt0 (op_lss rfl rfl) (TR.p rfl rfl wt0 (op_move rfl) ?_)))))
        refine TR.sp (fun c9 => ?_) (fun c9 => ?_)
        ·omega
        ·refine TR.p rfl rfl (by exact wtT rfl rfl) (op_move rfl) (TR.p rfl rfl (by exact wtT rfl rfl) (op_move rfl) (TR.t rfl rfl (by exact wtT rfl rfl) (op_index tsl_int rfl (rdb_fz m1 hrd) rfl (by omega) (by omega)) (fun _ h => h) (TR.t rfl rfl (by exact wtT rfl rfl) (op_loadR ts_int rfl (rdb_fz m1 hrd) (lkM (f := Value.int .i64) (i := 1) (d := 0) (by omega) g5 (by omega))) (fun _ h => h) (TR.t rfl rfl (by exact wtT rfl rfl) (op_index tsl_int rfl (rdb_fz m1 hrd) rfl (by omega) (by omega)) (fun _ h => h) (TR.t rfl rfl (by exact wtT rfl rfl) (op_loadR ts_int rfl (rdb_fz m1 hrd) (lkM (f := Value.int .i64) (i := 0) (d := 0) (by omega) g4 (by omega))) (fun _ h => h) (TR.p rfl rfl (by exact wtT rfl rfl) (op_lss rfl rfl) ?_))))))
         refine TR.p rfl rfl wt0 (op_pickF rfl rfl) (TR.p rfl rfl wt0 (op_move rfl) ?_)
         refine TR.sp (fun c10 => ?_) (fun c10 => ?_)
         ·omega
         ·refine TR.p rfl rfl (by exact wtT rfl rfl) (op_move rfl) (TR.p rfl rfl (by exact wtT rfl rfl) (op_move rfl) (TR.t rfl rfl (by exact wtT rfl rfl) (op_index tsl_int rfl (rdb_fz m1 hrd) rfl (by omega) (by omega)) (fun _ h => h) (TR.t rfl rfl (by exact wtT rfl rfl) (op_loadR ts_int rfl (rdb_fz m1 hrd) (lkM (f := Value.int .i64) (i := 1) (d := 0) (by omega) g5 (by omega))) (fun _ h => h) (TR.tcall rfl rfl (by exact wtT rfl rfl) en_32 rfl (fun w2 hp => rcount_calls s w2 (by omega)) (fun _ h => h) ?_))))
          rw [rcount_dec]
          refine TR.p rfl rfl (by exact wtT rfl rfl) (op_gtr rfl rfl) (TR.p rfl rfl wt0 (op_pickF rfl rfl) (TR.nil (TQ.then ?_)))
          refine TC.sp rfl (fun c11 => ?_) (fun c11 => ?_)
          ·omega
          ·refine TC.skip (TQ.then (TC.region (TL.opP rfl (op_move rfl) (TL.opV rfl (op_index tsl_int rfl (rdb_fz m1 hrd) rfl (by omega) (by omega)) (TL.opV rfl (op_loadR ts_int rfl (rdb_fz m1 hrd) (lkM (f := Value.int .i64) (i := 1) (d := 0) (by omega) g5 (by omega))) (TL.opP rfl (op_assign rfl) (TL.nil (TQ.block_normal (TQ.then (TC.region (TL.opP rfl (op_add rfl rfl rfl (by omega) (by omega)) (TL.opP rfl (op_move rfl) (TL.nil ?_)))))))))))))
           exact TQ.round (k + 1, j) (by (try dsimp only); exact ⟨by omega, hR⟩) (by show am3.length - (k + 1) < am3.length - k; omega) ⟨rfl, rfl, rfl, rfl, rfl, rfl, trivial⟩ (fun _ h => h)
       ·refine TC.exit (TQ.then_exit (TQ.loop_exit (TQ.block_hit (TQ.then (TC.seq (TC.region (TL.callq rfl en_47 rfl (fun w2 hp => wawake_calls w2 (tabs_at hp m2)) (TL.opP rfl (op_assign rfl) (TL.nil (TQ.then (TC.ret ?_)))))))))))
        refine ret1 rfl rfl (fun w' hp => ?_)
        exact ⟨rfl, hp.kp⟩

end Go.SK
