/- Walks: layer 12, the examples walked. -/
import Derived.Test.YtpomdenbgdgbhaaDoorE74
set_option linter.unusedVariables false
set_option linter.unusedSimpArgs false
set_option maxRecDepth 100000
namespace Go.SK
open Go Go.RowKit Go.Proofs
variable {S : Nat → Prop} {w0 : World} {F L : List Res}
theorem wawake_calls (w : World) (hT : Tabs w) :
    Calls Tryd.prog 47 (List.toArray []) w fun e w' => e = .returned (.bool true) ∧ Kp NoB w w' := by
 refine calls_start Tryd.func47 rfl rfl rfl (Hp.i1 (r := tabs) hT) ?_
 refine TC.seq (TC.region (TL.as rfl rfl (TL.nil (TQ.then (TC.seq (TC.region ?_))))))
 refine TL.opX rfl (OpX.callX en_48 rfl (wcompiled_x ⟨#[40, 97, 43, 41, 40, 98, 124, 99, 41]⟩ (by decide) m0)) ?_; rintro _ _ ⟨rz1, vz1, iz1, ez1, rfl, hR1, rfl⟩
 obtain ⟨t1, g1, rfl, hm1, hG1, hl1, hq1, a1, lv1, ms1, rfl, hpat1, hstp1, hpgm1, hmok1⟩ := cmp_use hR1 (f := fun t g => (fdE ⟨#[120, 97, 97, 98]⟩ 0, fdF (progF t) g ⟨#[120, 97, 97, 98]⟩ 0)) (d := (99, none)) mw1 (by decide)
 obtain ⟨hm1a, hm1b⟩ := Prod.mk.inj hm1
 refine TL.mv rfl rfl (TL.opP rfl (op_extract rfl rfl) (TL.opP rfl (op_extract rfl rfl) (TL.as rfl rfl (TL.as rfl rfl (TL.nil (TQ.then (TC.seq (TC.region (TL.opP rfl (op_move rfl) ?_)))))))))
 refine TL.opX rfl (OpX.callX en_50 rfl (mfind_x (progF t1) g1 rz1 ms1 lv1 a1 hG1 hpgm1 hmok1 hpat1 hstp1 hl1 hq1 m0 ⟨#[120, 97, 97, 98]⟩ 0 (by decide))) ?_; rintro _ _ ⟨rsA2, fv2, rfl, hsA2, hA2, rfl⟩
 have hfd1 := (hA2.yes _ hm1b).1
 refine TL.mv rfl rfl (TL.opP rfl (op_extract rfl rfl) (TL.opP rfl (op_extract rfl rfl) (TL.as rfl rfl (TL.as rfl rfl (TL.nil (TQ.then (TC.seq (TC.region ?_))))))))
 refine TL.opX rfl (OpX.callX en_48 rfl (wcompiled_x ⟨#[40, 92, 119, 43, 41, 32, 40, 92, 119, 43, 41]⟩ (by decide) m1)) ?_; rintro _ _ ⟨rz3, vz3, iz3, ez3, rfl, hR3, rfl⟩
 obtain ⟨t2, g2, rfl, hm2, hG2, hl2, hq2, a2, lv2, ms2, rfl, hpat2, hstp2, hpgm2, hmok2⟩ := cmp_use hR3 (f := fun t g => (mswE (progF t) g ⟨#[111, 110, 101, 32, 116, 119, 111]⟩ ⟨#[36, 50, 32, 36, 49]⟩, applyF (mswF (progF t) g ⟨#[111, 110, 101, 32, 116, 119, 111]⟩ ⟨#[36, 50, 32, 36, 49]⟩) ⟨#[111, 110, 101, 32, 116, 119, 111]⟩, smB (mswF (progF t) g ⟨#[111, 110, 101, 32, 116, 119, 111]⟩ ⟨#[36, 50, 32, 36, 49]⟩))) (d := (99, ⟨#[]⟩, false)) mw2 (by decide)
 obtain ⟨hm2a, hm2c⟩ := Prod.mk.inj hm2
 obtain ⟨hm2b, hm2c⟩ := Prod.mk.inj hm2c
 refine TL.mv rfl rfl (TL.opP rfl (op_extract rfl rfl) (TL.opP rfl (op_extract rfl rfl) (TL.as rfl rfl (TL.as rfl rfl (TL.nil (TQ.then (TC.seq (TC.region (TL.opP rfl (op_move rfl) ?_)))))))))
 refine TL.opX rfl (OpX.callX en_52 rfl (mswap_x (progF t2) g2 rz3 ms2 lv2 a2 hG2 hpgm2 hmok2 hpat2 hstp2 hl2 hq2 m1 ⟨#[111, 110, 101, 32, 116, 119, 111]⟩ ⟨#[36, 50, 32, 36, 49]⟩ (by decide) (by decide))) ?_; rintro _ _ ⟨rsB4, sw4, rfl, hsB4, rfl⟩
 refine TL.mv rfl rfl (TL.opP rfl (op_extract rfl rfl) (TL.opP rfl (op_extract rfl rfl) (TL.as rfl rfl (TL.as rfl rfl (TL.nil (TQ.then (TC.seq (TC.region ?_))))))))
 refine TL.opX rfl (OpX.callX en_55 rfl (pcompile_x ⟨#[97, 42, 42]⟩ (by decide) m3)) ?_; rintro _ _ ⟨rz5, vz5, iz5, ez5, rfl, hR5, rfl⟩
 obtain ⟨rfl, rfl⟩ := cmp_bad hR5 mw3 (by decide)
 refine TL.mv rfl rfl (TL.opP rfl (op_extract rfl rfl) (TL.opP rfl (op_extract rfl rfl) (TL.opP rfl (op_extract rfl rfl) (TL.as rfl rfl (TL.as rfl rfl (TL.as rfl rfl (TL.nil (TQ.then (TC.seq (TC.region (TL.mv rfl rfl (TL.opP rfl (op_move rfl) ?_))))))))))))
 refine TL.sp (fun c1 => ?_) (fun c1 => ?_)
 ·refine TL.gT rfl rfl (TL.mv rfl rfl (TL.gT rfl rfl (TL.opP rfl (op_eql rfl rfl) (TL.opP rfl (op_pickT rfl rfl) (TL.opP rfl (op_move rfl) ?_)))))
  refine TL.sp (fun c2 => ?_) (fun c2 => ?_)
  ·refine TL.gT rfl rfl (TL.mv rfl rfl (TL.gT rfl rfl ?_))
   refine TL.opX rfl (OpX.buildSlice (ps := #[(0, _), (1, _), (2, _), (3, _), (4, _), (5, _)]) rfl (bs_int_6 1 4 1 3 3 4)) ?_; rintro _ _ ⟨g42, rfl, rfl⟩
   refine TL.hp (fun _ h => blk_row (k := 1) (m := 6) h rfl (by decide)) (TL.gT rfl rfl (TL.callq rfl en_24 rfl (fun w2 hp => weqints_calls [1, 4, 1, 3, 3, 4] [1, 4, 1, 3, 3, 4] _ _ w2 ((rdb_fz m4 hfd1) _ _ _ hp) (rw0 _ _ _ hp)) (TL.opP rfl (op_pickT rfl rfl) (TL.opP rfl (op_move rfl) ?_))))
   refine TL.sp (fun c3 => ?_) (fun c3 => ?_)
   ·refine TL.gT rfl rfl (TL.mv rfl rfl (TL.opP rfl (op_pickT rfl rfl) (TL.opP rfl (op_move rfl) ?_)))
    refine TL.sp (fun c4 => ?_) (fun c4 => ?_)
    ·refine TL.gT rfl rfl (TL.mv rfl rfl (TL.gT rfl rfl (TL.opP rfl (op_eql rfl rfl) (TL.opP rfl (op_pickT rfl rfl) (TL.opP rfl (op_move rfl) ?_)))))
     refine TL.sp (fun c5 => ?_) (fun c5 => ?_)
     ·refine TL.gT rfl rfl (TL.mv rfl rfl (TL.gT rfl rfl (TL.callq rfl en_54 rfl (fun w2 hp => wapplied_calls (mswF (progF t2) g2 ⟨#[111, 110, 101, 32, 116, 119, 111]⟩ ⟨#[36, 50, 32, 36, 49]⟩) ⟨#[111, 110, 101, 32, 116, 119, 111]⟩ _ (by decide) w2 (tabs_at hp m5) (smB_small hm2c) (rw2 _ _ _ hp)) (TL.gT rfl rfl (TL.opP rfl (op_seql rfl rfl) (TL.opP rfl (op_pickT rfl rfl) (TL.opP rfl (op_move rfl) ?_)))))))
      refine TL.sp (fun c6 => ?_) (fun c6 => ?_)
      ·refine TL.gT rfl rfl (TL.mv rfl rfl (TL.gT rfl rfl (TL.opP rfl (op_eql rfl rfl) (TL.opP rfl (op_pickT rfl rfl) (TL.opP rfl (op_move rfl) ?_)))))
       refine TL.sp (fun c7 => ?_) (fun c7 => ?_)
       ·refine TL.gT rfl rfl (TL.mv rfl rfl (TL.gT rfl rfl (TL.opP rfl (op_eql rfl rfl) (TL.opP rfl (op_pickT rfl rfl) (TL.as rfl rfl (TL.nil (TQ.then (TC.ret ?_))))))))
        refine ret1 rfl rfl (fun w' hp => ?_)
        exact ⟨rfl, hp.kp⟩
       ·exact absurd rfl c7
      ·exact absurd hm2b c6
     ·exact absurd hm2a c5
    ·exact absurd rfl c4
   ·exact absurd rfl c3
  ·exact absurd hm1a c2
 ·exact absurd rfl c1

end Go.SK
