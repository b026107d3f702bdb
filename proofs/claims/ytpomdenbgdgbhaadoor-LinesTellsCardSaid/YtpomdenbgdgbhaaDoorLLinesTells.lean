/- The law LinesTells answers true. -/
import Derived.Test.YtpomdenbgdgbhaaDoorE57
set_option linter.unusedVariables false
set_option linter.unusedSimpArgs false
set_option maxRecDepth 100000
namespace Go.SK
open Go Go.RowKit Go.Proofs
variable {S : Nat → Prop} {w0 : World} {F L : List Res}
theorem linesTellsB (s : ByteArray) (k c n : Int) {w : World} (hv : valid s = false) (hs0 : s.size ≤ 140737488351232) (hT : Tabs w) :
    Calls Tryd.prog 6 (List.toArray [.string s, .int .i64 k, .int .i64 c, .int .i64 n]) w fun e' w' => e' = .returned (.bool true) ∧ Kp NoB w w' := by
 refine calls_start Tryd.func6 rfl rfl rfl (Hp.i1 (r := tabs) hT) ?_
 refine TC.seq ?_
 refine TC.region ?_
 refine TL.opP rfl (op_assign rfl) ?_
 refine TL.nil ?_
 refine TQ.then ?_
 refine TC.seq ?_
 refine TC.seq ?_
 refine TC.region ?_
 refine TL.opP rfl (op_move rfl) ?_
 refine TL.opX rfl (OpX.buildSlice (ps := #[(0, _)]) rfl (bs_string_1 _)) ?_; rintro _ _ ⟨g26, rfl, rfl⟩
 refine TL.hp (fun _ h => blk_row (k := 1) (m := 1) h rfl (by decide)) ?_
 refine TL.opX rfl (OpX.callX en_17 rfl (long_x [s] _ rw0)) ?_; rintro _ _ ⟨b1, rfl, hb1, rfl⟩
 refine TL.nil ?_
 refine TQ.then ?_
 first | refine TC.condD rfl (fun c1 => ?_) (fun c1 => ?_) | refine TC.condB rfl (fun c1 => ?_) (fun c1 => ?_)
 ·refine TC.seq ?_
  refine TC.region ?_
  refine TL.callq rfl en_19 rfl (fun w2 hp => lawake_calls w2 (tabs_at hp m1)) ?_
  refine TL.opP rfl (op_assign rfl) ?_
  refine TL.nil ?_
  refine TQ.then ?_
  refine TC.ret ?_
  refine TQ.then_ret ?_
  refine ret1 rfl rfl (fun w' hp => ?_)
  exact ⟨rfl, hp.kp⟩
 ·have hzs : s.size ≤ 2048 := hb1 c1 s (by simp)
  have hds := dec_len s
  refine TC.skip ?_
  refine TQ.then ?_
  refine TC.seq ?_
  refine TC.region ?_
  refine TL.opP rfl (op_move rfl) ?_
  refine TL.opX rfl (OpX.callX en_33 rfl (lnewb_x s hv (by omega) m1)) ?_; rintro _ _ ⟨rfl, rfl⟩
  refine TL.opP rfl (op_move rfl) ?_
  refine TL.opP rfl (op_extract rfl rfl) ?_
  refine TL.opP rfl (op_extract rfl rfl) ?_
  refine TL.opP rfl (op_assign rfl) ?_
  refine TL.opP rfl (op_assign rfl) ?_
  refine TL.nil ?_
  refine TQ.then ?_
  refine TC.seq ?_
  refine TC.region ?_
  refine TL.opP rfl (op_move rfl) ?_
  refine TL.opX rfl (OpX.callX en_20 rfl (ynewb_x s hv (by omega))) ?_; rintro _ _ ⟨rfl, rfl⟩
  refine TL.opP rfl (op_move rfl) ?_
  refine TL.opP rfl (op_extract rfl rfl) ?_
  refine TL.opP rfl (op_extract rfl rfl) ?_
  refine TL.opP rfl (op_assign rfl) ?_
  refine TL.opP rfl (op_assign rfl) ?_
  refine TL.nil ?_
  refine TQ.then ?_
  refine TC.seq ?_
  refine TC.seq ?_
  refine TC.region ?_
  refine TL.opP rfl (op_move rfl) ?_
  refine TL.opP rfl (op_move rfl) ?_
  refine TL.opP rfl (op_neq rfl rfl) ?_
  refine TL.opP rfl (op_move rfl) ?_
  first | refine TL.splitD (fun c2 => ?_) (fun c2 => ?_) | refine TL.splitB (fun c2 => ?_) (fun c2 => ?_)
  ·exact absurd rfl c2
  ·refine TL.gT rfl rfl ?_
   refine TL.opP rfl (op_move rfl) ?_
   refine TL.gT rfl rfl ?_
   refine TL.opP rfl (op_eqPtr rfl (lidx_eqo _)) ?_
   refine TL.gT rfl rfl ?_
   refine TL.opP rfl (op_move rfl) ?_
   refine TL.gT rfl rfl ?_
   refine TL.opP rfl (op_eqPtr rfl (yidx_eqo _)) ?_
   refine TL.gT rfl rfl ?_
   refine TL.opP rfl (op_bneq un_bool rfl rfl) ?_
   refine TL.opP rfl (op_pickF rfl rfl) ?_
   refine TL.nil ?_
   refine TQ.then ?_
   first | refine TC.condD rfl (fun c3 => ?_) (fun c3 => ?_) | refine TC.condB rfl (fun c3 => ?_) (fun c3 => ?_)
   ·exact absurd rfl c3
   ·refine TC.skip ?_
    refine TQ.then ?_
    refine TC.seq ?_
    refine TC.seq ?_
    refine TC.region ?_
    refine TL.opP rfl (op_move rfl) ?_
    refine TL.opP rfl (op_eqPtr rfl (yidx_eqo _)) ?_
    refine TL.nil ?_
    refine TQ.then ?_
    first | refine TC.condD rfl (fun c4 => ?_) (fun c4 => ?_) | refine TC.condB rfl (fun c4 => ?_) (fun c4 => ?_)
    ·refine TC.seq ?_
     refine TC.region ?_
     refine TL.callq rfl en_19 rfl (fun w2 hp => lawake_calls w2 (tabs_at hp m1)) ?_
     refine TL.opP rfl (op_assign rfl) ?_
     refine TL.nil ?_
     refine TQ.then ?_
     refine TC.ret ?_
     refine TQ.then_ret ?_
     refine ret1 rfl rfl (fun w' hp => ?_)
     exact ⟨rfl, hp.kp⟩
    ·exact absurd rfl c4

theorem linesTellsV (s : ByteArray) (k c n : Int) {w : World} (hv : valid s = true) (hs0 : s.size ≤ 140737488351232) (hT : Tabs w) :
    Calls Tryd.prog 6 (List.toArray [.string s, .int .i64 k, .int .i64 c, .int .i64 n]) w fun e' w' => e' = .returned (.bool true) ∧ Kp NoB w w' := by
 refine calls_start Tryd.func6 rfl rfl rfl (Hp.i1 (r := tabs) hT) ?_
 refine TC.seq ?_
 refine TC.region ?_
 refine TL.opP rfl (op_assign rfl) ?_
 refine TL.nil ?_
 refine TQ.then ?_
 refine TC.seq ?_
 refine TC.seq ?_
 refine TC.region ?_
 refine TL.opP rfl (op_move rfl) ?_
 refine TL.opX rfl (OpX.buildSlice (ps := #[(0, _)]) rfl (bs_string_1 _)) ?_; rintro _ _ ⟨g26, rfl, rfl⟩
 refine TL.hp (fun _ h => blk_row (k := 1) (m := 1) h rfl (by decide)) ?_
 refine TL.opX rfl (OpX.callX en_17 rfl (long_x [s] _ rw0)) ?_; rintro _ _ ⟨b1, rfl, hb1, rfl⟩
 refine TL.nil ?_
 refine TQ.then ?_
 first | refine TC.condD rfl (fun c1 => ?_) (fun c1 => ?_) | refine TC.condB rfl (fun c1 => ?_) (fun c1 => ?_)
 ·refine TC.seq ?_
  refine TC.region ?_
  refine TL.callq rfl en_19 rfl (fun w2 hp => lawake_calls w2 (tabs_at hp m1)) ?_
  refine TL.opP rfl (op_assign rfl) ?_
  refine TL.nil ?_
  refine TQ.then ?_
  refine TC.ret ?_
  refine TQ.then_ret ?_
  refine ret1 rfl rfl (fun w' hp => ?_)
  exact ⟨rfl, hp.kp⟩
 ·have hzs : s.size ≤ 2048 := hb1 c1 s (by simp)
  have hds := dec_len s
  refine TC.skip ?_
  refine TQ.then ?_
  refine TC.seq ?_
  refine TC.region ?_
  refine TL.opP rfl (op_move rfl) ?_
  refine TL.opX rfl (OpX.callX en_33 rfl (lnew_x s hv (by omega) m1)) ?_; rintro _ _ ⟨g2, tv2, bv2, rfl, rfl⟩
  refine TL.opP rfl (op_move rfl) ?_
  refine TL.opP rfl (op_extract rfl rfl) ?_
  refine TL.opP rfl (op_extract rfl rfl) ?_
  refine TL.opP rfl (op_assign rfl) ?_
  refine TL.opP rfl (op_assign rfl) ?_
  refine TL.nil ?_
  refine TQ.then ?_
  refine TC.seq ?_
  refine TC.region ?_
  refine TL.opP rfl (op_move rfl) ?_
  refine TL.opX rfl (OpX.callX en_20 rfl (ynew_x s hv (by omega))) ?_; rintro _ _ ⟨yg3, lv3, rfl, rfl⟩
  refine TL.opP rfl (op_move rfl) ?_
  refine TL.opP rfl (op_extract rfl rfl) ?_
  refine TL.opP rfl (op_extract rfl rfl) ?_
  refine TL.opP rfl (op_assign rfl) ?_
  refine TL.opP rfl (op_assign rfl) ?_
  refine TL.nil ?_
  refine TQ.then ?_
  refine TC.seq ?_
  refine TC.seq ?_
  refine TC.region ?_
  refine TL.opP rfl (op_move rfl) ?_
  refine TL.opP rfl (op_move rfl) ?_
  refine TL.opP rfl (op_neq rfl rfl) ?_
  refine TL.opP rfl (op_move rfl) ?_
  first | refine TL.splitD (fun c2 => ?_) (fun c2 => ?_) | refine TL.splitB (fun c2 => ?_) (fun c2 => ?_)
  ·exact absurd rfl c2
  ·refine TL.gT rfl rfl ?_
   refine TL.opP rfl (op_move rfl) ?_
   refine TL.gT rfl rfl ?_
   refine TL.opP rfl (op_eqPtr rfl (lidx_eqo _)) ?_
   refine TL.gT rfl rfl ?_
   refine TL.opP rfl (op_move rfl) ?_
   refine TL.gT rfl rfl ?_
   refine TL.opP rfl (op_eqPtr rfl (yidx_eqo _)) ?_
   refine TL.gT rfl rfl ?_
   refine TL.opP rfl (op_bneq un_bool rfl rfl) ?_
   refine TL.opP rfl (op_pickF rfl rfl) ?_
   refine TL.nil ?_
   refine TQ.then ?_
   first | refine TC.condD rfl (fun c3 => ?_) (fun c3 => ?_) | refine TC.condB rfl (fun c3 => ?_) (fun c3 => ?_)
   ·exact absurd c3 (by simp)
   ·refine TC.skip ?_
    refine TQ.then ?_
    refine TC.seq ?_
    refine TC.seq ?_
    refine TC.region ?_
    refine TL.opP rfl (op_move rfl) ?_
    refine TL.opP rfl (op_eqPtr rfl (yidx_eqo _)) ?_
    refine TL.nil ?_
    refine TQ.then ?_
    first | refine TC.condD rfl (fun c4 => ?_) (fun c4 => ?_) | refine TC.condB rfl (fun c4 => ?_) (fun c4 => ?_)
    ·exact absurd c4 (by simp)
    ·refine TC.skip ?_
     refine TQ.then ?_
     refine TC.seq ?_
     refine TC.region ?_
     refine TL.opP rfl (op_move rfl) ?_
     refine TL.opP rfl (op_move rfl) ?_
     refine TL.hp (fun _ h => h.pick2) ?_
     refine TL.opX rfl (OpX.callX en_31 rfl (lline_x (dec s) _ _ _ rd2 rd3 k)) ?_; rintro _ _ ⟨rfl, rfl⟩
     refine TL.opP rfl (op_move rfl) ?_
     refine TL.opP rfl (op_extract rfl rfl) ?_
     refine TL.opP rfl (op_extract rfl rfl) ?_
     refine TL.opP rfl (op_assign rfl) ?_
     refine TL.opP rfl (op_assign rfl) ?_
     refine TL.nil ?_
     refine TQ.then ?_
     refine TC.seq ?_
     refine TC.region ?_
     refine TL.opP rfl (op_move rfl) ?_
     refine TL.opP rfl (op_move rfl) ?_
     refine TL.hp (fun _ h => h.pick1) ?_
     refine TL.opX rfl (OpX.callX en_34 rfl (yline_x (dec s) _ _ rd1 k (by omega) (dec_scalar hv))) ?_; rintro _ _ ⟨rfl, rfl⟩
     refine TL.opP rfl (op_move rfl) ?_
     refine TL.opP rfl (op_extract rfl rfl) ?_
     refine TL.opP rfl (op_extract rfl rfl) ?_
     refine TL.opP rfl (op_assign rfl) ?_
     refine TL.opP rfl (op_assign rfl) ?_
     refine TL.nil ?_
     refine TQ.then ?_
     refine TC.seq ?_
     refine TC.region ?_
     refine TL.opP rfl (op_move rfl) ?_
     refine TL.opP rfl (op_move rfl) ?_
     refine TL.opP rfl (op_move rfl) ?_
     refine TL.hp (fun _ h => h.pick1) ?_
     refine TL.opX rfl (OpX.callX en_30 rfl (lat_x (dec s) _ _ _ rd2 rd3 k c)) ?_; rintro _ _ ⟨rfl, rfl⟩
     refine TL.opP rfl (op_move rfl) ?_
     refine TL.opP rfl (op_extract rfl rfl) ?_
     refine TL.opP rfl (op_extract rfl rfl) ?_
     refine TL.opP rfl (op_assign rfl) ?_
     refine TL.opP rfl (op_assign rfl) ?_
     refine TL.nil ?_
     refine TQ.then ?_
     refine TC.seq ?_
     refine TC.region ?_
     refine TL.opP rfl (op_move rfl) ?_
     refine TL.opP rfl (op_move rfl) ?_
     refine TL.opP rfl (op_move rfl) ?_
     refine TL.hp (fun _ h => h.pick1) ?_
     refine TL.opX rfl (OpX.callX en_35 rfl (yat_x (dec s) _ _ rd1 k c (by omega))) ?_; rintro _ _ ⟨rfl, rfl⟩
     refine TL.opP rfl (op_move rfl) ?_
     refine TL.opP rfl (op_extract rfl rfl) ?_
     refine TL.opP rfl (op_extract rfl rfl) ?_
     refine TL.opP rfl (op_assign rfl) ?_
     refine TL.opP rfl (op_assign rfl) ?_
     refine TL.nil ?_
     refine TQ.then ?_
     refine TC.seq ?_
     refine TC.region ?_
     refine TL.opP rfl (op_move rfl) ?_
     refine TL.opP rfl (op_move rfl) ?_
     refine TL.hp (fun _ h => h.pick1) ?_
     refine TL.opX rfl (OpX.callX en_29 rfl (lwhere_x (dec s) _ _ _ rd2 rd3 n (by omega))) ?_; rintro _ _ ⟨rfl, rfl⟩
     refine TL.opP rfl (op_move rfl) ?_
     refine TL.opP rfl (op_extract rfl rfl) ?_
     refine TL.opP rfl (op_extract rfl rfl) ?_
     refine TL.opP rfl (op_extract rfl rfl) ?_
     refine TL.opP rfl (op_assign rfl) ?_
     refine TL.opP rfl (op_assign rfl) ?_
     refine TL.opP rfl (op_assign rfl) ?_
     refine TL.nil ?_
     refine TQ.then ?_
     refine TC.seq ?_
     refine TC.region ?_
     refine TL.opP rfl (op_move rfl) ?_
     refine TL.opP rfl (op_move rfl) ?_
     refine TL.hp (fun _ h => h.pick1) ?_
     refine TL.opX rfl (OpX.callX en_36 rfl (ywhere_x (dec s) _ _ rd1 n (by omega))) ?_; rintro _ _ ⟨rfl, rfl⟩
     refine TL.opP rfl (op_move rfl) ?_
     refine TL.opP rfl (op_extract rfl rfl) ?_
     refine TL.opP rfl (op_extract rfl rfl) ?_
     refine TL.opP rfl (op_extract rfl rfl) ?_
     refine TL.opP rfl (op_assign rfl) ?_
     refine TL.opP rfl (op_assign rfl) ?_
     refine TL.opP rfl (op_assign rfl) ?_
     refine TL.nil ?_
     refine TQ.then ?_
     refine TC.seq ?_
     refine TC.draw [] (.cons (.p, 0) (.cons (.p, 1) (.cons (.p, 2) (.cons (.p, 3) (.cons (.p, 4) (.cons (.p, 5) (.cons (.p, 6) (.cons (.p, 7) (.cons (.p, 8) (.cons (.p, 9) (.cons (.p, 10) (.cons (.p, 11) (.cons (.p, 12) (.cons (.p, 13) (.cons (.p, 14) (.cons (.p, 15) (.cons (.p, 16) (.cons (.p, 17) (.cons (.p, 18) (.cons (.p, 19) (.cons (.p, 20) (.cons (.p, 21) (.cons (.p, 22) (.cons (.p, 23) (.cons (.p, 24) (.cons (.p, 25) (.cons (.p, 26) (.cons (.p, 27) (.cons (.p, 28) (.cons (.p, 29) (.cons (.p, 30) (.cons (.p, 31) (.cons (.p, 32) (.cons (.p, 33) (.cons (.p, 34) (.cons (.p, 36) (.cons (.o, 35) (.cons (.o, 37) (.cons (.o, 38) (.cons (.p, 39) (.cons (.p, 40) (.cons (.p, 41) (.cons (.p, 42) (.cons (.p, 44) (.cons (.p, 45) (.cons (.p, 46) (.cons (.t, 47) (.cons (.t, 48) (.cons (.o, 43) (.cons (.p, 49) (.cons (.p, 50) (.cons (.p, 51) (.cons (.t, 52) (.cons (.p, 53) (.cons (.p, 54) (.nil)))))))))))))))))))))))))))))))))))))))))))))))))))))))) mo (by kernel_rfl) ?_
     refine TR.p rfl rfl wt0 (op_move rfl) ?_
     refine TR.p rfl rfl wt0 (op_move rfl) ?_
     refine TR.p rfl rfl wt0 (op_seql rfl rfl) ?_
     refine TR.p rfl rfl wt0 (op_move rfl) ?_
     first | refine TR.splitD (fun c5 => ?_) (fun c5 => ?_) | refine TR.splitB (fun c5 => ?_) (fun c5 => ?_)
     ·refine TR.p rfl rfl (by exact wtT rfl rfl) (op_move rfl) ?_
      refine TR.p rfl rfl (by exact wtT rfl rfl) (op_move rfl) ?_
      refine TR.p rfl rfl (by exact wtT rfl rfl) (op_eql rfl rfl) ?_
      refine TR.p rfl rfl wt0 (op_pickT rfl rfl) ?_
      refine TR.p rfl rfl wt0 (op_move rfl) ?_
      first | refine TR.splitD (fun c6 => ?_) (fun c6 => ?_) | refine TR.splitB (fun c6 => ?_) (fun c6 => ?_)
      ·refine TR.p rfl rfl (by exact wtT rfl rfl) (op_move rfl) ?_
       refine TR.p rfl rfl (by exact wtT rfl rfl) (op_move rfl) ?_
       refine TR.p rfl rfl (by exact wtT rfl rfl) (op_eql rfl rfl) ?_
       refine TR.p rfl rfl wt0 (op_pickT rfl rfl) ?_
       refine TR.p rfl rfl wt0 (op_move rfl) ?_
       first | refine TR.splitD (fun c7 => ?_) (fun c7 => ?_) | refine TR.splitB (fun c7 => ?_) (fun c7 => ?_)
       ·refine TR.p rfl rfl (by exact wtT rfl rfl) (op_move rfl) ?_
        refine TR.p rfl rfl (by exact wtT rfl rfl) (op_move rfl) ?_
        refine TR.p rfl rfl (by exact wtT rfl rfl) (op_eql rfl rfl) ?_
        refine TR.p rfl rfl wt0 (op_pickT rfl rfl) ?_
        refine TR.p rfl rfl wt0 (op_move rfl) ?_
        first | refine TR.splitD (fun c8 => ?_) (fun c8 => ?_) | refine TR.splitB (fun c8 => ?_) (fun c8 => ?_)
        ·refine TR.p rfl rfl (by exact wtT rfl rfl) (op_move rfl) ?_
         refine TR.p rfl rfl (by exact wtT rfl rfl) (op_move rfl) ?_
         refine TR.p rfl rfl (by exact wtT rfl rfl) (op_eql rfl rfl) ?_
         refine TR.p rfl rfl wt0 (op_pickT rfl rfl) ?_
         refine TR.p rfl rfl wt0 (op_move rfl) ?_
         first | refine TR.splitD (fun c9 => ?_) (fun c9 => ?_) | refine TR.splitB (fun c9 => ?_) (fun c9 => ?_)
         ·refine TR.p rfl rfl (by exact wtT rfl rfl) (op_move rfl) ?_
          refine TR.p rfl rfl (by exact wtT rfl rfl) (op_move rfl) ?_
          refine TR.p rfl rfl (by exact wtT rfl rfl) (op_eql rfl rfl) ?_
          refine TR.p rfl rfl wt0 (op_pickT rfl rfl) ?_
          refine TR.p rfl rfl wt0 (op_move rfl) ?_
          first | refine TR.splitD (fun c10 => ?_) (fun c10 => ?_) | refine TR.splitB (fun c10 => ?_) (fun c10 => ?_)
          ·refine TR.p rfl rfl (by exact wtT rfl rfl) (op_move rfl) ?_
           refine TR.p rfl rfl (by exact wtT rfl rfl) (op_move rfl) ?_
           refine TR.p rfl rfl (by exact wtT rfl rfl) (op_eql rfl rfl) ?_
           refine TR.p rfl rfl wt0 (op_pickT rfl rfl) ?_
           refine TR.p rfl rfl wt0 (op_move rfl) ?_
           first | refine TR.splitD (fun c11 => ?_) (fun c11 => ?_) | refine TR.splitB (fun c11 => ?_) (fun c11 => ?_)
           ·refine TR.p rfl rfl (by exact wtT rfl rfl) (op_move rfl) ?_
            refine TR.p rfl rfl (by exact wtT rfl rfl) (op_move rfl) ?_
            refine TR.hp (fun _ h => h.pick1) ?_
            refine TR.o rfl rfl (by exact wtT rfl rfl) (OpX.callX en_37 rfl (llen_x (dec s) _ _ _ rd2 rd3)) (by rintro _ _ ⟨rfl, rfl⟩; intro w h; exact h.pick6.pick6.pick6.pick6.pick6.pick5.pick6) ?_; rintro _ _ ⟨rfl, rfl⟩
            refine TR.hp (fun _ h => h.pick1) ?_
            refine TR.o rfl rfl (by exact wtT rfl rfl) (OpX.callX en_38 rfl (ybegins_x (dec s) _ _ rd1 (by omega))) (by rintro w11 _ ⟨_, rfl, rfl⟩; intro w h; exact h.tail) ?_; rintro w11 _ ⟨_, rfl, rfl⟩
            refine TR.o rfl rfl (by exact wtT rfl rfl) (OpX.ofV (op_lenV rfl un_sl_int rfl rw0)) (by rintro _ _ ⟨rfl, rfl⟩; intro w h; exact h.tail) ?_; rintro _ _ ⟨rfl, rfl⟩
            refine TR.p rfl rfl (by exact wtT rfl rfl) (op_eql rfl rfl) ?_
            refine TR.p rfl rfl wt0 (op_pickT rfl rfl) ?_
            refine TR.p rfl rfl wt0 (op_move rfl) ?_
            first | refine TR.splitD (fun c12 => ?_) (fun c12 => ?_) | refine TR.splitB (fun c12 => ?_) (fun c12 => ?_)
            ·refine TR.p rfl rfl (by exact wtT rfl rfl) (op_move rfl) ?_
             refine TR.p rfl rfl (by exact wtT rfl rfl) (op_move rfl) ?_
             refine TR.p rfl rfl (by exact wtT rfl rfl) (op_nilCheck rfl) ?_
             refine TR.p rfl rfl (by exact wtT rfl rfl) (op_field fld_sealskinref11_Index_L rfl) ?_
             refine TR.t rfl rfl (by exact wtT rfl rfl) (op_load ts_sl_int32 rfl m0 rfl) (fun _ h => h.tail) ?_
             refine TR.t rfl rfl (by exact wtT rfl rfl) (op_lenV rfl un_sl_int32 rfl rd2) (fun _ h => h.tail) ?_
             refine TR.hp (fun _ h => h.pick2) ?_
             refine TR.o rfl rfl (by exact wtT rfl rfl) (OpX.callX en_28 rfl (lsize_x (dec s) _ _ _ rd3 rd4)) (by rintro _ _ ⟨rfl, rfl⟩; intro w h; exact h.drop1.pick6.pick6.pick6.pick6.pick6.pick5.pick6) ?_; rintro _ _ ⟨rfl, rfl⟩
             refine TR.p rfl rfl (by exact wtT rfl rfl) (op_eql rfl rfl) ?_
             refine TR.p rfl rfl wt0 (op_pickT rfl rfl) ?_
             refine TR.p rfl rfl wt0 (op_move rfl) ?_
             first | refine TR.splitD (fun c13 => ?_) (fun c13 => ?_) | refine TR.splitB (fun c13 => ?_) (fun c13 => ?_)
             ·refine TR.tcall rfl rfl (by exact wtT rfl rfl) en_19 rfl (fun w2 hp => lawake_calls w2 (tabs_at hp m6)) (fun _ h => h.drop1.pick6.pick6.pick6.pick6.pick6.pick5.pick6) ?_
              refine TR.p rfl rfl wt0 (op_pickT rfl rfl) ?_
              refine TR.p rfl rfl wt0 (op_assign rfl) ?_
              refine TR.nil ?_
              refine TQ.then ?_
              refine TC.ret ?_
              refine ret1 rfl rfl (fun w' hp => ?_)
              exact ⟨rfl, hp.kp⟩
             ·exact absurd rfl c13
            ·exact absurd rfl c12
           ·exact absurd rfl c11
          ·exact absurd rfl c10
         ·exact absurd rfl c9
        ·exact absurd rfl c8
       ·exact absurd rfl c7
      ·exact absurd rfl c6
     ·exact absurd rfl c5

theorem linesTells_law (s : ByteArray) (k c n : Int) {w : World} (hs0 : s.size ≤ 140737488351232) (hT : Tabs w) :
    Calls Tryd.prog 6 (List.toArray [.string s, .int .i64 k, .int .i64 c, .int .i64 n]) w fun e' w' => e' = .returned (.bool true) ∧ Kp NoB w w' := by
  cases hv : valid s with
  | true => exact linesTellsV s k c n hv hs0 hT
  | false => exact linesTellsB s k c n hv hs0 hT
end Go.SK
