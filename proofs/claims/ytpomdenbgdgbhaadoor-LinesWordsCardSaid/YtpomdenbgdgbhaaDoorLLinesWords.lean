/- The law LinesWords answers true. -/
import Derived.Test.YtpomdenbgdgbhaaDoorE57
set_option linter.unusedVariables false
set_option linter.unusedSimpArgs false
set_option maxRecDepth 100000
namespace Go.SK
open Go Go.RowKit Go.Proofs
variable {S : Nat → Prop} {w0 : World} {F L : List Res}
theorem linesWords_law (s : ByteArray) (n : Int) {w : World}  (hs0 : s.size ≤ 140737488351232) (hT : Tabs w) :
    Calls Tryd.prog 7 (List.toArray [.string s, .int .i64 n]) w fun e' w' => e' = .returned (.bool true) ∧ Kp NoB w w' := by
 refine calls_start Tryd.func7 rfl rfl rfl (Hp.i1 (r := tabs) hT) ?_
 refine TC.seq ?_
 refine TC.region ?_
 refine TL.opP rfl (op_assign rfl) ?_
 refine TL.nil ?_
 refine TQ.then ?_
 refine TC.seq ?_
 refine TC.seq ?_
 refine TC.region ?_
 refine TL.opP rfl (op_move rfl) ?_
 refine TL.opX rfl (OpX.buildSlice (ps := #[(0, _)]) rfl (bs_string_1 _)) ?_; rintro _ _ ⟨g14, rfl, rfl⟩
 refine TL.hp (fun _ h => blk_row (k := 1) (m := 1) h rfl (by decide)) ?_
 refine TL.opX rfl (OpX.callX en_17 rfl (long_x [s] _ rw0)) ?_; rintro _ _ ⟨b1, rfl, hb1, rfl⟩
 refine TL.opP rfl (op_move rfl) ?_
 first | refine TL.splitD (fun c1 => ?_) (fun c1 => ?_) | refine TL.splitB (fun c1 => ?_) (fun c1 => ?_)
 ·refine TL.gFt rfl rfl rfl ?_
  refine TL.gFt rfl rfl rfl ?_
  refine TL.gFt rfl rfl rfl ?_
  refine TL.opP rfl (op_pickT rfl rfl) ?_
  refine TL.nil ?_
  refine TQ.then ?_
  refine TC.condT rfl ?_
  refine TC.seq ?_
  refine TC.region ?_
  refine TL.callq rfl en_19 rfl (fun w2 hp => lawake_calls w2 (tabs_at hp m1)) ?_
  refine TL.opP rfl (op_assign rfl) ?_
  refine TL.nil ?_
  refine TQ.then ?_
  refine TC.ret ?_
  refine TQ.then_ret ?_
  refine ret1 rfl rfl (fun w' hp => ?_)
  exact ⟨rfl, hp.kp⟩
 ·have hzs : s.size ≤ 2048 := hb1 c1 s (by simp)
  have hds := dec_len s
  refine TL.gT rfl rfl ?_
  refine TL.opP rfl (op_move rfl) ?_
  refine TL.gT rfl rfl ?_
  refine TL.callq rfl en_18 rfl (fun w2 hp => valid_calls s w2 (tabs_at hp m1) (by omega)) ?_
  refine TL.gT rfl rfl ?_
  refine TL.opP rfl (op_not rfl rfl) ?_
  refine TL.opP rfl (op_pickF rfl rfl) ?_
  refine TL.nil ?_
  refine TQ.then ?_
  first | refine TC.condD rfl (fun c2 => ?_) (fun c2 => ?_) | refine TC.condB rfl (fun c2 => ?_) (fun c2 => ?_)
  ·refine TC.seq ?_
   refine TC.region ?_
   refine TL.callq rfl en_19 rfl (fun w2 hp => lawake_calls w2 (tabs_at hp m1)) ?_
   refine TL.opP rfl (op_assign rfl) ?_
   refine TL.nil ?_
   refine TQ.then ?_
   refine TC.ret ?_
   refine TQ.then_ret ?_
   refine ret1 rfl rfl (fun w' hp => ?_)
   exact ⟨rfl, hp.kp⟩
  ·have hv : valid s = true := by simpa using c2
   refine TC.skip ?_
   refine TQ.then ?_
   refine TC.seq ?_
   refine TC.region ?_
   refine TL.opP rfl (op_move rfl) ?_
   refine TL.opX rfl (OpX.callX en_20 rfl (ynew_x s hv (by omega))) ?_; rintro _ _ ⟨yg2, lv2, rfl, rfl⟩
   refine TL.opP rfl (op_move rfl) ?_
   refine TL.opP rfl (op_extract rfl rfl) ?_
   refine TL.opP rfl (op_extract rfl rfl) ?_
   refine TL.opP rfl (op_assign rfl) ?_
   refine TL.opP rfl (op_assign rfl) ?_
   refine TL.nil ?_
   refine TQ.then ?_
   refine TC.seq ?_
   refine TC.region ?_
   refine TL.opP rfl (op_move rfl) ?_
   refine TL.opX rfl (OpX.callX en_21 rfl (lindex_x s hv (by omega) m3)) ?_; rintro _ _ ⟨g3, tv3, bv3, rfl, rfl⟩
   refine TL.opP rfl (op_move rfl) ?_
   refine TL.opX rfl (OpX.callX en_39 rfl (lword_x (dec s) _ _ _ rd0 rd1 n (by omega))) ?_; rintro _ _ ⟨rfl, rfl⟩
   refine TL.opP rfl (op_move rfl) ?_
   refine TL.opP rfl (op_extract rfl rfl) ?_
   refine TL.opP rfl (op_extract rfl rfl) ?_
   refine TL.opP rfl (op_extract rfl rfl) ?_
   refine TL.opP rfl (op_assign rfl) ?_
   refine TL.opP rfl (op_assign rfl) ?_
   refine TL.opP rfl (op_assign rfl) ?_
   refine TL.nil ?_
   refine TQ.then ?_
   refine TC.seq ?_
   refine TC.region ?_
   refine TL.opP rfl (op_move rfl) ?_
   refine TL.opP rfl (op_move rfl) ?_
   refine TL.hp (fun _ h => h.pick3) ?_
   refine TL.opX rfl (OpX.callX en_40 rfl (yword_x (dec s) _ _ rd3 n (by omega))) ?_; rintro _ _ ⟨rfl, rfl⟩
   refine TL.opP rfl (op_move rfl) ?_
   refine TL.opP rfl (op_extract rfl rfl) ?_
   refine TL.opP rfl (op_extract rfl rfl) ?_
   refine TL.opP rfl (op_extract rfl rfl) ?_
   refine TL.opP rfl (op_assign rfl) ?_
   refine TL.opP rfl (op_assign rfl) ?_
   refine TL.opP rfl (op_assign rfl) ?_
   refine TL.nil ?_
   refine TQ.then ?_
   refine TC.seq ?_
   refine TC.region ?_
   refine TL.opP rfl (op_move rfl) ?_
   refine TL.opP rfl (op_move rfl) ?_
   refine TL.opP rfl (op_eql rfl rfl) ?_
   refine TL.opP rfl (op_move rfl) ?_
   first | refine TL.splitD (fun c3 => ?_) (fun c3 => ?_) | refine TL.splitB (fun c3 => ?_) (fun c3 => ?_)
   ·refine TL.gT rfl rfl ?_
    refine TL.opP rfl (op_move rfl) ?_
    refine TL.gT rfl rfl ?_
    refine TL.opP rfl (op_move rfl) ?_
    refine TL.gT rfl rfl ?_
    refine TL.opP rfl (op_eql rfl rfl) ?_
    refine TL.opP rfl (op_pickT rfl rfl) ?_
    refine TL.opP rfl (op_move rfl) ?_
    first | refine TL.splitD (fun c4 => ?_) (fun c4 => ?_) | refine TL.splitB (fun c4 => ?_) (fun c4 => ?_)
    ·refine TL.gT rfl rfl ?_
     refine TL.opP rfl (op_move rfl) ?_
     refine TL.gT rfl rfl ?_
     refine TL.opP rfl (op_move rfl) ?_
     refine TL.gT rfl rfl ?_
     refine TL.opP rfl (op_eql rfl rfl) ?_
     refine TL.opP rfl (op_pickT rfl rfl) ?_
     refine TL.opP rfl (op_move rfl) ?_
     first | refine TL.splitD (fun c5 => ?_) (fun c5 => ?_) | refine TL.splitB (fun c5 => ?_) (fun c5 => ?_)
     ·refine TL.gT rfl rfl ?_
      refine TL.callq rfl en_19 rfl (fun w2 hp => lawake_calls w2 (tabs_at hp m6)) ?_
      refine TL.opP rfl (op_pickT rfl rfl) ?_
      refine TL.opP rfl (op_assign rfl) ?_
      refine TL.nil ?_
      refine TQ.then ?_
      refine TC.ret ?_
      refine ret1 rfl rfl (fun w' hp => ?_)
      exact ⟨rfl, hp.kp⟩
     ·exact absurd rfl c5
    ·exact absurd rfl c4
   ·exact absurd rfl c3

end Go.SK
