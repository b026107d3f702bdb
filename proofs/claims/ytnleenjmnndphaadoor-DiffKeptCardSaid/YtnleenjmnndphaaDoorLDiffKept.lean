/- The law DiffKept answers true. -/
import Derived.Test.YtnleenjmnndphaaDoorE34
set_option linter.unusedVariables false
set_option linter.unusedSimpArgs false
set_option maxRecDepth 100000
namespace Go.SK
open Go Go.RowKit Go.Proofs
variable {S : Nat → Prop} {w0 : World} {F L : List Res}
theorem diffKept_law (a b : ByteArray) {w : World}  (ha0 : a.size ≤ 140737488351232) (hb0 : b.size ≤ 140737488351232) (hT : Tabs w) :
    Calls Tryd.prog 8 (List.toArray [.string a, .string b]) w fun e' w' => e' = .returned (.bool true) ∧ Kp NoB w w' := by
  refine calls_start Tryd.func8 rfl rfl rfl (Hp.i1 (r := tabs) hT) ?_
  refine TC.seq ?_
  refine TC.region ?_   -- region 0 law.go:42
  refine TL.opP rfl (op_assign rfl) ?_
  refine TL.nil ?_
  refine TQ.then ?_
  refine TC.seq ?_
  refine TC.seq ?_
  refine TC.region ?_   -- region 1 law.go:43
  refine TL.opP rfl (op_move rfl) ?_
  refine TL.opP rfl (op_move rfl) ?_
  refine TL.opX rfl (OpX.buildSlice (ps := #[(0, _), (1, _)]) rfl (bs_string_2 _ _)) ?_; rintro _ _ ⟨g17, rfl, rfl⟩
  refine TL.hp (fun _ h => blk_row (k := 1) (m := 2) h rfl (by decide)) ?_
  refine TL.opX rfl (OpX.callX en_17 rfl (long_x [a, b] _ rw0)) ?_; rintro _ _ ⟨b1, rfl, hb1, rfl⟩
  refine TL.nil ?_
  refine TQ.then ?_
  first | refine TC.condD rfl (fun c1 => ?_) (fun c1 => ?_) | refine TC.condB rfl (fun c1 => ?_) (fun c1 => ?_)
  · refine TC.seq ?_
    refine TC.region ?_   -- region 2 law.go:44
    refine TL.callq rfl en_18 rfl (fun w2 hp => awake_calls w2 (tabs_at hp m1)) ?_
    refine TL.opP rfl (op_assign rfl) ?_
    refine TL.nil ?_
    refine TQ.then ?_
    refine TC.ret ?_
    refine TQ.then_ret ?_
    refine ret1 rfl rfl (fun w' hp => ?_)
    exact ⟨rfl, hp.kp⟩
  · have hza : a.size ≤ 200 := hb1 c1 a (by simp)
    have hzb : b.size ≤ 200 := hb1 c1 b (by simp)
    have hkc := kept_comm a b
    have hdl := diffF_len a b
    refine TC.skip ?_
    refine TQ.then ?_
    refine TC.seq ?_
    refine TC.region ?_   -- region 3 law.go:46
    refine TL.opP rfl (op_move rfl) ?_
    refine TL.opP rfl (op_move rfl) ?_
    refine TL.opX rfl (OpX.callX en_28 rfl (kept_x a b (by omega) (by omega) m1)) ?_; rintro _ _ ⟨rfl, rfl⟩
    refine TL.opP rfl (op_move rfl) ?_
    refine TL.opP rfl (op_extract rfl rfl) ?_
    refine TL.opP rfl (op_extract rfl rfl) ?_
    refine TL.opP rfl (op_assign rfl) ?_
    refine TL.opP rfl (op_assign rfl) ?_
    refine TL.nil ?_
    refine TQ.then ?_
    refine TC.seq ?_
    refine TC.region ?_   -- region 4 law.go:47
    refine TL.opP rfl (op_move rfl) ?_
    refine TL.opP rfl (op_move rfl) ?_
    refine TL.opX rfl (OpX.callX en_29 rfl (rkept_x a b (by omega) (by omega))) ?_; rintro _ _ ⟨rfl, rfl⟩
    refine TL.opP rfl (op_move rfl) ?_
    refine TL.opP rfl (op_extract rfl rfl) ?_
    refine TL.opP rfl (op_extract rfl rfl) ?_
    refine TL.opP rfl (op_assign rfl) ?_
    refine TL.opP rfl (op_assign rfl) ?_
    refine TL.nil ?_
    refine TQ.then ?_
    refine TC.seq ?_
    refine TC.region ?_   -- region 5 law.go:48
    refine TL.opP rfl (op_move rfl) ?_
    refine TL.opP rfl (op_move rfl) ?_
    refine TL.opX rfl (OpX.callX en_28 rfl (kept_x b a (by omega) (by omega) m1)) ?_; rintro _ _ ⟨rfl, rfl⟩
    refine TL.opP rfl (op_move rfl) ?_
    refine TL.opP rfl (op_extract rfl rfl) ?_
    refine TL.opP rfl (op_extract rfl rfl) ?_
    refine TL.opP rfl (op_assign rfl) ?_
    refine TL.opP rfl (op_assign rfl) ?_
    refine TL.nil ?_
    refine TQ.then ?_
    refine TC.seq ?_
    refine TC.seq ?_
    refine TC.region ?_   -- region 6 law.go:49
    refine TL.opP rfl (op_move rfl) ?_
    refine TL.opP rfl (op_move rfl) ?_
    refine TL.opP rfl (op_neq rfl rfl) ?_
    refine TL.opP rfl (op_move rfl) ?_
    first | refine TL.splitD (fun c2 => ?_) (fun c2 => ?_) | refine TL.splitB (fun c2 => ?_) (fun c2 => ?_)
    · exact absurd rfl c2
    · refine TL.gT rfl rfl ?_
      refine TL.opP rfl (op_move rfl) ?_
      refine TL.gT rfl rfl ?_
      refine TL.opP rfl (op_move rfl) ?_
      refine TL.gT rfl rfl ?_
      refine TL.opP rfl (op_neq rfl rfl) ?_
      refine TL.opP rfl (op_pickF rfl rfl) ?_
      refine TL.opP rfl (op_move rfl) ?_
      first | refine TL.splitD (fun c3 => ?_) (fun c3 => ?_) | refine TL.splitB (fun c3 => ?_) (fun c3 => ?_)
      · exact absurd rfl c3
      · refine TL.gT rfl rfl ?_
        refine TL.opP rfl (op_move rfl) ?_
        refine TL.gT rfl rfl ?_
        refine TL.opP rfl (op_move rfl) ?_
        refine TL.gT rfl rfl ?_
        refine TL.opP rfl (op_neq rfl rfl) ?_
        refine TL.opP rfl (op_pickF rfl rfl) ?_
        refine TL.opP rfl (op_move rfl) ?_
        first | refine TL.splitD (fun c4 => ?_) (fun c4 => ?_) | refine TL.splitB (fun c4 => ?_) (fun c4 => ?_)
        · exact absurd hkc c4
        · refine TL.gT rfl rfl ?_
          refine TL.opP rfl (op_move rfl) ?_
          refine TL.gT rfl rfl ?_
          refine TL.opP rfl (op_eql rfl rfl) ?_
          refine TL.gT rfl rfl ?_
          refine TL.opP rfl (op_move rfl) ?_
          refine TL.gT rfl rfl ?_
          refine TL.opP rfl (op_eql rfl rfl) ?_
          refine TL.gT rfl rfl ?_
          refine TL.opP rfl (op_bneq un_bool rfl rfl) ?_
          refine TL.opP rfl (op_pickF rfl rfl) ?_
          refine TL.nil ?_
          refine TQ.then ?_
          first | refine TC.condD rfl (fun c5 => ?_) (fun c5 => ?_) | refine TC.condB rfl (fun c5 => ?_) (fun c5 => ?_)
          · exact absurd (ck2_dec a b) c5
          · refine TC.skip ?_
            refine TQ.then ?_
            refine TC.seq ?_
            refine TC.seq ?_
            refine TC.region ?_   -- region 8 law.go:52
            refine TL.opP rfl (op_move rfl) ?_
            refine TL.opP rfl (op_neq rfl rfl) ?_
            refine TL.nil ?_
            refine TQ.then ?_
            first | refine TC.condD rfl (fun c6 => ?_) (fun c6 => ?_) | refine TC.condB rfl (fun c6 => ?_) (fun c6 => ?_)
            · refine TC.seq ?_
              refine TC.region ?_   -- region 9 law.go:53
              refine TL.callq rfl en_18 rfl (fun w2 hp => awake_calls w2 (tabs_at hp m1)) ?_
              refine TL.opP rfl (op_assign rfl) ?_
              refine TL.nil ?_
              refine TQ.then ?_
              refine TC.ret ?_
              refine TQ.then_ret ?_
              refine ret1 rfl rfl (fun w' hp => ?_)
              exact ⟨rfl, hp.kp⟩
            · obtain ⟨l1, l2, l3⟩ := kept_z (s := a) (t := b) (Decidable.not_not.1 c6)
              have hrc : rcount a ≤ a.size := by rw [rcount_dec]; exact dec_len a
              refine TC.skip ?_
              refine TQ.then ?_
              refine TC.seq ?_
              refine TC.region ?_   -- region 10 law.go:55
              refine TL.opP rfl (op_move rfl) ?_
              refine TL.opP rfl (op_move rfl) ?_
              refine TL.opX rfl (OpX.callX en_19 rfl (diff_x a b (by omega) (by omega) m1)) ?_; rintro _ _ ⟨w5, rfl, rfl⟩
              refine TL.opP rfl (op_move rfl) ?_
              refine TL.opP rfl (op_extract rfl rfl) ?_
              refine TL.opP rfl (op_extract rfl rfl) ?_
              refine TL.opP rfl (op_assign rfl) ?_
              refine TL.opP rfl (op_assign rfl) ?_
              refine TL.nil ?_
              refine TQ.then ?_
              refine TC.seq ?_
              refine TC.region ?_   -- region 11 law.go:56
              refine TL.opP rfl (op_move rfl) ?_
              refine TL.callq rfl en_26 rfl (fun w2 hp => weight_calls (diffF a b) _ (by omega) w2 (tabs_at hp m2) (diffF_small _ _) (rw0 _ _ _ hp)) ?_
              refine TL.opP rfl (op_move rfl) ?_
              refine TL.opP rfl (op_extract rfl rfl) ?_
              refine TL.opP rfl (op_extract rfl rfl) ?_
              refine TL.opP rfl (op_assign rfl) ?_
              refine TL.opP rfl (op_assign rfl) ?_
              refine TL.nil ?_
              refine TQ.then ?_
              refine TC.seq ?_
              refine TC.region ?_   -- region 12 law.go:57
              refine TL.opP rfl (op_move rfl) ?_
              refine TL.callq rfl en_27 rfl (fun w2 hp => rcount_calls _ _ (by omega)) ?_
              refine TL.opP rfl (op_move rfl) ?_
              refine TL.opP rfl (op_sub rfl rfl rfl (by omega) (by omega)) ?_
              refine TL.opP rfl (op_move rfl) ?_
              refine TL.opP rfl (op_eql rfl rfl) ?_
              refine TL.opP rfl (op_move rfl) ?_
              first | refine TL.splitD (fun c7 => ?_) (fun c7 => ?_) | refine TL.splitB (fun c7 => ?_) (fun c7 => ?_)
              · refine TL.gT rfl rfl ?_
                refine TL.callq rfl en_18 rfl (fun w2 hp => awake_calls w2 (tabs_at hp m2)) ?_
                refine TL.opP rfl (op_pickT rfl rfl) ?_
                refine TL.opP rfl (op_assign rfl) ?_
                refine TL.nil ?_
                refine TQ.then ?_
                refine TC.ret ?_
                refine ret1 rfl rfl (fun w' hp => ?_)
                exact ⟨rfl, hp.kp⟩
              · exact absurd l1 c7

end Go.SK
