/- The law DiffEither answers true. -/
import Derived.Test.YtnleenjmnndphaaDoorE32
set_option linter.unusedVariables false
set_option linter.unusedSimpArgs false
set_option maxRecDepth 100000
namespace Go.SK
open Go Go.RowKit Go.Proofs
variable {S : Nat → Prop} {w0 : World} {F L : List Res}
theorem diffEither_law (base a b : ByteArray) {w : World}  (hbase0 : base.size ≤ 140737488351232) (ha0 : a.size ≤ 140737488351232) (hb0 : b.size ≤ 140737488351232) (hT : Tabs w) :
    Calls Tryd.prog 9 (List.toArray [.string base, .string a, .string b]) w fun e' w' => e' = .returned (.bool true) ∧ Kp NoB w w' := by
  refine calls_start Tryd.func9 rfl rfl rfl (Hp.i1 (r := tabs) hT) ?_
  refine TC.seq ?_
  refine TC.region ?_   -- region 0 law.go:119
  refine TL.opP rfl (op_assign rfl) ?_
  refine TL.nil ?_
  refine TQ.then ?_
  refine TC.seq ?_
  refine TC.seq ?_
  refine TC.region ?_   -- region 1 law.go:120
  refine TL.opP rfl (op_move rfl) ?_
  refine TL.opP rfl (op_move rfl) ?_
  refine TL.opP rfl (op_move rfl) ?_
  refine TL.opX rfl (OpX.buildSlice (ps := #[(0, _), (1, _), (2, _)]) rfl (bs_string_3 _ _ _)) ?_; rintro _ _ ⟨g18, rfl, rfl⟩
  refine TL.hp (fun _ h => blk_row (k := 1) (m := 3) h rfl (by decide)) ?_
  refine TL.opX rfl (OpX.callX en_17 rfl (long_x [base, a, b] _ rw0)) ?_; rintro _ _ ⟨b1, rfl, hb1, rfl⟩
  refine TL.nil ?_
  refine TQ.then ?_
  first | refine TC.condD rfl (fun c1 => ?_) (fun c1 => ?_) | refine TC.condB rfl (fun c1 => ?_) (fun c1 => ?_)
  · refine TC.seq ?_
    refine TC.region ?_   -- region 2 law.go:121
    refine TL.callq rfl en_18 rfl (fun w2 hp => awake_calls w2 (tabs_at hp m1)) ?_
    refine TL.opP rfl (op_assign rfl) ?_
    refine TL.nil ?_
    refine TQ.then ?_
    refine TC.ret ?_
    refine TQ.then_ret ?_
    refine ret1 rfl rfl (fun w' hp => ?_)
    exact ⟨rfl, hp.kp⟩
  · have hzbase : base.size ≤ 200 := hb1 c1 base (by simp)
    have hza : a.size ≤ 200 := hb1 c1 a (by simp)
    have hzb : b.size ≤ 200 := hb1 c1 b (by simp)
    refine TC.skip ?_
    refine TQ.then ?_
    refine TC.seq ?_
    refine TC.region ?_   -- region 3 law.go:123
    refine TL.opP rfl (op_move rfl) ?_
    refine TL.opP rfl (op_move rfl) ?_
    refine TL.opP rfl (op_move rfl) ?_
    refine TL.opX rfl (OpX.callX en_30 rfl (meet_x base a b (by omega) (by omega) (by omega) m1)) ?_; rintro _ _ ⟨rfl, rfl⟩
    refine TL.opP rfl (op_move rfl) ?_
    refine TL.opP rfl (op_extract rfl rfl) ?_
    refine TL.opP rfl (op_extract rfl rfl) ?_
    refine TL.opP rfl (op_assign rfl) ?_
    refine TL.opP rfl (op_assign rfl) ?_
    refine TL.nil ?_
    refine TQ.then ?_
    refine TC.seq ?_
    refine TC.region ?_   -- region 4 law.go:124
    refine TL.opP rfl (op_move rfl) ?_
    refine TL.opP rfl (op_move rfl) ?_
    refine TL.opP rfl (op_move rfl) ?_
    refine TL.opX rfl (OpX.callX en_30 rfl (meet_x base b a (by omega) (by omega) (by omega) m1)) ?_; rintro _ _ ⟨rfl, rfl⟩
    refine TL.opP rfl (op_move rfl) ?_
    refine TL.opP rfl (op_extract rfl rfl) ?_
    refine TL.opP rfl (op_extract rfl rfl) ?_
    refine TL.opP rfl (op_assign rfl) ?_
    refine TL.opP rfl (op_assign rfl) ?_
    refine TL.nil ?_
    refine TQ.then ?_
    refine TC.seq ?_
    refine TC.seq ?_
    refine TC.region ?_   -- region 5 law.go:125
    refine TL.opP rfl (op_move rfl) ?_
    refine TL.opP rfl (op_neq rfl rfl) ?_
    refine TL.opP rfl (op_move rfl) ?_
    first | refine TL.splitD (fun c2 => ?_) (fun c2 => ?_) | refine TL.splitB (fun c2 => ?_) (fun c2 => ?_)
    · refine TL.gFt rfl rfl rfl ?_
      refine TL.gFt rfl rfl rfl ?_
      refine TL.opP rfl (op_pickT rfl rfl) ?_
      refine TL.nil ?_
      refine TQ.then ?_
      refine TC.condT rfl ?_
      refine TC.seq ?_
      refine TC.region ?_   -- region 6 law.go:126
      refine TL.opP rfl (op_move rfl) ?_
      refine TL.opP rfl (op_eql rfl rfl) ?_
      refine TL.opP rfl (op_move rfl) ?_
      refine TL.opP rfl (op_eql rfl rfl) ?_
      refine TL.opP rfl (op_beql un_bool rfl rfl) ?_
      refine TL.opP rfl (op_move rfl) ?_
      first | refine TL.splitD (fun c3 => ?_) (fun c3 => ?_) | refine TL.splitB (fun c3 => ?_) (fun c3 => ?_)
      · refine TL.gT rfl rfl ?_
        refine TL.callq rfl en_18 rfl (fun w2 hp => awake_calls w2 (tabs_at hp m1)) ?_
        refine TL.opP rfl (op_pickT rfl rfl) ?_
        refine TL.opP rfl (op_assign rfl) ?_
        refine TL.nil ?_
        refine TQ.then ?_
        refine TC.ret ?_
        refine TQ.then_ret ?_
        refine ret1 rfl rfl (fun w' hp => ?_)
        exact ⟨rfl, hp.kp⟩
      · exact absurd (meetE_dec _ _ _) c3
    · refine TL.gT rfl rfl ?_
      refine TL.opP rfl (op_move rfl) ?_
      refine TL.gT rfl rfl ?_
      refine TL.opP rfl (op_neq rfl rfl) ?_
      refine TL.opP rfl (op_pickF rfl rfl) ?_
      refine TL.nil ?_
      refine TQ.then ?_
      first | refine TC.condD rfl (fun c4 => ?_) (fun c4 => ?_) | refine TC.condB rfl (fun c4 => ?_) (fun c4 => ?_)
      · refine TC.seq ?_
        refine TC.region ?_   -- region 6 law.go:126
        refine TL.opP rfl (op_move rfl) ?_
        refine TL.opP rfl (op_eql rfl rfl) ?_
        refine TL.opP rfl (op_move rfl) ?_
        refine TL.opP rfl (op_eql rfl rfl) ?_
        refine TL.opP rfl (op_beql un_bool rfl rfl) ?_
        refine TL.opP rfl (op_move rfl) ?_
        first | refine TL.splitD (fun c5 => ?_) (fun c5 => ?_) | refine TL.splitB (fun c5 => ?_) (fun c5 => ?_)
        · refine TL.gT rfl rfl ?_
          refine TL.callq rfl en_18 rfl (fun w2 hp => awake_calls w2 (tabs_at hp m1)) ?_
          refine TL.opP rfl (op_pickT rfl rfl) ?_
          refine TL.opP rfl (op_assign rfl) ?_
          refine TL.nil ?_
          refine TQ.then ?_
          refine TC.ret ?_
          refine TQ.then_ret ?_
          refine ret1 rfl rfl (fun w' hp => ?_)
          exact ⟨rfl, hp.kp⟩
        · exact absurd (meetE_dec _ _ _) c5
      · obtain ⟨l1, l2, l3, l4⟩ := either_z (base := base) (a := a) (b := b) (Decidable.not_not.1 c2)
        refine TC.skip ?_
        refine TQ.then ?_
        refine TC.seq ?_
        refine TC.region ?_   -- region 7 law.go:128
        refine TL.opP rfl (op_move rfl) ?_
        refine TL.opP rfl (op_move rfl) ?_
        refine TL.opP rfl (op_move rfl) ?_
        refine TL.opX rfl (OpX.callX en_22 rfl (merge_x base a b (by omega) (by omega) (by omega) m1)) ?_; rintro _ _ ⟨rfl, rfl⟩
        refine TL.opP rfl (op_move rfl) ?_
        refine TL.opP rfl (op_extract rfl rfl) ?_
        refine TL.opP rfl (op_extract rfl rfl) ?_
        refine TL.opP rfl (op_assign rfl) ?_
        refine TL.opP rfl (op_assign rfl) ?_
        refine TL.nil ?_
        refine TQ.then ?_
        refine TC.seq ?_
        refine TC.region ?_   -- region 8 law.go:129
        refine TL.opP rfl (op_move rfl) ?_
        refine TL.opP rfl (op_move rfl) ?_
        refine TL.opP rfl (op_move rfl) ?_
        refine TL.opX rfl (OpX.callX en_22 rfl (merge_x base b a (by omega) (by omega) (by omega) m1)) ?_; rintro _ _ ⟨rfl, rfl⟩
        refine TL.opP rfl (op_move rfl) ?_
        refine TL.opP rfl (op_extract rfl rfl) ?_
        refine TL.opP rfl (op_extract rfl rfl) ?_
        refine TL.opP rfl (op_assign rfl) ?_
        refine TL.opP rfl (op_assign rfl) ?_
        refine TL.nil ?_
        refine TQ.then ?_
        refine TC.seq ?_
        refine TC.region ?_   -- region 9 law.go:130
        refine TL.opP rfl (op_move rfl) ?_
        refine TL.opP rfl (op_move rfl) ?_
        refine TL.opP rfl (op_eql rfl rfl) ?_
        refine TL.opP rfl (op_move rfl) ?_
        first | refine TL.splitD (fun c6 => ?_) (fun c6 => ?_) | refine TL.splitB (fun c6 => ?_) (fun c6 => ?_)
        · refine TL.gT rfl rfl ?_
          refine TL.opP rfl (op_move rfl) ?_
          refine TL.gT rfl rfl ?_
          refine TL.opP rfl (op_eql rfl rfl) ?_
          refine TL.opP rfl (op_pickT rfl rfl) ?_
          refine TL.opP rfl (op_move rfl) ?_
          first | refine TL.splitD (fun c7 => ?_) (fun c7 => ?_) | refine TL.splitB (fun c7 => ?_) (fun c7 => ?_)
          · refine TL.gT rfl rfl ?_
            refine TL.opP rfl (op_move rfl) ?_
            refine TL.gT rfl rfl ?_
            refine TL.opP rfl (op_eql rfl rfl) ?_
            refine TL.opP rfl (op_pickT rfl rfl) ?_
            refine TL.opP rfl (op_move rfl) ?_
            first | refine TL.splitD (fun c8 => ?_) (fun c8 => ?_) | refine TL.splitB (fun c8 => ?_) (fun c8 => ?_)
            · refine TL.gT rfl rfl ?_
              refine TL.opP rfl (op_move rfl) ?_
              refine TL.gT rfl rfl ?_
              refine TL.opP rfl (op_gtr rfl rfl) ?_
              refine TL.gT rfl rfl ?_
              refine TL.opP rfl (op_move rfl) ?_
              first | refine TL.splitD (fun c9 => ?_) (fun c9 => ?_) | refine TL.splitB (fun c9 => ?_) (fun c9 => ?_)
              · refine TL.gFt rfl rfl rfl ?_
                refine TL.gFt rfl rfl rfl ?_
                refine TL.gFt rfl rfl rfl ?_
                refine TL.gT rfl rfl ?_
                refine TL.opP rfl (op_pickT rfl rfl) ?_
                refine TL.opP rfl (op_pickT rfl rfl) ?_
                refine TL.opP rfl (op_move rfl) ?_
                refine TL.gT rfl rfl ?_
                refine TL.callq rfl en_18 rfl (fun w2 hp => awake_calls w2 (tabs_at hp m1)) ?_
                refine TL.opP rfl (op_pickT rfl rfl) ?_
                refine TL.opP rfl (op_assign rfl) ?_
                refine TL.nil ?_
                refine TQ.then ?_
                refine TC.ret ?_
                refine ret1 rfl rfl (fun w' hp => ?_)
                exact ⟨rfl, hp.kp⟩
              · refine TL.gT rfl rfl ?_
                refine TL.opP rfl (op_move rfl) ?_
                refine TL.gT rfl rfl ?_
                refine TL.opP rfl (op_move rfl) ?_
                refine TL.gT rfl rfl ?_
                refine TL.opP rfl (op_seql rfl rfl) ?_
                refine TL.gT rfl rfl ?_
                refine TL.opP rfl (op_pickF rfl rfl) ?_
                refine TL.opP rfl (op_pickT rfl rfl) ?_
                refine TL.opP rfl (op_move rfl) ?_
                first | refine TL.splitD (fun c10 => ?_) (fun c10 => ?_) | refine TL.splitB (fun c10 => ?_) (fun c10 => ?_)
                · refine TL.gT rfl rfl ?_
                  refine TL.callq rfl en_18 rfl (fun w2 hp => awake_calls w2 (tabs_at hp m1)) ?_
                  refine TL.opP rfl (op_pickT rfl rfl) ?_
                  refine TL.opP rfl (op_assign rfl) ?_
                  refine TL.nil ?_
                  refine TQ.then ?_
                  refine TC.ret ?_
                  refine ret1 rfl rfl (fun w' hp => ?_)
                  exact ⟨rfl, hp.kp⟩
                · exact absurd (l4.resolve_left c9) c10
            · exact absurd (by first | assumption | rfl | omega) c8
          · exact absurd (by first | assumption | rfl | omega) c7
        · exact absurd (by first | assumption | rfl | omega) c6

end Go.SK
