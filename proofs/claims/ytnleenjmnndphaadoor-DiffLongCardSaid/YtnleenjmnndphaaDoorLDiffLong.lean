/- The law DiffLong answers true. -/
import Derived.Test.YtnleenjmnndphaaDoorE32
set_option linter.unusedVariables false
set_option linter.unusedSimpArgs false
set_option maxRecDepth 100000
namespace Go.SK
open Go Go.RowKit Go.Proofs
variable {S : Nat → Prop} {w0 : World} {F L : List Res}
theorem diffLong_law (a : ByteArray) (n : Int) (b : ByteArray) {w : World} (ha0 : a.size ≤ 140737488351232) (hb0 : b.size ≤ 140737488351232) (hT : Tabs w) :
    Calls Tryd.prog 7 (List.toArray [.string a, .int .i64 n, .string b]) w fun e' w' => e' = .returned (.bool true) ∧ Kp NoB w w' := by
  refine calls_start Tryd.func7 rfl rfl rfl (Hp.i1 (r := tabs) hT) ?_
  refine TC.seq ?_
  refine TC.region ?_   -- region 0 law.go:134
  refine TL.opP rfl (op_assign rfl) ?_
  refine TL.nil ?_
  refine TQ.then ?_
  refine TC.seq ?_
  refine TC.seq ?_
  refine TC.region ?_   -- region 1 law.go:135
  refine TL.opP rfl (op_move rfl) ?_
  refine TL.opP rfl (op_move rfl) ?_
  refine TL.opX rfl (OpX.buildSlice (ps := #[(0, _), (1, _)]) rfl (bs_string_2 _ _)) ?_; rintro _ _ ⟨g16, rfl, rfl⟩
  refine TL.hp (fun _ h => blk_row (k := 1) (m := 2) h rfl (by decide)) ?_
  refine TL.opX rfl (OpX.callX en_17 rfl (long_x [a, b] _ rw0)) ?_; rintro _ _ ⟨b1, rfl, hb1, rfl⟩
  refine TL.opP rfl (op_move rfl) ?_
  first | refine TL.splitD (fun c1 => ?_) (fun c1 => ?_) | refine TL.splitB (fun c1 => ?_) (fun c1 => ?_)
  · refine TL.gFt rfl rfl rfl ?_
    refine TL.gFt rfl rfl rfl ?_
    refine TL.opP rfl (op_pickT rfl rfl) ?_
    refine TL.nil ?_
    refine TQ.then ?_
    refine TC.condT rfl ?_
    refine TC.seq ?_
    refine TC.region ?_   -- region 2 law.go:136
    refine TL.callq rfl en_18 rfl (fun w2 hp => awake_calls w2 (tabs_at hp m1)) ?_
    refine TL.opP rfl (op_assign rfl) ?_
    refine TL.nil ?_
    refine TQ.then ?_
    refine TC.ret ?_
    refine TQ.then_ret ?_
    refine ret1 rfl rfl (fun w' hp => ?_)
    exact ⟨rfl, hp.kp⟩
  · have hza : a.size ≤ 200 := hb1 c1 a (by simp)
    have hzb : b.size ≤ 200 := hb1 c1 b (by simp)
    refine TL.gT rfl rfl ?_
    refine TL.opP rfl (op_move rfl) ?_
    refine TL.gT rfl rfl ?_
    refine TL.opP rfl (op_seql rfl rfl) ?_
    refine TL.opP rfl (op_pickF rfl rfl) ?_
    refine TL.nil ?_
    refine TQ.then ?_
    first | refine TC.condD rfl (fun c2 => ?_) (fun c2 => ?_) | refine TC.condB rfl (fun c2 => ?_) (fun c2 => ?_)
    · refine TC.seq ?_
      refine TC.region ?_   -- region 2 law.go:136
      refine TL.callq rfl en_18 rfl (fun w2 hp => awake_calls w2 (tabs_at hp m1)) ?_
      refine TL.opP rfl (op_assign rfl) ?_
      refine TL.nil ?_
      refine TQ.then ?_
      refine TC.ret ?_
      refine TQ.then_ret ?_
      refine ret1 rfl rfl (fun w' hp => ?_)
      exact ⟨rfl, hp.kp⟩
    · refine TC.skip ?_
      refine TQ.then ?_
      refine TC.join (ι := ByteArray) (fun x => [(0, .string x), (2, .string b)]) (fun x => [tabs]) (fun x => x.size ≤ 16384) ?_ ?_
      · refine TC.seq ?_
        refine TC.region ?_   -- region 3 law.go:138
        refine TL.opP rfl (op_move rfl) ?_
        refine TL.opP rfl (op_int un_uint rfl rfl) ?_
        refine TL.opP rfl (op_rem rfl rfl (u64_pos _) (by decide)) ?_
        refine TL.opP rfl (op_int un_int rfl rfl) ?_
        refine TL.opP rfl (op_assign rfl) ?_
        refine TL.nil ?_
        refine TQ.then ?_
        refine TC.block ?_
        refine TC.loop (ι := ByteArray) (fun x => [(0, .string x), (2, .string b), (1, .int .i64 (IntKind.i64.wrap (IntKind.u64.wrap n % 1200)))]) (fun x => [tabs]) (fun x => 0 < x.size ∧ x.size ≤ 16384) (fun x => 16384 - x.size) (a) (⟨size_pos c2, by omega⟩) ⟨rfl, rfl, rfl, trivial⟩ (fun _ h => h.tail) ?_
        rintro x ⟨hx0, hx1⟩
        refine TC.seq ?_
        refine TC.seq ?_
        refine TC.region ?_   -- region 4 law.go:138
        refine TL.opP rfl (op_move rfl) ?_
        refine TL.callq rfl en_27 rfl (fun w2 hp => rcount_calls _ _ (by omega)) ?_
        refine TL.opP rfl (op_move rfl) ?_
        refine TL.opP rfl (op_lss rfl rfl) ?_
        refine TL.opP rfl (op_move rfl) ?_
        first | refine TL.splitD (fun c3 => ?_) (fun c3 => ?_) | refine TL.splitB (fun c3 => ?_) (fun c3 => ?_)
        · refine TL.gT rfl rfl ?_
          refine TL.opP rfl (op_move rfl) ?_
          refine TL.gT rfl rfl ?_
          refine TL.opP rfl (op_slen rfl un_string rfl) ?_
          refine TL.gT rfl rfl ?_
          refine TL.opP rfl (op_lss rfl rfl) ?_
          refine TL.opP rfl (op_pickT rfl rfl) ?_
          refine TL.nil ?_
          refine TQ.then ?_
          first | refine TC.condD rfl (fun c4 => ?_) (fun c4 => ?_) | refine TC.condB rfl (fun c4 => ?_) (fun c4 => ?_)
          · refine TC.skip ?_
            refine TQ.then ?_
            refine TC.block ?_
            refine TC.region ?_   -- region 5 law.go:139
            refine TL.opP rfl (op_move rfl) ?_
            refine TL.opP rfl (op_move rfl) ?_
            refine TL.opP rfl (op_sadd rfl rfl (by omega)) ?_
            refine TL.opP rfl (op_assign rfl) ?_
            refine TL.nil ?_
            refine TQ.block_normal ?_
            exact TQ.round (x ++ x) (⟨by rw [ByteArray.size_append]; omega, by rw [ByteArray.size_append]; omega⟩) (by show 16384 - (x ++ x).size < _; rw [ByteArray.size_append]; omega) ⟨rfl, rfl, rfl, trivial⟩ (fun _ h => h)
          · refine TC.exit ?_
            refine TQ.then_exit ?_
            refine TQ.loop_exit ?_
            refine TQ.block_hit ?_
            exact TQ.join (x) (hx1) ⟨rfl, rfl, trivial⟩ (fun _ h => h)
        · refine TL.gFf rfl rfl rfl ?_
          refine TL.gFf rfl rfl rfl ?_
          refine TL.gFf rfl rfl rfl ?_
          refine TL.opP rfl (op_pickF rfl rfl) ?_
          refine TL.nil ?_
          refine TQ.then ?_
          refine TC.condF rfl ?_
          refine TC.exit ?_
          refine TQ.then_exit ?_
          refine TQ.loop_exit ?_
          refine TQ.block_hit ?_
          exact TQ.join (x) (hx1) ⟨rfl, rfl, trivial⟩ (fun _ h => h)
      · rintro x hx1
        refine TC.join1 [(0, .string x), (2, .string b)] ([tabs]) ?_ ?_
        · refine TC.seq ?_
          refine TC.region ?_   -- region 6 law.go:141
          refine TL.opP rfl (op_move rfl) ?_
          refine TL.opP rfl (op_slen rfl un_string rfl) ?_
          refine TL.opP rfl (op_gtr rfl rfl) ?_
          refine TL.opP rfl (op_move rfl) ?_
          first | refine TL.splitD (fun c5 => ?_) (fun c5 => ?_) | refine TL.splitB (fun c5 => ?_) (fun c5 => ?_)
          · refine TL.gFt rfl rfl rfl ?_
            refine TL.gFt rfl rfl rfl ?_
            refine TL.gFt rfl rfl rfl ?_
            refine TL.gFt rfl rfl rfl ?_
            refine TL.gU rfl rfl rfl ?_
            refine TL.gU rfl rfl rfl ?_
            refine TL.gU rfl rfl rfl ?_
            refine TL.gFt rfl rfl rfl ?_
            refine TL.opP rfl (op_pickT rfl rfl) ?_
            refine TL.nil ?_
            refine TQ.then ?_
            refine TC.condT rfl ?_
            refine TC.seq ?_
            refine TC.region ?_   -- region 7 law.go:142
            refine TL.callq rfl en_18 rfl (fun w2 hp => awake_calls w2 (tabs_at hp m0)) ?_
            refine TL.opP rfl (op_assign rfl) ?_
            refine TL.nil ?_
            refine TQ.then ?_
            refine TC.ret ?_
            refine TQ.join_ret ?_
            refine ret1 rfl rfl (fun w' hp => ?_)
            exact ⟨rfl, hp.kp⟩
          · refine TL.gT rfl rfl ?_
            refine TL.opP rfl (op_move rfl) ?_
            refine TL.gT rfl rfl ?_
            refine TL.callq rfl en_27 rfl (fun w2 hp => rcount_calls _ _ (by omega)) ?_
            refine TL.gT rfl rfl ?_
            refine TL.opP rfl (op_leq rfl rfl) ?_
            refine TL.gT rfl rfl ?_
            refine TL.opP rfl (op_move rfl) ?_
            first | refine TL.splitD (fun c6 => ?_) (fun c6 => ?_) | refine TL.splitB (fun c6 => ?_) (fun c6 => ?_)
            · refine TL.gT rfl rfl ?_
              refine TL.opP rfl (op_move rfl) ?_
              refine TL.gT rfl rfl ?_
              refine TL.callq rfl en_27 rfl (fun w2 hp => rcount_calls _ _ (by omega)) ?_
              refine TL.gT rfl rfl ?_
              refine TL.opP rfl (op_gtr rfl rfl) ?_
              refine TL.gT rfl rfl ?_
              refine TL.opP rfl (op_pickT rfl rfl) ?_
              refine TL.opP rfl (op_pickF rfl rfl) ?_
              refine TL.nil ?_
              refine TQ.then ?_
              first | refine TC.condD rfl (fun c7 => ?_) (fun c7 => ?_) | refine TC.condB rfl (fun c7 => ?_) (fun c7 => ?_)
              · refine TC.seq ?_
                refine TC.region ?_   -- region 7 law.go:142
                refine TL.callq rfl en_18 rfl (fun w2 hp => awake_calls w2 (tabs_at hp m0)) ?_
                refine TL.opP rfl (op_assign rfl) ?_
                refine TL.nil ?_
                refine TQ.then ?_
                refine TC.ret ?_
                refine TQ.join_ret ?_
                refine ret1 rfl rfl (fun w' hp => ?_)
                exact ⟨rfl, hp.kp⟩
              · refine TC.skip ?_
                exact TQ.join1 ⟨rfl, rfl, trivial⟩ (fun _ h => h)
            · refine TL.gFf rfl rfl rfl ?_
              refine TL.gFf rfl rfl rfl ?_
              refine TL.gFf rfl rfl rfl ?_
              refine TL.gT rfl rfl ?_
              refine TL.opP rfl (op_pickF rfl rfl) ?_
              refine TL.opP rfl (op_pickF rfl rfl) ?_
              refine TL.nil ?_
              refine TQ.then ?_
              refine TC.condF rfl ?_
              refine TC.skip ?_
              exact TQ.join1 ⟨rfl, rfl, trivial⟩ (fun _ h => h)
        · refine TC.seq ?_
          refine TC.region ?_   -- region 8 law.go:144
          refine TL.opP rfl (op_move rfl) ?_
          refine TL.opX rfl (OpX.callX en_23 rfl (rck_calls x (by omega))) ?_; rintro _ _ ⟨rfl, rfl⟩
          refine TL.opP rfl (op_assign rfl) ?_
          refine TL.nil ?_
          refine TQ.then ?_
          refine TC.join1 [(0, .string x), (2, .string b), (7, .int .i64 (ck2 x b))] ([tabs]) ?_ ?_
          · refine TC.seq ?_
            refine TC.region ?_   -- region 9 law.go:145
            refine TL.opP rfl (op_move rfl) ?_
            refine TL.opP rfl (op_eql rfl rfl) ?_
            refine TL.nil ?_
            refine TQ.then ?_
            first | refine TC.condD rfl (fun c8 => ?_) (fun c8 => ?_) | refine TC.condB rfl (fun c8 => ?_) (fun c8 => ?_)
            · refine TC.region ?_   -- region 10 law.go:146
              refine TL.opP rfl (op_move rfl) ?_
              refine TL.opX rfl (OpX.callX en_23 rfl (rck_calls b (by omega))) ?_; rintro _ _ ⟨rfl, rfl⟩
              refine TL.opP rfl (op_assign rfl) ?_
              refine TL.nil ?_
              exact TQ.join1 ⟨rfl, rfl, gi rfl (by unfold ck2; first | (rw [if_pos (by assumption)]; done) | (rw [if_neg (by assumption)]; done)), trivial⟩ (fun _ h => h)
            · refine TC.skip ?_
              exact TQ.join1 ⟨rfl, rfl, gi rfl (by unfold ck2; first | (rw [if_pos (by assumption)]; done) | (rw [if_neg (by assumption)]; done)), trivial⟩ (fun _ h => h)
          · refine TC.seq ?_
            refine TC.region ?_   -- region 11 law.go:148
            refine TL.opP rfl (op_move rfl) ?_
            refine TL.opP rfl (op_move rfl) ?_
            refine TL.opX rfl (OpX.callX en_19 rfl (diff_x x b (by omega) (by omega) m0)) ?_; rintro _ _ ⟨w4, rfl, rfl⟩
            refine TL.opP rfl (op_move rfl) ?_
            refine TL.opP rfl (op_extract rfl rfl) ?_
            refine TL.opP rfl (op_extract rfl rfl) ?_
            refine TL.opP rfl (op_assign rfl) ?_
            refine TL.opP rfl (op_assign rfl) ?_
            refine TL.nil ?_
            refine TQ.then ?_
            refine TC.seq ?_
            refine TC.region ?_   -- region 12 law.go:149
            refine TL.opP rfl (op_move rfl) ?_
            refine TL.opP rfl (op_move rfl) ?_
            refine TL.opX rfl (OpX.callX en_28 rfl (kept_x x b (by omega) (by omega) m1)) ?_; rintro _ _ ⟨rfl, rfl⟩
            refine TL.opP rfl (op_move rfl) ?_
            refine TL.opP rfl (op_extract rfl rfl) ?_
            refine TL.opP rfl (op_extract rfl rfl) ?_
            refine TL.opP rfl (op_assign rfl) ?_
            refine TL.opP rfl (op_assign rfl) ?_
            refine TL.nil ?_
            refine TQ.then ?_
            refine TC.seq ?_
            refine TC.region ?_   -- region 13 law.go:150
            refine TL.opP rfl (op_move rfl) ?_
            refine TL.opP rfl (op_move rfl) ?_
            refine TL.opP rfl (op_move rfl) ?_
            refine TL.opX rfl (OpX.callX en_22 rfl (merge_x x b b (by omega) (by omega) (by omega) m1)) ?_; rintro _ _ ⟨rfl, rfl⟩
            refine TL.opP rfl (op_move rfl) ?_
            refine TL.opP rfl (op_extract rfl rfl) ?_
            refine TL.opP rfl (op_extract rfl rfl) ?_
            refine TL.opP rfl (op_assign rfl) ?_
            refine TL.opP rfl (op_assign rfl) ?_
            refine TL.nil ?_
            refine TQ.then ?_
            refine TC.seq ?_
            refine TC.region ?_   -- region 14 law.go:151
            refine TL.opP rfl (op_move rfl) ?_
            refine TL.opP rfl (op_move rfl) ?_
            refine TL.opP rfl (op_eql rfl rfl) ?_
            refine TL.opP rfl (op_move rfl) ?_
            first | refine TL.splitD (fun c9 => ?_) (fun c9 => ?_) | refine TL.splitB (fun c9 => ?_) (fun c9 => ?_)
            · refine TL.gT rfl rfl ?_
              refine TL.opP rfl (op_move rfl) ?_
              refine TL.gT rfl rfl ?_
              refine TL.opP rfl (op_move rfl) ?_
              refine TL.gT rfl rfl ?_
              refine TL.opP rfl (op_eql rfl rfl) ?_
              refine TL.opP rfl (op_pickT rfl rfl) ?_
              refine TL.opP rfl (op_move rfl) ?_
              first | refine TL.splitD (fun c10 => ?_) (fun c10 => ?_) | refine TL.splitB (fun c10 => ?_) (fun c10 => ?_)
              · obtain ⟨lz1, lz2⟩ := long_z x b
                refine TL.gT rfl rfl ?_
                refine TL.opP rfl (op_move rfl) ?_
                refine TL.gT rfl rfl ?_
                refine TL.opP rfl (op_eql rfl rfl) ?_
                refine TL.gT rfl rfl ?_
                refine TL.opP rfl (op_move rfl) ?_
                first | refine TL.splitD (fun c11 => ?_) (fun c11 => ?_) | refine TL.splitB (fun c11 => ?_) (fun c11 => ?_)
                · refine TL.gFt rfl rfl rfl ?_
                  refine TL.gFt rfl rfl rfl ?_
                  refine TL.gFt rfl rfl rfl ?_
                  refine TL.gU rfl rfl rfl ?_
                  refine TL.gU rfl rfl rfl ?_
                  refine TL.gFt rfl rfl rfl ?_
                  refine TL.gT rfl rfl ?_
                  refine TL.opP rfl (op_pickT rfl rfl) ?_
                  refine TL.opP rfl (op_pickT rfl rfl) ?_
                  refine TL.opP rfl (op_move rfl) ?_
                  refine TL.gT rfl rfl ?_
                  refine TL.opP rfl (op_move rfl) ?_
                  refine TL.gT rfl rfl ?_
                  refine TL.opP rfl (op_move rfl) ?_
                  refine TL.gT rfl rfl ?_
                  refine TL.opP rfl (op_eql rfl rfl) ?_
                  refine TL.opP rfl (op_pickT rfl rfl) ?_
                  refine TL.opP rfl (op_move rfl) ?_
                  first | refine TL.splitD (fun c12 => ?_) (fun c12 => ?_) | refine TL.splitB (fun c12 => ?_) (fun c12 => ?_)
                  · refine TL.gT rfl rfl ?_
                    refine TL.callq rfl en_18 rfl (fun w2 hp => awake_calls w2 (tabs_at hp m1)) ?_
                    refine TL.opP rfl (op_pickT rfl rfl) ?_
                    refine TL.opP rfl (op_assign rfl) ?_
                    refine TL.nil ?_
                    refine TQ.then ?_
                    refine TC.ret ?_
                    refine ret1 rfl rfl (fun w' hp => ?_)
                    exact ⟨rfl, hp.kp⟩
                  · exact absurd lz1 c12
                · refine TL.gT rfl rfl ?_
                  refine TL.opP rfl (op_move rfl) ?_
                  refine TL.gT rfl rfl ?_
                  refine TL.opP rfl (op_eql rfl rfl) ?_
                  refine TL.gT rfl rfl ?_
                  refine TL.opP rfl (op_move rfl) ?_
                  first | refine TL.splitD (fun c13 => ?_) (fun c13 => ?_) | refine TL.splitB (fun c13 => ?_) (fun c13 => ?_)
                  · refine TL.gT rfl rfl ?_
                    refine TL.opP rfl (op_move rfl) ?_
                    refine TL.gT rfl rfl ?_
                    refine TL.opP rfl (op_seql rfl rfl) ?_
                    refine TL.gT rfl rfl ?_
                    refine TL.opP rfl (op_pickT rfl rfl) ?_
                    refine TL.gT rfl rfl ?_
                    refine TL.opP rfl (op_pickF rfl rfl) ?_
                    refine TL.opP rfl (op_pickT rfl rfl) ?_
                    refine TL.opP rfl (op_move rfl) ?_
                    first | refine TL.splitD (fun c14 => ?_) (fun c14 => ?_) | refine TL.splitB (fun c14 => ?_) (fun c14 => ?_)
                    · refine TL.gT rfl rfl ?_
                      refine TL.opP rfl (op_move rfl) ?_
                      refine TL.gT rfl rfl ?_
                      refine TL.opP rfl (op_move rfl) ?_
                      refine TL.gT rfl rfl ?_
                      refine TL.opP rfl (op_eql rfl rfl) ?_
                      refine TL.opP rfl (op_pickT rfl rfl) ?_
                      refine TL.opP rfl (op_move rfl) ?_
                      first | refine TL.splitD (fun c15 => ?_) (fun c15 => ?_) | refine TL.splitB (fun c15 => ?_) (fun c15 => ?_)
                      · refine TL.gT rfl rfl ?_
                        refine TL.callq rfl en_18 rfl (fun w2 hp => awake_calls w2 (tabs_at hp m1)) ?_
                        refine TL.opP rfl (op_pickT rfl rfl) ?_
                        refine TL.opP rfl (op_assign rfl) ?_
                        refine TL.nil ?_
                        refine TQ.then ?_
                        refine TC.ret ?_
                        refine ret1 rfl rfl (fun w' hp => ?_)
                        exact ⟨rfl, hp.kp⟩
                      · exact absurd lz1 c15
                    · exact absurd (lz2 c11).2 c14
                  · exact absurd (lz2 c11).1 c13
              · exact absurd rfl c10
            · exact absurd rfl c9

end Go.SK
