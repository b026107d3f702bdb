/- The law EditDiamond answers true. -/
import Derived.Test.YtgklklmcmdcpgaaDoorE12
set_option linter.unusedVariables false
set_option linter.unusedSimpArgs false
set_option maxRecDepth 100000
namespace Go.SK
open Go Go.RowKit Go.Proofs
variable {S : Nat → Prop} {w0 : World} {F L : List Res}
theorem editDiamond_law (a : List Part) (va : Value) (b : List Part) (vb : Value) (s : ByteArray) {w : World} (ha : EditIn w va a) (hb : EditIn w vb b) (hss : s.size ≤ 140737488351232) (hT : Tabs w) :
    Calls Tryd.prog 11 (List.toArray [va, vb, .string s]) w fun e' w' => e' = .returned (.bool true) ∧ Kp NoB w w' := by
  have ha1 := ha.rd.one
  have has := ha.small
  have hal := ha.len
  have hb1 := hb.rd.one
  have hbs := hb.small
  have hbl := hb.len
  refine calls_start Tryd.func11 rfl rfl rfl (Hp.i3 (r := tabs) (s := .rd va 3 a.length (encs a)) (t := .rd vb 3 b.length (encs b)) hT ha.rd hb.rd) ?_
  refine TC.seq ?_
  refine TC.region ?_   -- region 0 law.go:146
  refine TL.opP rfl (op_assign rfl) ?_
  refine TL.nil ?_
  refine TQ.then ?_
  refine TC.seq ?_
  refine TC.seq ?_
  refine TC.region ?_   -- region 1 law.go:147
  refine TL.opP rfl (op_move rfl) ?_
  refine TL.opP rfl (op_move rfl) ?_
  refine TL.opX rfl (OpX.buildSlice (ps := #[(0, _), (1, _)]) rfl (bs_sl_api_Part_2 _ _)) ?_; rintro _ _ ⟨g24, rfl, rfl⟩
  refine TL.hp (fun _ h => blk_row (k := 1) (m := 2) h rfl (by decide)) ?_
  refine TL.opX rfl (OpX.callX en_26 rfl (light_x [(va, a), (vb, b)] _ rw0 (by intro x hx; simp only [List.mem_cons, List.not_mem_nil, or_false] at hx; rcases hx with rfl | rfl <;> first | exact rd2 | exact rd3))) ?_; rintro _ _ ⟨b1, rfl, hb1, rfl⟩
  refine TL.opP rfl (op_not rfl rfl) ?_
  refine TL.opP rfl (op_move rfl) ?_
  first | refine TL.splitD (fun c1 => ?_) (fun c1 => ?_) | refine TL.splitB (fun c1 => ?_) (fun c1 => ?_)
  · refine TL.gFt rfl rfl rfl ?_
    refine TL.gFt rfl rfl rfl ?_
    refine TL.gFt rfl rfl rfl ?_
    refine TL.opP rfl (op_pickT rfl rfl) ?_
    refine TL.nil ?_
    refine TQ.then ?_
    refine TC.condT rfl ?_
    refine TC.seq ?_
    refine TC.region ?_   -- region 2 law.go:148
    refine TL.callq rfl en_20 rfl (fun w2 hp => awake_calls w2 (tabs_at hp m1)) ?_
    refine TL.opP rfl (op_assign rfl) ?_
    refine TL.nil ?_
    refine TQ.then ?_
    refine TC.ret ?_
    refine TQ.then_ret ?_
    refine ret1 rfl rfl (fun w' hp => ?_)
    exact ⟨rfl, hp.kp⟩
  · have haL : Light a := (hb1 (by simpa using c1)).1 (va, a) (by simp)
    have hbL : Light b := (hb1 (by simpa using c1)).1 (vb, b) (by simp)
    have ha2 : a.length ≤ 200 := haL
    have hb2 : b.length ≤ 200 := hbL
    have hsum : tl a + tl b ≤ 4096 := by have := (hb1 (by simpa using c1)).2; simp only [lsum] at this; omega
    have htl := trF_len a b
    have hx1 := compF_len a (trF2 a b)
    have hx2 := compF_len b (trF1 a b)
    have hza := applyF_size a s
    have hzb := applyF_size b s
    refine TL.gT rfl rfl ?_
    refine TL.opP rfl (op_move rfl) ?_
    refine TL.gT rfl rfl ?_
    refine TL.opP rfl (op_slen rfl un_string rfl) ?_
    refine TL.gT rfl rfl ?_
    refine TL.opP rfl (op_gtr rfl rfl) ?_
    refine TL.opP rfl (op_pickF rfl rfl) ?_
    refine TL.nil ?_
    refine TQ.then ?_
    first | refine TC.condD rfl (fun c2 => ?_) (fun c2 => ?_) | refine TC.condB rfl (fun c2 => ?_) (fun c2 => ?_)
    · refine TC.seq ?_
      refine TC.region ?_   -- region 2 law.go:148
      refine TL.callq rfl en_20 rfl (fun w2 hp => awake_calls w2 (tabs_at hp m1)) ?_
      refine TL.opP rfl (op_assign rfl) ?_
      refine TL.nil ?_
      refine TQ.then ?_
      refine TC.ret ?_
      refine TQ.then_ret ?_
      refine ret1 rfl rfl (fun w' hp => ?_)
      exact ⟨rfl, hp.kp⟩
    · refine TC.skip ?_
      refine TQ.then ?_
      refine TC.seq ?_
      refine TC.region ?_   -- region 3 law.go:150
      refine TL.opP rfl (op_move rfl) ?_
      refine TL.opP rfl (op_move rfl) ?_
      refine TL.callq rfl en_34 rfl (fun w2 hp => apply_calls (a) (s) _ (by omega) w2 (tabs_at hp m1) has (rd2 _ _ _ hp)) ?_
      refine TL.opP rfl (op_move rfl) ?_
      refine TL.opP rfl (op_extract rfl rfl) ?_
      refine TL.opP rfl (op_extract rfl rfl) ?_
      refine TL.opP rfl (op_assign rfl) ?_
      refine TL.opP rfl (op_assign rfl) ?_
      refine TL.nil ?_
      refine TQ.then ?_
      refine TC.seq ?_
      refine TC.region ?_   -- region 4 law.go:151
      refine TL.opP rfl (op_move rfl) ?_
      refine TL.opP rfl (op_move rfl) ?_
      refine TL.callq rfl en_34 rfl (fun w2 hp => apply_calls (b) (s) _ (by omega) w2 (tabs_at hp m1) hbs (rd3 _ _ _ hp)) ?_
      refine TL.opP rfl (op_move rfl) ?_
      refine TL.opP rfl (op_extract rfl rfl) ?_
      refine TL.opP rfl (op_extract rfl rfl) ?_
      refine TL.opP rfl (op_assign rfl) ?_
      refine TL.opP rfl (op_assign rfl) ?_
      refine TL.nil ?_
      refine TQ.then ?_
      refine TC.seq ?_
      refine TC.seq ?_
      refine TC.region ?_   -- region 5 law.go:152
      refine TL.opP rfl (op_move rfl) ?_
      refine TL.opP rfl (op_neq rfl rfl) ?_
      refine TL.opP rfl (op_move rfl) ?_
      first | refine TL.splitD (fun c3 => ?_) (fun c3 => ?_) | refine TL.splitB (fun c3 => ?_) (fun c3 => ?_)
      · refine TL.gFt rfl rfl rfl ?_
        refine TL.gFt rfl rfl rfl ?_
        refine TL.opP rfl (op_pickT rfl rfl) ?_
        refine TL.nil ?_
        refine TQ.then ?_
        refine TC.condT rfl ?_
        refine TC.seq ?_
        refine TC.region ?_   -- region 6 law.go:153
        refine TL.callq rfl en_20 rfl (fun w2 hp => awake_calls w2 (tabs_at hp m1)) ?_
        refine TL.opP rfl (op_assign rfl) ?_
        refine TL.nil ?_
        refine TQ.then ?_
        refine TC.ret ?_
        refine TQ.then_ret ?_
        refine ret1 rfl rfl (fun w' hp => ?_)
        exact ⟨rfl, hp.kp⟩
      · refine TL.gT rfl rfl ?_
        refine TL.opP rfl (op_move rfl) ?_
        refine TL.gT rfl rfl ?_
        refine TL.opP rfl (op_neq rfl rfl) ?_
        refine TL.opP rfl (op_pickF rfl rfl) ?_
        refine TL.nil ?_
        refine TQ.then ?_
        first | refine TC.condD rfl (fun c4 => ?_) (fun c4 => ?_) | refine TC.condB rfl (fun c4 => ?_) (fun c4 => ?_)
        · refine TC.seq ?_
          refine TC.region ?_   -- region 6 law.go:153
          refine TL.callq rfl en_20 rfl (fun w2 hp => awake_calls w2 (tabs_at hp m1)) ?_
          refine TL.opP rfl (op_assign rfl) ?_
          refine TL.nil ?_
          refine TQ.then ?_
          refine TC.ret ?_
          refine TQ.then_ret ?_
          refine ret1 rfl rfl (fun w' hp => ?_)
          exact ⟨rfl, hp.kp⟩
        · obtain ⟨l1, l2, l3, l4, l5, l6, l7, l8, l9⟩ := diamond_z (a := a) (b := b) (s := s) (by omega) (by omega) (by omega) hsum
          refine TC.skip ?_
          refine TQ.then ?_
          refine TC.seq ?_
          refine TC.region ?_   -- region 7 law.go:155
          refine TL.opP rfl (op_move rfl) ?_
          refine TL.opP rfl (op_move rfl) ?_
          refine TL.opX rfl (OpX.callX en_47 rfl (transform_x (a) (b) _ _ has hbs (by omega) (by omega) m1 rd2 rd3)) ?_; rintro _ _ ⟨v12, v22, rfl, rfl⟩
          refine TL.opP rfl (op_move rfl) ?_
          refine TL.opP rfl (op_extract rfl rfl) ?_
          refine TL.opP rfl (op_extract rfl rfl) ?_
          refine TL.opP rfl (op_extract rfl rfl) ?_
          refine TL.opP rfl (op_assign rfl) ?_
          refine TL.opP rfl (op_assign rfl) ?_
          refine TL.opP rfl (op_assign rfl) ?_
          refine TL.nil ?_
          refine TQ.then ?_
          refine TC.seq ?_
          refine TC.region ?_   -- region 8 law.go:156
          refine TL.opP rfl (op_move rfl) ?_
          refine TL.opP rfl (op_move rfl) ?_
          refine TL.callq rfl en_34 rfl (fun w2 hp => apply_calls (trF2 a b) (applyF a s) _ (by omega) w2 (tabs_at hp m3) (small_of (trF_fits a b).2) (rw1 _ _ _ hp)) ?_
          refine TL.opP rfl (op_move rfl) ?_
          refine TL.opP rfl (op_extract rfl rfl) ?_
          refine TL.opP rfl (op_extract rfl rfl) ?_
          refine TL.opP rfl (op_assign rfl) ?_
          refine TL.opP rfl (op_assign rfl) ?_
          refine TL.nil ?_
          refine TQ.then ?_
          refine TC.seq ?_
          refine TC.region ?_   -- region 9 law.go:157
          refine TL.opP rfl (op_move rfl) ?_
          refine TL.opP rfl (op_move rfl) ?_
          refine TL.callq rfl en_34 rfl (fun w2 hp => apply_calls (trF1 a b) (applyF b s) _ (by omega) w2 (tabs_at hp m3) (small_of (trF_fits a b).1) (rw0 _ _ _ hp)) ?_
          refine TL.opP rfl (op_move rfl) ?_
          refine TL.opP rfl (op_extract rfl rfl) ?_
          refine TL.opP rfl (op_extract rfl rfl) ?_
          refine TL.opP rfl (op_assign rfl) ?_
          refine TL.opP rfl (op_assign rfl) ?_
          refine TL.nil ?_
          refine TQ.then ?_
          refine TC.seq ?_
          refine TC.region ?_   -- region 10 law.go:158
          refine TL.opP rfl (op_move rfl) ?_
          refine TL.opP rfl (op_move rfl) ?_
          refine TL.opX rfl (OpX.callX en_45 rfl (compose_x (a) (trF2 a b) _ _ has (small_of (trF_fits a b).2) (by omega) (by omega) m3 rd4 rw1)) ?_; rintro _ _ ⟨w3, rfl, rfl⟩
          refine TL.opP rfl (op_move rfl) ?_
          refine TL.opP rfl (op_extract rfl rfl) ?_
          refine TL.opP rfl (op_extract rfl rfl) ?_
          refine TL.opP rfl (op_assign rfl) ?_
          refine TL.opP rfl (op_assign rfl) ?_
          refine TL.nil ?_
          refine TQ.then ?_
          refine TC.seq ?_
          refine TC.region ?_   -- region 11 law.go:159
          refine TL.opP rfl (op_move rfl) ?_
          refine TL.opP rfl (op_move rfl) ?_
          refine TL.opX rfl (OpX.callX en_45 rfl (compose_x (b) (trF1 a b) _ _ hbs (small_of (trF_fits a b).1) (by omega) (by omega) m4 rd6 rw1)) ?_; rintro _ _ ⟨w4, rfl, rfl⟩
          refine TL.opP rfl (op_move rfl) ?_
          refine TL.opP rfl (op_extract rfl rfl) ?_
          refine TL.opP rfl (op_extract rfl rfl) ?_
          refine TL.opP rfl (op_assign rfl) ?_
          refine TL.opP rfl (op_assign rfl) ?_
          refine TL.nil ?_
          refine TQ.then ?_
          refine TC.seq ?_
          refine TC.region ?_   -- region 12 law.go:160
          refine TL.opP rfl (op_move rfl) ?_
          refine TL.opP rfl (op_eql rfl rfl) ?_
          refine TL.opP rfl (op_move rfl) ?_
          first | refine TL.splitD (fun c5 => ?_) (fun c5 => ?_) | refine TL.splitB (fun c5 => ?_) (fun c5 => ?_)
          · refine TL.gT rfl rfl ?_
            refine TL.opP rfl (op_move rfl) ?_
            refine TL.gT rfl rfl ?_
            refine TL.opP rfl (op_eql rfl rfl) ?_
            refine TL.opP rfl (op_pickT rfl rfl) ?_
            refine TL.opP rfl (op_move rfl) ?_
            first | refine TL.splitD (fun c6 => ?_) (fun c6 => ?_) | refine TL.splitB (fun c6 => ?_) (fun c6 => ?_)
            · refine TL.gT rfl rfl ?_
              refine TL.opP rfl (op_move rfl) ?_
              refine TL.gT rfl rfl ?_
              refine TL.opP rfl (op_eql rfl rfl) ?_
              refine TL.opP rfl (op_pickT rfl rfl) ?_
              refine TL.opP rfl (op_move rfl) ?_
              first | refine TL.splitD (fun c7 => ?_) (fun c7 => ?_) | refine TL.splitB (fun c7 => ?_) (fun c7 => ?_)
              · refine TL.gT rfl rfl ?_
                refine TL.opP rfl (op_move rfl) ?_
                refine TL.gT rfl rfl ?_
                refine TL.opP rfl (op_eql rfl rfl) ?_
                refine TL.opP rfl (op_pickT rfl rfl) ?_
                refine TL.opP rfl (op_move rfl) ?_
                first | refine TL.splitD (fun c8 => ?_) (fun c8 => ?_) | refine TL.splitB (fun c8 => ?_) (fun c8 => ?_)
                · refine TL.gT rfl rfl ?_
                  refine TL.opP rfl (op_move rfl) ?_
                  refine TL.gT rfl rfl ?_
                  refine TL.opP rfl (op_eql rfl rfl) ?_
                  refine TL.opP rfl (op_pickT rfl rfl) ?_
                  refine TL.opP rfl (op_move rfl) ?_
                  first | refine TL.splitD (fun c9 => ?_) (fun c9 => ?_) | refine TL.splitB (fun c9 => ?_) (fun c9 => ?_)
                  · refine TL.gT rfl rfl ?_
                    refine TL.opP rfl (op_move rfl) ?_
                    refine TL.gT rfl rfl ?_
                    refine TL.opP rfl (op_move rfl) ?_
                    refine TL.gT rfl rfl ?_
                    refine TL.opP rfl (op_seql rfl rfl) ?_
                    refine TL.opP rfl (op_pickT rfl rfl) ?_
                    refine TL.opP rfl (op_move rfl) ?_
                    first | refine TL.splitD (fun c10 => ?_) (fun c10 => ?_) | refine TL.splitB (fun c10 => ?_) (fun c10 => ?_)
                    · refine TL.gT rfl rfl ?_
                      refine TL.opP rfl (op_move rfl) ?_
                      refine TL.gT rfl rfl ?_
                      refine TL.opP rfl (op_move rfl) ?_
                      refine TL.gT rfl rfl ?_
                      refine TL.callq rfl en_24 rfl (fun w2 hp => rsame_calls (compF a (trF2 a b)) (compF b (trF1 a b)) _ _ w2 (rw1 _ _ _ hp) (rw0 _ _ _ hp)) ?_
                      refine TL.opP rfl (op_pickT rfl rfl) ?_
                      refine TL.opP rfl (op_move rfl) ?_
                      first | refine TL.splitD (fun c11 => ?_) (fun c11 => ?_) | refine TL.splitB (fun c11 => ?_) (fun c11 => ?_)
                      · refine TL.gT rfl rfl ?_
                        refine TL.opP rfl (op_move rfl) ?_
                        refine TL.gT rfl rfl ?_
                        refine TL.opP rfl (op_move rfl) ?_
                        refine TL.gT rfl rfl ?_
                        refine TL.callq rfl en_48 rfl (fun w2 hp => rcount_calls _ _ (by omega)) ?_
                        refine TL.gT rfl rfl ?_
                        refine TL.callq rfl en_25 rfl (fun w2 hp => check_calls (compF a (trF2 a b)) _ _ w2 (tabs_at hp m5) (small_of (compF_fits _ _)) (rw1 _ _ _ hp)) ?_
                        refine TL.gT rfl rfl ?_
                        refine TL.opP rfl (op_eql rfl rfl) ?_
                        refine TL.opP rfl (op_pickT rfl rfl) ?_
                        refine TL.opP rfl (op_move rfl) ?_
                        first | refine TL.splitD (fun c12 => ?_) (fun c12 => ?_) | refine TL.splitB (fun c12 => ?_) (fun c12 => ?_)
                        · refine TL.gT rfl rfl ?_
                          refine TL.opP rfl (op_move rfl) ?_
                          refine TL.gT rfl rfl ?_
                          refine TL.opP rfl (op_move rfl) ?_
                          refine TL.gT rfl rfl ?_
                          refine TL.callq rfl en_48 rfl (fun w2 hp => rcount_calls _ _ (by omega)) ?_
                          refine TL.gT rfl rfl ?_
                          refine TL.callq rfl en_25 rfl (fun w2 hp => check_calls (compF b (trF1 a b)) _ _ w2 (tabs_at hp m5) (small_of (compF_fits _ _)) (rw0 _ _ _ hp)) ?_
                          refine TL.gT rfl rfl ?_
                          refine TL.opP rfl (op_eql rfl rfl) ?_
                          refine TL.opP rfl (op_pickT rfl rfl) ?_
                          refine TL.opP rfl (op_move rfl) ?_
                          first | refine TL.splitD (fun c13 => ?_) (fun c13 => ?_) | refine TL.splitB (fun c13 => ?_) (fun c13 => ?_)
                          · refine TL.gT rfl rfl ?_
                            refine TL.callq rfl en_20 rfl (fun w2 hp => awake_calls w2 (tabs_at hp m5)) ?_
                            refine TL.opP rfl (op_pickT rfl rfl) ?_
                            refine TL.opP rfl (op_assign rfl) ?_
                            refine TL.nil ?_
                            refine TQ.then ?_
                            refine TC.ret ?_
                            refine ret1 rfl rfl (fun w' hp => ?_)
                            exact ⟨rfl, hp.kp⟩
                          · exact absurd (by first | assumption | rfl | omega) c13
                        · exact absurd (by first | assumption | rfl | omega) c12
                      · exact absurd (by first | assumption | rfl | omega) c11
                    · exact absurd (by first | assumption | rfl | omega) c10
                  · exact absurd (by first | assumption | rfl | omega) c9
                · exact absurd (by first | assumption | rfl | omega) c8
              · exact absurd (by first | assumption | rfl | omega) c7
            · exact absurd (by first | assumption | rfl | omega) c6
          · exact absurd (by first | assumption | rfl | omega) c5

end Go.SK
