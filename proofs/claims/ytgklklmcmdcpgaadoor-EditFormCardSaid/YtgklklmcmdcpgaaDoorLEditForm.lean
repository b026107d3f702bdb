/- The law EditForm answers true. -/
import Derived.Test.YtgklklmcmdcpgaaDoorE12
set_option linter.unusedVariables false
set_option linter.unusedSimpArgs false
set_option maxRecDepth 100000
namespace Go.SK
open Go Go.RowKit Go.Proofs
variable {S : Nat → Prop} {w0 : World} {F L : List Res}
theorem editForm_law (a : List Part) (va : Value) (b : List Part) (vb : Value) {w : World} (ha : EditIn w va a) (hb : EditIn w vb b)  (hT : Tabs w) :
    Calls Tryd.prog 17 (List.toArray [va, vb]) w fun e' w' => e' = .returned (.bool true) ∧ Kp NoB w w' := by
  have ha1 := ha.rd.one
  have has := ha.small
  have hal := ha.len
  have hb1 := hb.rd.one
  have hbs := hb.small
  have hbl := hb.len
  refine calls_start Tryd.func17 rfl rfl rfl (Hp.i3 (r := tabs) (s := .rd va 3 a.length (encs a)) (t := .rd vb 3 b.length (encs b)) hT ha.rd hb.rd) ?_
  refine TC.seq ?_
  refine TC.region ?_   -- region 0 law.go:268
  refine TL.opP rfl (op_assign rfl) ?_
  refine TL.nil ?_
  refine TQ.then ?_
  refine TC.seq ?_
  refine TC.seq ?_
  refine TC.region ?_   -- region 1 law.go:269
  refine TL.opP rfl (op_move rfl) ?_
  refine TL.opP rfl (op_move rfl) ?_
  refine TL.opX rfl (OpX.buildSlice (ps := #[(0, _), (1, _)]) rfl (bs_sl_api_Part_2 _ _)) ?_; rintro _ _ ⟨g27, rfl, rfl⟩
  refine TL.hp (fun _ h => blk_row (k := 1) (m := 2) h rfl (by decide)) ?_
  refine TL.opX rfl (OpX.callX en_26 rfl (light_x [(va, a), (vb, b)] _ rw0 (by intro x hx; simp only [List.mem_cons, List.not_mem_nil, or_false] at hx; rcases hx with rfl | rfl <;> first | exact rd2 | exact rd3))) ?_; rintro _ _ ⟨b1, rfl, hb1, rfl⟩
  refine TL.opP rfl (op_not rfl rfl) ?_
  refine TL.nil ?_
  refine TQ.then ?_
  first | refine TC.condD rfl (fun c1 => ?_) (fun c1 => ?_) | refine TC.condB rfl (fun c1 => ?_) (fun c1 => ?_)
  · refine TC.seq ?_
    refine TC.region ?_   -- region 2 law.go:270
    refine TL.callq rfl en_20 rfl (fun w2 hp => awake_calls w2 (tabs_at hp m1)) ?_
    refine TL.opP rfl (op_assign rfl) ?_
    refine TL.nil ?_
    refine TQ.then ?_
    refine TC.ret ?_
    refine TQ.then_ret ?_
    refine ret1 rfl rfl (fun w' hp => ?_)
    exact ⟨rfl, hp.kp⟩
  · have haL : Light a := (hb1 (by simpa using c1)).1 (va, a) (by simp)
    have hbL : Light b := (hb1 (by simpa using c1)).1 (vb, b) (by simp)
    have ha2 : a.length ≤ 200 := haL
    have hb2 : b.length ≤ 200 := hbL
    have hab := compF_len a b
    refine TC.skip ?_
    refine TQ.then ?_
    refine TC.seq ?_
    refine TC.region ?_   -- region 3 law.go:272
    refine TL.opP rfl (op_move rfl) ?_
    refine TL.callq rfl en_27 rfl (fun w2 hp => size_calls (a) _ w2 (tabs_at hp m1) has (rd2 _ _ _ hp)) ?_
    refine TL.opP rfl (op_move rfl) ?_
    refine TL.opP rfl (op_extract rfl rfl) ?_
    refine TL.opP rfl (op_extract rfl rfl) ?_
    refine TL.opP rfl (op_extract rfl rfl) ?_
    refine TL.opP rfl (op_assign rfl) ?_
    refine TL.opP rfl (op_assign rfl) ?_
    refine TL.opP rfl (op_assign rfl) ?_
    refine TL.nil ?_
    refine TQ.then ?_
    refine TC.seq ?_
    refine TC.region ?_   -- region 4 law.go:273
    refine TL.opP rfl (op_move rfl) ?_
    refine TL.callq rfl en_27 rfl (fun w2 hp => size_calls (b) _ w2 (tabs_at hp m1) hbs (rd3 _ _ _ hp)) ?_
    refine TL.opP rfl (op_move rfl) ?_
    refine TL.opP rfl (op_extract rfl rfl) ?_
    refine TL.opP rfl (op_extract rfl rfl) ?_
    refine TL.opP rfl (op_extract rfl rfl) ?_
    refine TL.opP rfl (op_assign rfl) ?_
    refine TL.opP rfl (op_assign rfl) ?_
    refine TL.opP rfl (op_assign rfl) ?_
    refine TL.nil ?_
    refine TQ.then ?_
    refine TC.seq ?_
    refine TC.seq ?_
    refine TC.region ?_   -- region 5 law.go:274
    refine TL.opP rfl (op_move rfl) ?_
    refine TL.opP rfl (op_neq rfl rfl) ?_
    refine TL.opP rfl (op_move rfl) ?_
    first | refine TL.splitD (fun c2 => ?_) (fun c2 => ?_) | refine TL.splitB (fun c2 => ?_) (fun c2 => ?_)
    · refine TL.gFt rfl rfl rfl ?_
      refine TL.gFt rfl rfl rfl ?_
      refine TL.opP rfl (op_pickT rfl rfl) ?_
      refine TL.nil ?_
      refine TQ.then ?_
      refine TC.condT rfl ?_
      refine TC.seq ?_
      refine TC.region ?_   -- region 6 law.go:275
      refine TL.callq rfl en_20 rfl (fun w2 hp => awake_calls w2 (tabs_at hp m1)) ?_
      refine TL.opP rfl (op_assign rfl) ?_
      refine TL.nil ?_
      refine TQ.then ?_
      refine TC.ret ?_
      refine TQ.then_ret ?_
      refine ret1 rfl rfl (fun w' hp => ?_)
      exact ⟨rfl, hp.kp⟩
    · refine TL.gT rfl rfl ?_
      refine TL.opP rfl (op_move rfl) ?_
      refine TL.gT rfl rfl ?_
      refine TL.opP rfl (op_neq rfl rfl) ?_
      refine TL.opP rfl (op_pickF rfl rfl) ?_
      refine TL.nil ?_
      refine TQ.then ?_
      first | refine TC.condD rfl (fun c3 => ?_) (fun c3 => ?_) | refine TC.condB rfl (fun c3 => ?_) (fun c3 => ?_)
      · refine TC.seq ?_
        refine TC.region ?_   -- region 6 law.go:275
        refine TL.callq rfl en_20 rfl (fun w2 hp => awake_calls w2 (tabs_at hp m1)) ?_
        refine TL.opP rfl (op_assign rfl) ?_
        refine TL.nil ?_
        refine TQ.then ?_
        refine TC.ret ?_
        refine TQ.then_ret ?_
        refine ret1 rfl rfl (fun w' hp => ?_)
        exact ⟨rfl, hp.kp⟩
      · obtain ⟨l1, l2, l3, l4⟩ := form_z (a := a) (b := b) (by omega) (by omega)
        refine TC.skip ?_
        refine TQ.then ?_
        refine TC.join1 [(0, va), (1, vb), (5, .int .i64 (sizeF a).1), (6, .int .i64 (sizeF a).2), (8, .int .i64 (sizeF b).1), (9, .int .i64 (sizeF b).2)] ([tabs, .rd va 3 a.length (encs a), .rd vb 3 b.length (encs b)]) ?_ ?_
        · refine TC.seq ?_
          refine TC.region ?_   -- region 7 law.go:277
          refine TL.opP rfl (op_move rfl) ?_
          refine TL.opP rfl (op_move rfl) ?_
          refine TL.opX rfl (OpX.callX en_45 rfl (compose_x (a) (b) _ _ has hbs (by omega) (by omega) m1 rd2 rd3)) ?_; rintro _ _ ⟨w2, rfl, rfl⟩
          refine TL.opP rfl (op_move rfl) ?_
          refine TL.opP rfl (op_extract rfl rfl) ?_
          refine TL.opP rfl (op_extract rfl rfl) ?_
          refine TL.opP rfl (op_assign rfl) ?_
          refine TL.opP rfl (op_assign rfl) ?_
          refine TL.nil ?_
          refine TQ.then ?_
          refine TC.seq ?_
          refine TC.region ?_   -- region 8 law.go:277
          refine TL.opP rfl (op_move rfl) ?_
          refine TL.opP rfl (op_eql rfl rfl) ?_
          refine TL.nil ?_
          refine TQ.then ?_
          first | refine TC.condD rfl (fun c4 => ?_) (fun c4 => ?_) | refine TC.condB rfl (fun c4 => ?_) (fun c4 => ?_)
          · obtain ⟨hh1, hh2, hh3, hh4, hh5⟩ := l1 c4
            refine TC.seq ?_
            refine TC.region ?_   -- region 9 law.go:278
            refine TL.opP rfl (op_move rfl) ?_
            refine TL.callq rfl en_27 rfl (fun w2 hp => size_calls (compF a b) _ w2 (tabs_at hp m2) (small_of (compF_fits a b)) (rw0 _ _ _ hp)) ?_
            refine TL.opP rfl (op_move rfl) ?_
            refine TL.opP rfl (op_extract rfl rfl) ?_
            refine TL.opP rfl (op_extract rfl rfl) ?_
            refine TL.opP rfl (op_extract rfl rfl) ?_
            refine TL.opP rfl (op_assign rfl) ?_
            refine TL.opP rfl (op_assign rfl) ?_
            refine TL.opP rfl (op_assign rfl) ?_
            refine TL.nil ?_
            refine TQ.then ?_
            refine TC.seq ?_
            refine TC.region ?_   -- region 10 law.go:279
            refine TL.opP rfl (op_move rfl) ?_
            refine TL.opP rfl (op_neq rfl rfl) ?_
            refine TL.opP rfl (op_move rfl) ?_
            first | refine TL.splitD (fun c5 => ?_) (fun c5 => ?_) | refine TL.splitB (fun c5 => ?_) (fun c5 => ?_)
            · exact absurd c5 (by first | assumption | omega | (simp; done))
            · refine TL.gT rfl rfl ?_
              refine TL.opP rfl (op_move rfl) ?_
              refine TL.gT rfl rfl ?_
              refine TL.opP rfl (op_move rfl) ?_
              refine TL.gT rfl rfl ?_
              refine TL.opP rfl (op_neq rfl rfl) ?_
              refine TL.opP rfl (op_pickF rfl rfl) ?_
              refine TL.opP rfl (op_move rfl) ?_
              first | refine TL.splitD (fun c6 => ?_) (fun c6 => ?_) | refine TL.splitB (fun c6 => ?_) (fun c6 => ?_)
              · exact absurd c6 (by first | assumption | omega | (simp; done))
              · refine TL.gT rfl rfl ?_
                refine TL.opP rfl (op_move rfl) ?_
                refine TL.gT rfl rfl ?_
                refine TL.opP rfl (op_move rfl) ?_
                refine TL.gT rfl rfl ?_
                refine TL.opP rfl (op_neq rfl rfl) ?_
                refine TL.opP rfl (op_pickF rfl rfl) ?_
                refine TL.opP rfl (op_move rfl) ?_
                first | refine TL.splitD (fun c7 => ?_) (fun c7 => ?_) | refine TL.splitB (fun c7 => ?_) (fun c7 => ?_)
                · exact absurd c7 (by first | assumption | omega | (simp; done))
                · refine TL.gT rfl rfl ?_
                  refine TL.opP rfl (op_move rfl) ?_
                  refine TL.gT rfl rfl ?_
                  refine TL.opP rfl (op_move rfl) ?_
                  refine TL.gT rfl rfl ?_
                  refine TL.opP rfl (op_neq rfl rfl) ?_
                  refine TL.opP rfl (op_pickF rfl rfl) ?_
                  refine TL.opP rfl (op_move rfl) ?_
                  first | refine TL.splitD (fun c8 => ?_) (fun c8 => ?_) | refine TL.splitB (fun c8 => ?_) (fun c8 => ?_)
                  · exact absurd c8 (by first | assumption | omega | (simp; done))
                  · refine TL.gT rfl rfl ?_
                    refine TL.opP rfl (op_move rfl) ?_
                    refine TL.gT rfl rfl ?_
                    refine TL.opX rfl (OpX.callX en_42 rfl (norm_x (compF a b) _ (small_of (compF_fits a b)) (by omega) m2 rw0)) ?_; rintro w3 _ ⟨_, rfl, rfl⟩
                    refine TL.gT rfl rfl ?_
                    refine TL.opP rfl (op_move rfl) ?_
                    refine TL.gT rfl rfl ?_
                    refine TL.callq rfl en_24 rfl (fun w2 hp => rsame_calls (normF (compF a b)) (compF a b) _ _ w2 (rw0 _ _ _ hp) (rw1 _ _ _ hp)) ?_
                    refine TL.gT rfl rfl ?_
                    refine TL.opP rfl (op_not rfl rfl) ?_
                    refine TL.opP rfl (op_pickF rfl rfl) ?_
                    refine TL.nil ?_
                    refine TQ.then ?_
                    first | refine TC.condD rfl (fun c9 => ?_) (fun c9 => ?_) | refine TC.condB rfl (fun c9 => ?_) (fun c9 => ?_)
                    · exact absurd c9 (by simp [hh5])
                    · refine TC.skip ?_
                      exact TQ.join1 ⟨rfl, rfl, rfl, rfl, rfl, rfl, trivial⟩ (fun _ h => h.drop2.drop1.tail)
          · obtain ⟨hh1, hh2⟩ := l2 c4
            refine TC.seq ?_
            refine TC.region ?_   -- region 12 law.go:282
            refine TL.opP rfl (op_move rfl) ?_
            refine TL.opP rfl (op_neq rfl rfl) ?_
            refine TL.opP rfl (op_move rfl) ?_
            first | refine TL.splitD (fun c10 => ?_) (fun c10 => ?_) | refine TL.splitB (fun c10 => ?_) (fun c10 => ?_)
            · exact absurd c10 (by omega)
            · refine TL.gT rfl rfl ?_
              refine TL.opP rfl (op_move rfl) ?_
              refine TL.gT rfl rfl ?_
              refine TL.opP rfl (op_move rfl) ?_
              refine TL.gT rfl rfl ?_
              refine TL.opP rfl (op_eql rfl rfl) ?_
              refine TL.opP rfl (op_pickF rfl rfl) ?_
              refine TL.nil ?_
              refine TQ.then ?_
              first | refine TC.condD rfl (fun c11 => ?_) (fun c11 => ?_) | refine TC.condB rfl (fun c11 => ?_) (fun c11 => ?_)
              · exact absurd c11 (by omega)
              · refine TC.skip ?_
                exact TQ.join1 ⟨rfl, rfl, rfl, rfl, rfl, rfl, trivial⟩ (fun _ h => h.drop1.tail)
        · refine TC.seq ?_
          refine TC.region ?_   -- region 14 law.go:285
          refine TL.opP rfl (op_move rfl) ?_
          refine TL.opP rfl (op_move rfl) ?_
          refine TL.opX rfl (OpX.callX en_47 rfl (transform_x (a) (b) _ _ has hbs (by omega) (by omega) m0 rd1 rd2)) ?_; rintro _ _ ⟨v14, v24, rfl, rfl⟩
          refine TL.opP rfl (op_move rfl) ?_
          refine TL.opP rfl (op_extract rfl rfl) ?_
          refine TL.opP rfl (op_extract rfl rfl) ?_
          refine TL.opP rfl (op_extract rfl rfl) ?_
          refine TL.opP rfl (op_assign rfl) ?_
          refine TL.opP rfl (op_assign rfl) ?_
          refine TL.opP rfl (op_assign rfl) ?_
          refine TL.nil ?_
          refine TQ.then ?_
          refine TC.seq ?_
          refine TC.seq ?_
          refine TC.region ?_   -- region 15 law.go:286
          refine TL.opP rfl (op_move rfl) ?_
          refine TL.opP rfl (op_neq rfl rfl) ?_
          refine TL.nil ?_
          refine TQ.then ?_
          first | refine TC.condD rfl (fun c12 => ?_) (fun c12 => ?_) | refine TC.condB rfl (fun c12 => ?_) (fun c12 => ?_)
          · have hm12 := l3 c12
            refine TC.seq ?_
            refine TC.region ?_   -- region 16 law.go:287
            refine TL.opP rfl (op_move rfl) ?_
            refine TL.opP rfl (op_eql rfl rfl) ?_
            refine TL.opP rfl (op_move rfl) ?_
            refine TL.opP rfl (op_move rfl) ?_
            refine TL.opP rfl (op_neq rfl rfl) ?_
            refine TL.opP rfl (op_beql un_bool rfl rfl) ?_
            refine TL.opP rfl (op_move rfl) ?_
            first | refine TL.splitD (fun c13 => ?_) (fun c13 => ?_) | refine TL.splitB (fun c13 => ?_) (fun c13 => ?_)
            · refine TL.gT rfl rfl ?_
              refine TL.callq rfl en_20 rfl (fun w2 hp => awake_calls w2 (tabs_at hp m2)) ?_
              refine TL.opP rfl (op_pickT rfl rfl) ?_
              refine TL.opP rfl (op_assign rfl) ?_
              refine TL.nil ?_
              refine TQ.then ?_
              refine TC.ret ?_
              refine TQ.then_ret ?_
              refine ret1 rfl rfl (fun w' hp => ?_)
              exact ⟨rfl, hp.kp⟩
            · exact absurd hm12 c13
          · obtain ⟨hh1, hh2, hh3, hh4, hh5⟩ := l4 (by omega)
            refine TC.skip ?_
            refine TQ.then ?_
            refine TC.seq ?_
            refine TC.region ?_   -- region 17 law.go:289
            refine TL.opP rfl (op_move rfl) ?_
            refine TL.callq rfl en_27 rfl (fun w2 hp => size_calls (trF1 a b) _ w2 (tabs_at hp m2) (small_of (trF_fits a b).1) (rw0 _ _ _ hp)) ?_
            refine TL.opP rfl (op_move rfl) ?_
            refine TL.opP rfl (op_extract rfl rfl) ?_
            refine TL.opP rfl (op_extract rfl rfl) ?_
            refine TL.opP rfl (op_extract rfl rfl) ?_
            refine TL.opP rfl (op_assign rfl) ?_
            refine TL.opP rfl (op_assign rfl) ?_
            refine TL.opP rfl (op_assign rfl) ?_
            refine TL.nil ?_
            refine TQ.then ?_
            refine TC.seq ?_
            refine TC.region ?_   -- region 18 law.go:290
            refine TL.opP rfl (op_move rfl) ?_
            refine TL.callq rfl en_27 rfl (fun w2 hp => size_calls (trF2 a b) _ w2 (tabs_at hp m2) (small_of (trF_fits a b).2) (rw1 _ _ _ hp)) ?_
            refine TL.opP rfl (op_move rfl) ?_
            refine TL.opP rfl (op_extract rfl rfl) ?_
            refine TL.opP rfl (op_extract rfl rfl) ?_
            refine TL.opP rfl (op_extract rfl rfl) ?_
            refine TL.opP rfl (op_assign rfl) ?_
            refine TL.opP rfl (op_assign rfl) ?_
            refine TL.opP rfl (op_assign rfl) ?_
            refine TL.nil ?_
            refine TQ.then ?_
            refine TC.seq ?_
            refine TC.region ?_   -- region 19 law.go:291
            refine TL.opP rfl (op_move rfl) ?_
            refine TL.opP rfl (op_eql rfl rfl) ?_
            refine TL.opP rfl (op_move rfl) ?_
            first | refine TL.splitD (fun c14 => ?_) (fun c14 => ?_) | refine TL.splitB (fun c14 => ?_) (fun c14 => ?_)
            · refine TL.gT rfl rfl ?_
              refine TL.opP rfl (op_move rfl) ?_
              refine TL.gT rfl rfl ?_
              refine TL.opP rfl (op_eql rfl rfl) ?_
              refine TL.opP rfl (op_pickT rfl rfl) ?_
              refine TL.opP rfl (op_move rfl) ?_
              first | refine TL.splitD (fun c15 => ?_) (fun c15 => ?_) | refine TL.splitB (fun c15 => ?_) (fun c15 => ?_)
              · refine TL.gT rfl rfl ?_
                refine TL.opP rfl (op_move rfl) ?_
                refine TL.gT rfl rfl ?_
                refine TL.opP rfl (op_move rfl) ?_
                refine TL.gT rfl rfl ?_
                refine TL.opP rfl (op_eql rfl rfl) ?_
                refine TL.opP rfl (op_pickT rfl rfl) ?_
                refine TL.opP rfl (op_move rfl) ?_
                first | refine TL.splitD (fun c16 => ?_) (fun c16 => ?_) | refine TL.splitB (fun c16 => ?_) (fun c16 => ?_)
                · refine TL.gT rfl rfl ?_
                  refine TL.opP rfl (op_move rfl) ?_
                  refine TL.gT rfl rfl ?_
                  refine TL.opP rfl (op_move rfl) ?_
                  refine TL.gT rfl rfl ?_
                  refine TL.opP rfl (op_eql rfl rfl) ?_
                  refine TL.opP rfl (op_pickT rfl rfl) ?_
                  refine TL.opP rfl (op_move rfl) ?_
                  first | refine TL.splitD (fun c17 => ?_) (fun c17 => ?_) | refine TL.splitB (fun c17 => ?_) (fun c17 => ?_)
                  · refine TL.gT rfl rfl ?_
                    refine TL.opP rfl (op_move rfl) ?_
                    refine TL.gT rfl rfl ?_
                    refine TL.opP rfl (op_move rfl) ?_
                    refine TL.gT rfl rfl ?_
                    refine TL.opP rfl (op_eql rfl rfl) ?_
                    refine TL.opP rfl (op_pickT rfl rfl) ?_
                    refine TL.opP rfl (op_move rfl) ?_
                    first | refine TL.splitD (fun c18 => ?_) (fun c18 => ?_) | refine TL.splitB (fun c18 => ?_) (fun c18 => ?_)
                    · refine TL.gT rfl rfl ?_
                      refine TL.callq rfl en_20 rfl (fun w2 hp => awake_calls w2 (tabs_at hp m2)) ?_
                      refine TL.opP rfl (op_pickT rfl rfl) ?_
                      refine TL.opP rfl (op_assign rfl) ?_
                      refine TL.nil ?_
                      refine TQ.then ?_
                      refine TC.ret ?_
                      refine ret1 rfl rfl (fun w' hp => ?_)
                      exact ⟨rfl, hp.kp⟩
                    · exact absurd (by first | assumption | rfl | omega) c18
                  · exact absurd (by first | assumption | rfl | omega) c17
                · exact absurd (by first | assumption | rfl | omega) c16
              · exact absurd (by first | assumption | rfl | omega) c15
            · exact absurd (by first | assumption | rfl | omega) c14

end Go.SK
