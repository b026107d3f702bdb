/- The law EditGo answers true. -/
import Derived.Test.YtgklklmcmdcpgaaDoorE12
set_option linter.unusedVariables false
set_option linter.unusedSimpArgs false
set_option maxRecDepth 100000
namespace Go.SK
open Go Go.RowKit Go.Proofs
variable {S : Nat → Prop} {w0 : World} {F L : List Res}
theorem editGo_law (a : List Part) (va : Value) (b : List Part) (vb : Value) (i : Int) (ah : Bool) {w : World} (ha : EditIn w va a) (hb : EditIn w vb b)  (hT : Tabs w) :
    Calls Tryd.prog 19 (List.toArray [va, vb, .int .i64 i, .bool ah]) w fun e' w' => e' = .returned (.bool true) ∧ Kp NoB w w' := by
  have ha1 := ha.rd.one
  have has := ha.small
  have hal := ha.len
  have hb1 := hb.rd.one
  have hbs := hb.small
  have hbl := hb.len
  refine calls_start Tryd.func19 rfl rfl rfl (Hp.i3 (r := tabs) (s := .rd va 3 a.length (encs a)) (t := .rd vb 3 b.length (encs b)) hT ha.rd hb.rd) ?_
  refine TC.seq ?_
  refine TC.region ?_   -- region 0 law.go:311
  refine TL.opP rfl (op_assign rfl) ?_
  refine TL.nil ?_
  refine TQ.then ?_
  refine TC.seq ?_
  refine TC.seq ?_
  refine TC.region ?_   -- region 1 law.go:312
  refine TL.opP rfl (op_move rfl) ?_
  refine TL.opP rfl (op_move rfl) ?_
  refine TL.opX rfl (OpX.buildSlice (ps := #[(0, _), (1, _)]) rfl (bs_sl_api_Part_2 _ _)) ?_; rintro _ _ ⟨g19, rfl, rfl⟩
  refine TL.hp (fun _ h => blk_row (k := 1) (m := 2) h rfl (by decide)) ?_
  refine TL.opX rfl (OpX.callX en_38 rfl (narrow_x [(va, a), (vb, b)] _ rw0 (by intro x hx; simp only [List.mem_cons, List.not_mem_nil, or_false] at hx; rcases hx with rfl | rfl <;> first | exact rd2 | exact rd3) (by intro x hx; simp only [List.mem_cons, List.not_mem_nil, or_false] at hx; rcases hx with rfl | rfl <;> first | exact has | exact hbs))) ?_; rintro _ _ ⟨b1, rfl, hb1, rfl⟩
  refine TL.opP rfl (op_not rfl rfl) ?_
  refine TL.nil ?_
  refine TQ.then ?_
  first | refine TC.condD rfl (fun c1 => ?_) (fun c1 => ?_) | refine TC.condB rfl (fun c1 => ?_) (fun c1 => ?_)
  · refine TC.seq ?_
    refine TC.region ?_   -- region 2 law.go:313
    refine TL.callq rfl en_20 rfl (fun w2 hp => awake_calls w2 (tabs_at hp m1)) ?_
    refine TL.opP rfl (op_assign rfl) ?_
    refine TL.nil ?_
    refine TQ.then ?_
    refine TC.ret ?_
    refine TQ.then_ret ?_
    refine ret1 rfl rfl (fun w' hp => ?_)
    exact ⟨rfl, hp.kp⟩
  · have haL : Light a ∧ Narrow a := hb1 (by simpa using c1) (va, a) (by simp)
    have ha2 : a.length ≤ 200 := haL.1
    have hbL : Light b ∧ Narrow b := hb1 (by simpa using c1) (vb, b) (by simp)
    have hb2 : b.length ≤ 200 := hbL.1
    have hab := compF_len a b
    refine TC.skip ?_
    refine TQ.then ?_
    refine TC.seq ?_
    refine TC.region ?_   -- region 3 law.go:315
    refine TL.opP rfl (op_move rfl) ?_
    refine TL.opP rfl (op_move rfl) ?_
    refine TL.opX rfl (OpX.callX en_45 rfl (compose_x (a) (b) _ _ has hbs (by omega) (by omega) m1 rd2 rd3)) ?_; rintro _ _ ⟨w2, rfl, rfl⟩
    refine TL.opP rfl (op_move rfl) ?_
    refine TL.opP rfl (op_extract rfl rfl) ?_
    refine TL.opP rfl (op_extract rfl rfl) ?_
    refine TL.opP rfl (op_assign rfl) ?_
    refine TL.opP rfl (op_assign rfl) ?_
    refine TL.nil ?_
    refine TQ.then ?_
    refine TC.seq ?_
    refine TC.seq ?_
    refine TC.region ?_   -- region 4 law.go:316
    refine TL.opP rfl (op_move rfl) ?_
    refine TL.opP rfl (op_neq rfl rfl) ?_
    refine TL.nil ?_
    refine TQ.then ?_
    first | refine TC.condD rfl (fun c2 => ?_) (fun c2 => ?_) | refine TC.condB rfl (fun c2 => ?_) (fun c2 => ?_)
    · refine TC.seq ?_
      refine TC.region ?_   -- region 5 law.go:317
      refine TL.callq rfl en_20 rfl (fun w2 hp => awake_calls w2 (tabs_at hp m2)) ?_
      refine TL.opP rfl (op_assign rfl) ?_
      refine TL.nil ?_
      refine TQ.then ?_
      refine TC.ret ?_
      refine TQ.then_ret ?_
      refine ret1 rfl rfl (fun w' hp => ?_)
      exact ⟨rfl, hp.kp⟩
    · refine TC.skip ?_
      refine TQ.then ?_
      refine TC.seq ?_
      refine TC.region ?_   -- region 6 law.go:319
      refine TL.opP rfl (op_move rfl) ?_
      refine TL.opP rfl (op_move rfl) ?_
      refine TL.opP rfl (op_move rfl) ?_
      refine TL.callq rfl en_39 rfl (fun w2 hp => cursor_calls (a) _ _ _ w2 (tabs_at hp m2) has (rd3 _ _ _ hp)) ?_
      refine TL.opP rfl (op_move rfl) ?_
      refine TL.opP rfl (op_extract rfl rfl) ?_
      refine TL.opP rfl (op_extract rfl rfl) ?_
      refine TL.opP rfl (op_assign rfl) ?_
      refine TL.opP rfl (op_assign rfl) ?_
      refine TL.nil ?_
      refine TQ.then ?_
      refine TC.seq ?_
      refine TC.seq ?_
      refine TC.region ?_   -- region 7 law.go:320
      refine TL.opP rfl (op_move rfl) ?_
      refine TL.opP rfl (op_neq rfl rfl) ?_
      refine TL.nil ?_
      refine TQ.then ?_
      first | refine TC.condD rfl (fun c3 => ?_) (fun c3 => ?_) | refine TC.condB rfl (fun c3 => ?_) (fun c3 => ?_)
      · refine TC.seq ?_
        refine TC.region ?_   -- region 8 law.go:321
        refine TL.callq rfl en_20 rfl (fun w2 hp => awake_calls w2 (tabs_at hp m2)) ?_
        refine TL.opP rfl (op_assign rfl) ?_
        refine TL.nil ?_
        refine TQ.then ?_
        refine TC.ret ?_
        refine TQ.then_ret ?_
        refine ret1 rfl rfl (fun w' hp => ?_)
        exact ⟨rfl, hp.kp⟩
      · obtain ⟨l1, l2, l3, l4, l5, l6, l7⟩ := go_z (a := a) (b := b) (i := i) (ah := ah) (by omega) (by omega)
        refine TC.skip ?_
        refine TQ.then ?_
        refine TC.seq ?_
        refine TC.region ?_   -- region 9 law.go:323
        refine TL.opP rfl (op_move rfl) ?_
        refine TL.opP rfl (op_move rfl) ?_
        refine TL.opP rfl (op_move rfl) ?_
        refine TL.callq rfl en_39 rfl (fun w2 hp => cursor_calls (b) _ _ _ w2 (tabs_at hp m2) hbs (rd4 _ _ _ hp)) ?_
        refine TL.opP rfl (op_move rfl) ?_
        refine TL.opP rfl (op_extract rfl rfl) ?_
        refine TL.opP rfl (op_extract rfl rfl) ?_
        refine TL.opP rfl (op_assign rfl) ?_
        refine TL.opP rfl (op_assign rfl) ?_
        refine TL.nil ?_
        refine TQ.then ?_
        refine TC.seq ?_
        refine TC.region ?_   -- region 10 law.go:324
        refine TL.opP rfl (op_move rfl) ?_
        refine TL.opP rfl (op_move rfl) ?_
        refine TL.opP rfl (op_move rfl) ?_
        refine TL.callq rfl en_39 rfl (fun w2 hp => cursor_calls (compF a b) _ _ _ w2 (tabs_at hp m2) (small_of (compF_fits a b)) (rw0 _ _ _ hp)) ?_
        refine TL.opP rfl (op_move rfl) ?_
        refine TL.opP rfl (op_extract rfl rfl) ?_
        refine TL.opP rfl (op_extract rfl rfl) ?_
        refine TL.opP rfl (op_assign rfl) ?_
        refine TL.opP rfl (op_assign rfl) ?_
        refine TL.nil ?_
        refine TQ.then ?_
        refine TC.seq ?_
        refine TC.seq ?_
        refine TC.region ?_   -- region 11 law.go:325
        refine TL.opP rfl (op_move rfl) ?_
        refine TL.opP rfl (op_neq rfl rfl) ?_
        refine TL.opP rfl (op_move rfl) ?_
        first | refine TL.splitD (fun c4 => ?_) (fun c4 => ?_) | refine TL.splitB (fun c4 => ?_) (fun c4 => ?_)
        · exact absurd c4 (by first | assumption | omega | (simp; done))
        · refine TL.gT rfl rfl ?_
          refine TL.opP rfl (op_move rfl) ?_
          refine TL.gT rfl rfl ?_
          refine TL.opP rfl (op_neq rfl rfl) ?_
          refine TL.opP rfl (op_pickF rfl rfl) ?_
          refine TL.nil ?_
          refine TQ.then ?_
          first | refine TC.condD rfl (fun c5 => ?_) (fun c5 => ?_) | refine TC.condB rfl (fun c5 => ?_) (fun c5 => ?_)
          · exact absurd c5 (by first | assumption | omega | (simp; done))
          · refine TC.skip ?_
            refine TQ.then ?_
            refine TC.seq ?_
            refine TC.seq ?_
            refine TC.region ?_   -- region 13 law.go:328
            refine TL.opP rfl (op_move rfl) ?_
            refine TL.callq rfl en_49 rfl (fun w2 hp => weightOf_calls a _ (by omega) w2 (tabs_at hp m2) has (rd3 _ _ _ hp)) ?_
            refine TL.opP rfl (op_aindex rfl) ?_
            refine TL.opP rfl (op_move rfl) ?_
            refine TL.callq rfl en_49 rfl (fun w2 hp => weightOf_calls b _ (by omega) w2 (tabs_at hp m2) hbs (rd4 _ _ _ hp)) ?_
            refine TL.opP rfl (op_aindex rfl) ?_
            refine TL.opP rfl (op_add rfl rfl rfl (by omega) (by omega)) ?_
            refine TL.opP rfl (op_gtr rfl rfl) ?_
            refine TL.nil ?_
            refine TQ.then ?_
            first | refine TC.condD rfl (fun c6 => ?_) (fun c6 => ?_) | refine TC.condB rfl (fun c6 => ?_) (fun c6 => ?_)
            · refine TC.seq ?_
              refine TC.region ?_   -- region 14 law.go:329
              refine TL.callq rfl en_20 rfl (fun w2 hp => awake_calls w2 (tabs_at hp m2)) ?_
              refine TL.opP rfl (op_assign rfl) ?_
              refine TL.nil ?_
              refine TQ.then ?_
              refine TC.ret ?_
              refine TQ.then_ret ?_
              refine ret1 rfl rfl (fun w' hp => ?_)
              exact ⟨rfl, hp.kp⟩
            · refine TC.skip ?_
              refine TQ.then ?_
              refine TC.seq ?_
              refine TC.region ?_   -- region 15 law.go:331
              refine TL.opP rfl (op_move rfl) ?_
              refine TL.opP rfl (op_move rfl) ?_
              refine TL.opP rfl (op_eql rfl rfl) ?_
              refine TL.opP rfl (op_move rfl) ?_
              first | refine TL.splitD (fun c7 => ?_) (fun c7 => ?_) | refine TL.splitB (fun c7 => ?_) (fun c7 => ?_)
              · refine TL.gT rfl rfl ?_
                refine TL.callq rfl en_20 rfl (fun w2 hp => awake_calls w2 (tabs_at hp m2)) ?_
                refine TL.opP rfl (op_pickT rfl rfl) ?_
                refine TL.opP rfl (op_assign rfl) ?_
                refine TL.nil ?_
                refine TQ.then ?_
                refine TC.ret ?_
                refine ret1 rfl rfl (fun w' hp => ?_)
                exact ⟨rfl, hp.kp⟩
              · exact absurd (l7 c6) c7

end Go.SK
