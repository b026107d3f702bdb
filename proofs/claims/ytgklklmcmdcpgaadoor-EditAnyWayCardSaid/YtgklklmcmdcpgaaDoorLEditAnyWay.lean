/- The law EditAnyWay answers true. -/
import Derived.Test.YtgklklmcmdcpgaaDoorE12
set_option linter.unusedVariables false
set_option linter.unusedSimpArgs false
set_option maxRecDepth 100000
namespace Go.SK
open Go Go.RowKit Go.Proofs
variable {S : Nat → Prop} {w0 : World} {F L : List Res}
theorem editAnyWay_law (a : List Part) (va : Value) (b : List Part) (vb : Value) (c : List Part) (vc : Value) {w : World} (ha : EditIn w va a) (hb : EditIn w vb b) (hc : EditIn w vc c)  (hT : Tabs w) :
    Calls Tryd.prog 14 (List.toArray [va, vb, vc]) w fun e' w' => e' = .returned (.bool true) ∧ Kp NoB w w' := by
  have ha1 := ha.rd.one
  have has := ha.small
  have hal := ha.len
  have hb1 := hb.rd.one
  have hbs := hb.small
  have hbl := hb.len
  have hc1 := hc.rd.one
  have hcs := hc.small
  have hcl := hc.len
  refine calls_start Tryd.func14 rfl rfl rfl (Hp.i4 (r := tabs) (s := .rd va 3 a.length (encs a)) (t := .rd vb 3 b.length (encs b)) (u := .rd vc 3 c.length (encs c)) hT ha.rd hb.rd hc.rd) ?_
  refine TC.seq ?_
  refine TC.region ?_   -- region 0 law.go:193
  refine TL.opP rfl (op_assign rfl) ?_
  refine TL.nil ?_
  refine TQ.then ?_
  refine TC.seq ?_
  refine TC.seq ?_
  refine TC.region ?_   -- region 1 law.go:194
  refine TL.opP rfl (op_move rfl) ?_
  refine TL.opP rfl (op_move rfl) ?_
  refine TL.opP rfl (op_move rfl) ?_
  refine TL.opX rfl (OpX.buildSlice (ps := #[(0, _), (1, _), (2, _)]) rfl (bs_sl_api_Part_3 _ _ _)) ?_; rintro _ _ ⟨g18, rfl, rfl⟩
  refine TL.hp (fun _ h => blk_row (k := 1) (m := 3) h rfl (by decide)) ?_
  refine TL.opX rfl (OpX.callX en_38 rfl (narrow_x [(va, a), (vb, b), (vc, c)] _ rw0 (by intro x hx; simp only [List.mem_cons, List.not_mem_nil, or_false] at hx; rcases hx with rfl | rfl | rfl <;> first | exact rd2 | exact rd3 | exact rd4) (by intro x hx; simp only [List.mem_cons, List.not_mem_nil, or_false] at hx; rcases hx with rfl | rfl | rfl <;> first | exact has | exact hbs | exact hcs))) ?_; rintro _ _ ⟨b1, rfl, hb1, rfl⟩
  refine TL.opP rfl (op_not rfl rfl) ?_
  refine TL.nil ?_
  refine TQ.then ?_
  first | refine TC.condD rfl (fun c1 => ?_) (fun c1 => ?_) | refine TC.condB rfl (fun c1 => ?_) (fun c1 => ?_)
  · refine TC.seq ?_
    refine TC.region ?_   -- region 2 law.go:195
    refine TL.callq rfl en_20 rfl (fun w2 hp => awake_calls w2 (tabs_at hp m1)) ?_
    refine TL.opP rfl (op_assign rfl) ?_
    refine TL.nil ?_
    refine TQ.then ?_
    refine TC.ret ?_
    refine TQ.then_ret ?_
    refine ret1 rfl rfl (fun w' hp => ?_)
    exact ⟨rfl, hp.kp⟩
  · have haL : Light a ∧ Narrow a := hb1 (by simpa using c1) (va, a) (by simp)
    have ha2 : a.length ≤ 200 := haL.1
    have hbL : Light b ∧ Narrow b := hb1 (by simpa using c1) (vb, b) (by simp)
    have hb2 : b.length ≤ 200 := hbL.1
    have hcL : Light c ∧ Narrow c := hb1 (by simpa using c1) (vc, c) (by simp)
    have hc2 : c.length ≤ 200 := hcL.1
    have hab := compF_len a b
    have hbc := compF_len b c
    refine TC.skip ?_
    refine TQ.then ?_
    refine TC.seq ?_
    refine TC.region ?_   -- region 3 law.go:197
    refine TL.opP rfl (op_move rfl) ?_
    refine TL.opP rfl (op_move rfl) ?_
    refine TL.opX rfl (OpX.callX en_45 rfl (compose_x (a) (b) _ _ has hbs (by omega) (by omega) m1 rd2 rd3)) ?_; rintro _ _ ⟨w2, rfl, rfl⟩
    refine TL.opP rfl (op_move rfl) ?_
    refine TL.opP rfl (op_extract rfl rfl) ?_
    refine TL.opP rfl (op_extract rfl rfl) ?_
    refine TL.opP rfl (op_assign rfl) ?_
    refine TL.opP rfl (op_assign rfl) ?_
    refine TL.nil ?_
    refine TQ.then ?_
    refine TC.seq ?_
    refine TC.region ?_   -- region 4 law.go:198
    refine TL.opP rfl (op_move rfl) ?_
    refine TL.opP rfl (op_move rfl) ?_
    refine TL.opX rfl (OpX.callX en_45 rfl (compose_x (b) (c) _ _ hbs hcs (by omega) (by omega) m2 rd4 rd5)) ?_; rintro _ _ ⟨w3, rfl, rfl⟩
    refine TL.opP rfl (op_move rfl) ?_
    refine TL.opP rfl (op_extract rfl rfl) ?_
    refine TL.opP rfl (op_extract rfl rfl) ?_
    refine TL.opP rfl (op_assign rfl) ?_
    refine TL.opP rfl (op_assign rfl) ?_
    refine TL.nil ?_
    refine TQ.then ?_
    refine TC.seq ?_
    refine TC.seq ?_
    refine TC.region ?_   -- region 5 law.go:199
    refine TL.opP rfl (op_move rfl) ?_
    refine TL.opP rfl (op_neq rfl rfl) ?_
    refine TL.opP rfl (op_move rfl) ?_
    first | refine TL.splitD (fun c2 => ?_) (fun c2 => ?_) | refine TL.splitB (fun c2 => ?_) (fun c2 => ?_)
    · refine TL.gFt rfl rfl rfl ?_
      refine TL.gFt rfl rfl rfl ?_
      refine TL.opP rfl (op_pickT rfl rfl) ?_
      refine TL.nil ?_
      refine TQ.then ?_
      refine TC.condT rfl ?_
      refine TC.seq ?_
      refine TC.region ?_   -- region 6 law.go:200
      refine TL.callq rfl en_20 rfl (fun w2 hp => awake_calls w2 (tabs_at hp m3)) ?_
      refine TL.opP rfl (op_assign rfl) ?_
      refine TL.nil ?_
      refine TQ.then ?_
      refine TC.ret ?_
      refine TQ.then_ret ?_
      refine ret1 rfl rfl (fun w' hp => ?_)
      exact ⟨rfl, hp.kp⟩
    · refine TL.gT rfl rfl ?_
      refine TL.opP rfl (op_move rfl) ?_
      refine TL.gT rfl rfl ?_
      refine TL.opP rfl (op_neq rfl rfl) ?_
      refine TL.opP rfl (op_pickF rfl rfl) ?_
      refine TL.nil ?_
      refine TQ.then ?_
      first | refine TC.condD rfl (fun c3 => ?_) (fun c3 => ?_) | refine TC.condB rfl (fun c3 => ?_) (fun c3 => ?_)
      · refine TC.seq ?_
        refine TC.region ?_   -- region 6 law.go:200
        refine TL.callq rfl en_20 rfl (fun w2 hp => awake_calls w2 (tabs_at hp m3)) ?_
        refine TL.opP rfl (op_assign rfl) ?_
        refine TL.nil ?_
        refine TQ.then ?_
        refine TC.ret ?_
        refine TQ.then_ret ?_
        refine ret1 rfl rfl (fun w' hp => ?_)
        exact ⟨rfl, hp.kp⟩
      · obtain ⟨l1, l2, l3⟩ := anyway_z (a := a) (b := b) (c := c) (by omega) (by omega)
        refine TC.skip ?_
        refine TQ.then ?_
        refine TC.seq ?_
        refine TC.region ?_   -- region 7 law.go:202
        refine TL.opP rfl (op_move rfl) ?_
        refine TL.opP rfl (op_move rfl) ?_
        refine TL.opX rfl (OpX.callX en_45 rfl (compose_x (compF a b) (c) _ _ (small_of (compF_fits a b)) hcs (by omega) (by omega) m3 rw1 rd6)) ?_; rintro _ _ ⟨w4, rfl, rfl⟩
        refine TL.opP rfl (op_move rfl) ?_
        refine TL.opP rfl (op_extract rfl rfl) ?_
        refine TL.opP rfl (op_extract rfl rfl) ?_
        refine TL.opP rfl (op_assign rfl) ?_
        refine TL.opP rfl (op_assign rfl) ?_
        refine TL.nil ?_
        refine TQ.then ?_
        refine TC.seq ?_
        refine TC.region ?_   -- region 8 law.go:203
        refine TL.opP rfl (op_move rfl) ?_
        refine TL.opP rfl (op_move rfl) ?_
        refine TL.opX rfl (OpX.callX en_45 rfl (compose_x (a) (compF b c) _ _ has (small_of (compF_fits b c)) (by omega) (by omega) m4 rd5 rw1)) ?_; rintro _ _ ⟨w5, rfl, rfl⟩
        refine TL.opP rfl (op_move rfl) ?_
        refine TL.opP rfl (op_extract rfl rfl) ?_
        refine TL.opP rfl (op_extract rfl rfl) ?_
        refine TL.opP rfl (op_assign rfl) ?_
        refine TL.opP rfl (op_assign rfl) ?_
        refine TL.nil ?_
        refine TQ.then ?_
        refine TC.seq ?_
        refine TC.region ?_   -- region 9 law.go:204
        refine TL.opP rfl (op_move rfl) ?_
        refine TL.opP rfl (op_eql rfl rfl) ?_
        refine TL.opP rfl (op_move rfl) ?_
        first | refine TL.splitD (fun c4 => ?_) (fun c4 => ?_) | refine TL.splitB (fun c4 => ?_) (fun c4 => ?_)
        · refine TL.gT rfl rfl ?_
          refine TL.opP rfl (op_move rfl) ?_
          refine TL.gT rfl rfl ?_
          refine TL.opP rfl (op_eql rfl rfl) ?_
          refine TL.opP rfl (op_pickT rfl rfl) ?_
          refine TL.opP rfl (op_move rfl) ?_
          first | refine TL.splitD (fun c5 => ?_) (fun c5 => ?_) | refine TL.splitB (fun c5 => ?_) (fun c5 => ?_)
          · refine TL.gT rfl rfl ?_
            refine TL.opP rfl (op_move rfl) ?_
            refine TL.gT rfl rfl ?_
            refine TL.opP rfl (op_move rfl) ?_
            refine TL.gT rfl rfl ?_
            refine TL.callq rfl en_24 rfl (fun w2 hp => rsame_calls (compF (compF a b) c) (compF a (compF b c)) _ _ w2 (rw1 _ _ _ hp) (rw0 _ _ _ hp)) ?_
            refine TL.opP rfl (op_pickT rfl rfl) ?_
            refine TL.opP rfl (op_move rfl) ?_
            first | refine TL.splitD (fun c6 => ?_) (fun c6 => ?_) | refine TL.splitB (fun c6 => ?_) (fun c6 => ?_)
            · refine TL.gT rfl rfl ?_
              refine TL.callq rfl en_20 rfl (fun w2 hp => awake_calls w2 (tabs_at hp m5)) ?_
              refine TL.opP rfl (op_pickT rfl rfl) ?_
              refine TL.opP rfl (op_assign rfl) ?_
              refine TL.nil ?_
              refine TQ.then ?_
              refine TC.ret ?_
              refine ret1 rfl rfl (fun w' hp => ?_)
              exact ⟨rfl, hp.kp⟩
            · exact absurd (by first | assumption | rfl | omega) c6
          · exact absurd (by first | assumption | rfl | omega) c5
        · exact absurd (by first | assumption | rfl | omega) c4

end Go.SK
