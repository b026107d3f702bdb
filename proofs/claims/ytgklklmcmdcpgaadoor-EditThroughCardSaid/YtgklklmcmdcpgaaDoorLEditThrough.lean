/- The law EditThrough answers true. -/
import Derived.Test.YtgklklmcmdcpgaaDoorE12
set_option linter.unusedVariables false
set_option linter.unusedSimpArgs false
set_option maxRecDepth 100000
namespace Go.SK
open Go Go.RowKit Go.Proofs
variable {S : Nat → Prop} {w0 : World} {F L : List Res}
theorem editThrough_law (a : List Part) (va : Value) (b : List Part) (vb : Value) (c : List Part) (vc : Value) {w : World} (ha : EditIn w va a) (hb : EditIn w vb b) (hc : EditIn w vc c)  (hT : Tabs w) :
    Calls Tryd.prog 18 (List.toArray [va, vb, vc]) w fun e' w' => e' = .returned (.bool true) ∧ Kp NoB w w' := by
  have ha1 := ha.rd.one
  have has := ha.small
  have hal := ha.len
  have hb1 := hb.rd.one
  have hbs := hb.small
  have hbl := hb.len
  have hc1 := hc.rd.one
  have hcs := hc.small
  have hcl := hc.len
  refine calls_start Tryd.func18 rfl rfl rfl (Hp.i4 (r := tabs) (s := .rd va 3 a.length (encs a)) (t := .rd vb 3 b.length (encs b)) (u := .rd vc 3 c.length (encs c)) hT ha.rd hb.rd hc.rd) ?_
  refine TC.seq ?_
  refine TC.region ?_   -- region 0 law.go:208
  refine TL.opP rfl (op_assign rfl) ?_
  refine TL.nil ?_
  refine TQ.then ?_
  refine TC.seq ?_
  refine TC.seq ?_
  refine TC.region ?_   -- region 1 law.go:209
  refine TL.opP rfl (op_move rfl) ?_
  refine TL.opP rfl (op_move rfl) ?_
  refine TL.opP rfl (op_move rfl) ?_
  refine TL.opX rfl (OpX.buildSlice (ps := #[(0, _), (1, _), (2, _)]) rfl (bs_sl_api_Part_3 _ _ _)) ?_; rintro _ _ ⟨g29, rfl, rfl⟩
  refine TL.hp (fun _ h => blk_row (k := 1) (m := 3) h rfl (by decide)) ?_
  refine TL.opX rfl (OpX.callX en_38 rfl (narrow_x [(va, a), (vb, b), (vc, c)] _ rw0 (by intro x hx; simp only [List.mem_cons, List.not_mem_nil, or_false] at hx; rcases hx with rfl | rfl | rfl <;> first | exact rd2 | exact rd3 | exact rd4) (by intro x hx; simp only [List.mem_cons, List.not_mem_nil, or_false] at hx; rcases hx with rfl | rfl | rfl <;> first | exact has | exact hbs | exact hcs))) ?_; rintro _ _ ⟨b1, rfl, hb1, rfl⟩
  refine TL.opP rfl (op_not rfl rfl) ?_
  refine TL.nil ?_
  refine TQ.then ?_
  first | refine TC.condD rfl (fun c1 => ?_) (fun c1 => ?_) | refine TC.condB rfl (fun c1 => ?_) (fun c1 => ?_)
  · refine TC.seq ?_
    refine TC.region ?_   -- region 2 law.go:210
    refine TL.callq rfl en_20 rfl (fun w2 hp => awake_calls w2 (tabs_at hp m1)) ?_
    refine TL.opP rfl (op_assign rfl) ?_
    refine TL.nil ?_
    refine TQ.then ?_
    refine TC.ret ?_
    refine TQ.then_ret ?_
    refine ret1 rfl rfl (fun w' hp => ?_)
    exact ⟨rfl, hp.kp⟩
  · have haL : Light a ∧ Narrow a := hb1 (by simpa using c1) (va, a) (by simp)
    have ha2 : a.length ≤ 200 := haL.1
    have hbL : Light b ∧ Narrow b := hb1 (by simpa using c1) (vb, b) (by simp)
    have hb2 : b.length ≤ 200 := hbL.1
    have hcL : Light c ∧ Narrow c := hb1 (by simpa using c1) (vc, c) (by simp)
    have hc2 : c.length ≤ 200 := hcL.1
    have hbc := compF_len b c
    have hx := (trF_len a b).1
    have hy := (trF_len (trF1 a b) c).1
    have hz := (trF_len a (compF b c)).1
    refine TC.skip ?_
    refine TQ.then ?_
    refine TC.seq ?_
    refine TC.region ?_   -- region 3 law.go:212
    refine TL.opP rfl (op_move rfl) ?_
    refine TL.opP rfl (op_move rfl) ?_
    refine TL.opX rfl (OpX.callX en_45 rfl (compose_x (b) (c) _ _ hbs hcs (by omega) (by omega) m1 rd3 rd4)) ?_; rintro _ _ ⟨w2, rfl, rfl⟩
    refine TL.opP rfl (op_move rfl) ?_
    refine TL.opP rfl (op_extract rfl rfl) ?_
    refine TL.opP rfl (op_extract rfl rfl) ?_
    refine TL.opP rfl (op_assign rfl) ?_
    refine TL.opP rfl (op_assign rfl) ?_
    refine TL.nil ?_
    refine TQ.then ?_
    refine TC.seq ?_
    refine TC.region ?_   -- region 4 law.go:213
    refine TL.opP rfl (op_move rfl) ?_
    refine TL.opP rfl (op_move rfl) ?_
    refine TL.opX rfl (OpX.callX en_47 rfl (transform_x (a) (b) _ _ has hbs (by omega) (by omega) m2 rd3 rd4)) ?_; rintro _ _ ⟨v13, v23, rfl, rfl⟩
    refine TL.opP rfl (op_move rfl) ?_
    refine TL.opP rfl (op_extract rfl rfl) ?_
    refine TL.opP rfl (op_extract rfl rfl) ?_
    refine TL.opP rfl (op_extract rfl rfl) ?_
    refine TL.opP rfl (op_assign rfl) ?_
    refine TL.opP rfl (op_assign rfl) ?_
    refine TL.opP rfl (op_assign rfl) ?_
    refine TL.nil ?_
    refine TQ.then ?_
    refine TC.seq ?_
    refine TC.seq ?_
    refine TC.region ?_   -- region 5 law.go:214
    refine TL.opP rfl (op_move rfl) ?_
    refine TL.opP rfl (op_neq rfl rfl) ?_
    refine TL.opP rfl (op_move rfl) ?_
    first | refine TL.splitD (fun c2 => ?_) (fun c2 => ?_) | refine TL.splitB (fun c2 => ?_) (fun c2 => ?_)
    · refine TL.gFt rfl rfl rfl ?_
      refine TL.gFt rfl rfl rfl ?_
      refine TL.opP rfl (op_pickT rfl rfl) ?_
      refine TL.nil ?_
      refine TQ.then ?_
      refine TC.condT rfl ?_
      refine TC.seq ?_
      refine TC.region ?_   -- region 6 law.go:215
      refine TL.callq rfl en_20 rfl (fun w2 hp => awake_calls w2 (tabs_at hp m4)) ?_
      refine TL.opP rfl (op_assign rfl) ?_
      refine TL.nil ?_
      refine TQ.then ?_
      refine TC.ret ?_
      refine TQ.then_ret ?_
      refine ret1 rfl rfl (fun w' hp => ?_)
      exact ⟨rfl, hp.kp⟩
    · refine TL.gT rfl rfl ?_
      refine TL.opP rfl (op_move rfl) ?_
      refine TL.gT rfl rfl ?_
      refine TL.opP rfl (op_neq rfl rfl) ?_
      refine TL.opP rfl (op_pickF rfl rfl) ?_
      refine TL.nil ?_
      refine TQ.then ?_
      first | refine TC.condD rfl (fun c3 => ?_) (fun c3 => ?_) | refine TC.condB rfl (fun c3 => ?_) (fun c3 => ?_)
      · refine TC.seq ?_
        refine TC.region ?_   -- region 6 law.go:215
        refine TL.callq rfl en_20 rfl (fun w2 hp => awake_calls w2 (tabs_at hp m4)) ?_
        refine TL.opP rfl (op_assign rfl) ?_
        refine TL.nil ?_
        refine TQ.then ?_
        refine TC.ret ?_
        refine TQ.then_ret ?_
        refine ret1 rfl rfl (fun w' hp => ?_)
        exact ⟨rfl, hp.kp⟩
      · obtain ⟨l1, l2, l3, l4⟩ := through_z (a := a) (b := b) (c := c) (by omega) (by omega) haL.2 hbL.2 hcL.2
        refine TC.skip ?_
        refine TQ.then ?_
        refine TC.seq ?_
        refine TC.region ?_   -- region 7 law.go:217
        refine TL.opP rfl (op_move rfl) ?_
        refine TL.opP rfl (op_move rfl) ?_
        refine TL.opX rfl (OpX.callX en_47 rfl (transform_x (trF1 a b) (c) _ _ (small_of (trF_fits a b).1) hcs (by omega) (by omega) m4 rw0 rd7)) ?_; rintro _ _ ⟨v14, v24, rfl, rfl⟩
        refine TL.opP rfl (op_move rfl) ?_
        refine TL.opP rfl (op_extract rfl rfl) ?_
        refine TL.opP rfl (op_extract rfl rfl) ?_
        refine TL.opP rfl (op_extract rfl rfl) ?_
        refine TL.opP rfl (op_assign rfl) ?_
        refine TL.opP rfl (op_assign rfl) ?_
        refine TL.opP rfl (op_assign rfl) ?_
        refine TL.nil ?_
        refine TQ.then ?_
        refine TC.seq ?_
        refine TC.region ?_   -- region 8 law.go:218
        refine TL.opP rfl (op_move rfl) ?_
        refine TL.opP rfl (op_move rfl) ?_
        refine TL.opX rfl (OpX.callX en_47 rfl (transform_x (a) (compF b c) _ _ has (small_of (compF_fits b c)) (by omega) (by omega) m6 rd7 rw4)) ?_; rintro _ _ ⟨v15, v25, rfl, rfl⟩
        refine TL.opP rfl (op_move rfl) ?_
        refine TL.opP rfl (op_extract rfl rfl) ?_
        refine TL.opP rfl (op_extract rfl rfl) ?_
        refine TL.opP rfl (op_extract rfl rfl) ?_
        refine TL.opP rfl (op_assign rfl) ?_
        refine TL.opP rfl (op_assign rfl) ?_
        refine TL.opP rfl (op_assign rfl) ?_
        refine TL.nil ?_
        refine TQ.then ?_
        refine TC.seq ?_
        refine TC.seq ?_
        refine TC.region ?_   -- region 9 law.go:219
        refine TL.opP rfl (op_move rfl) ?_
        refine TL.opP rfl (op_neq rfl rfl) ?_
        refine TL.opP rfl (op_move rfl) ?_
        first | refine TL.splitD (fun c4 => ?_) (fun c4 => ?_) | refine TL.splitB (fun c4 => ?_) (fun c4 => ?_)
        · exact absurd c4 (by first | assumption | omega | (simp; done))
        · refine TL.gT rfl rfl ?_
          refine TL.opP rfl (op_move rfl) ?_
          refine TL.gT rfl rfl ?_
          refine TL.opP rfl (op_neq rfl rfl) ?_
          refine TL.opP rfl (op_pickF rfl rfl) ?_
          refine TL.nil ?_
          refine TQ.then ?_
          first | refine TC.condD rfl (fun c5 => ?_) (fun c5 => ?_) | refine TC.condB rfl (fun c5 => ?_) (fun c5 => ?_)
          · exact absurd c5 (by first | assumption | omega | (simp; done))
          · refine TC.skip ?_
            refine TQ.then ?_
            refine TC.seq ?_
            refine TC.region ?_   -- region 11 law.go:222
            refine TL.opP rfl (op_move rfl) ?_
            refine TL.callq rfl en_27 rfl (fun w2 hp => size_calls (trF1 a (compF b c)) _ w2 (tabs_at hp m8) (small_of (trF_fits _ _).1) (rw0 _ _ _ hp)) ?_
            refine TL.opP rfl (op_move rfl) ?_
            refine TL.opP rfl (op_extract rfl rfl) ?_
            refine TL.opP rfl (op_extract rfl rfl) ?_
            refine TL.opP rfl (op_extract rfl rfl) ?_
            refine TL.opP rfl (op_assign rfl) ?_
            refine TL.opP rfl (op_assign rfl) ?_
            refine TL.opP rfl (op_assign rfl) ?_
            refine TL.nil ?_
            refine TQ.then ?_
            refine TC.seq ?_
            refine TC.region ?_   -- region 12 law.go:223
            refine TL.opP rfl (op_move rfl) ?_
            refine TL.callq rfl en_27 rfl (fun w2 hp => size_calls (trF1 (trF1 a b) c) _ w2 (tabs_at hp m8) (small_of (trF_fits _ _).1) (rw2 _ _ _ hp)) ?_
            refine TL.opP rfl (op_move rfl) ?_
            refine TL.opP rfl (op_extract rfl rfl) ?_
            refine TL.opP rfl (op_extract rfl rfl) ?_
            refine TL.opP rfl (op_extract rfl rfl) ?_
            refine TL.opP rfl (op_assign rfl) ?_
            refine TL.opP rfl (op_assign rfl) ?_
            refine TL.opP rfl (op_assign rfl) ?_
            refine TL.nil ?_
            refine TQ.then ?_
            refine TC.seq ?_
            refine TC.region ?_   -- region 13 law.go:224
            refine TL.opP rfl (op_move rfl) ?_
            refine TL.callq rfl en_49 rfl (fun w2 hp => weightOf_calls (trF1 (trF1 a b) c) _ (by omega) w2 (tabs_at hp m8) (small_of (trF_fits _ _).1) (rw2 _ _ _ hp)) ?_
            refine TL.opP rfl (op_move rfl) ?_
            refine TL.callq rfl en_49 rfl (fun w2 hp => weightOf_calls (trF1 a (compF b c)) _ (by omega) w2 (tabs_at hp m8) (small_of (trF_fits _ _).1) (rw0 _ _ _ hp)) ?_
            refine TL.opX rfl (OpX.alloc tz_ar2_int rfl) ?_; rintro _ _ ⟨g24, rfl, rfl⟩
            refine TL.opX rfl (OpX.alloc tz_ar2_int rfl) ?_; rintro _ _ ⟨g25, rfl, rfl⟩
            refine TL.hp (fun _ h => h.pick1) ?_
            refine TL.opX0 (OpX.storeS tst_ar2_int rfl rfl rfl rfl rfl (List.all_eq_true.1 rfl)) ?_; rintro _ _ rfl
            refine TL.hp (fun _ h => h.pick1) ?_
            refine TL.opX0 (OpX.storeS tst_ar2_int rfl rfl rfl rfl rfl (List.all_eq_true.1 rfl)) ?_; rintro _ _ rfl
            refine TL.nil ?_
            refine TQ.then ?_
            refine TC.seq ?_
            refine TC.region ?_   -- region 14 law.go:225
            refine TL.opP rfl (op_move rfl) ?_
            refine TL.opP rfl (op_move rfl) ?_
            refine TL.opP rfl (op_eql rfl rfl) ?_
            refine TL.opP rfl (op_move rfl) ?_
            first | refine TL.splitD (fun c6 => ?_) (fun c6 => ?_) | refine TL.splitB (fun c6 => ?_) (fun c6 => ?_)
            · refine TL.gT rfl rfl ?_
              refine TL.opV rfl (op_loadS tst_ar2_int rfl m1 rfl) ?_
              refine TL.gT rfl rfl ?_
              refine TL.opV rfl (op_loadS tst_ar2_int rfl m0 rfl) ?_
              refine TL.gT rfl rfl ?_
              refine TL.opP rfl (op_aeq rfl rfl) ?_
              refine TL.opP rfl (op_pickT rfl rfl) ?_
              refine TL.opP rfl (op_move rfl) ?_
              first | refine TL.splitD (fun c7 => ?_) (fun c7 => ?_) | refine TL.splitB (fun c7 => ?_) (fun c7 => ?_)
              · refine TL.gT rfl rfl ?_
                refine TL.callq rfl en_20 rfl (fun w2 hp => awake_calls w2 (tabs_at hp m10)) ?_
                refine TL.opP rfl (op_pickT rfl rfl) ?_
                refine TL.opP rfl (op_assign rfl) ?_
                refine TL.nil ?_
                refine TQ.then ?_
                refine TC.ret ?_
                refine ret1 rfl rfl (fun w' hp => ?_)
                exact ⟨rfl, hp.kp⟩
              · exact absurd l4 c7
            · exact absurd l3 c6

end Go.SK
