/- The law EditOrder answers true. -/
import Derived.Test.YtgklklmcmdcpgaaDoorE12
set_option linter.unusedVariables false
set_option linter.unusedSimpArgs false
set_option maxRecDepth 100000
namespace Go.SK
open Go Go.RowKit Go.Proofs
variable {S : Nat → Prop} {w0 : World} {F L : List Res}
theorem editOrder_law (e : List Part) (v : Value) (i k : Int) {w : World} (he : EditIn w v e)  (hT : Tabs w) :
    Calls Tryd.prog 15 (List.toArray [v, .int .i64 i, .int .i64 k]) w fun e' w' => e' = .returned (.bool true) ∧ Kp NoB w w' := by
  have he1 := he.rd.one
  have hes := he.small
  have hel := he.len
  refine calls_start Tryd.func15 rfl rfl rfl (Hp.i2 (r := tabs) (s := .rd v 3 e.length (encs e)) hT he.rd) ?_
  refine TC.seq ?_
  refine TC.region ?_   -- region 0 law.go:295
  refine TL.opP rfl (op_assign rfl) ?_
  refine TL.nil ?_
  refine TQ.then ?_
  refine TC.seq ?_
  refine TC.seq ?_
  refine TC.region ?_   -- region 1 law.go:296
  refine TL.opP rfl (op_move rfl) ?_
  refine TL.opX rfl (OpX.buildSlice (ps := #[(0, _)]) rfl (bs_sl_api_Part_1 _)) ?_; rintro _ _ ⟨g17, rfl, rfl⟩
  refine TL.hp (fun _ h => blk_row (k := 1) (m := 1) h rfl (by decide)) ?_
  refine TL.opX rfl (OpX.callX en_26 rfl (light_x [(v, e)] _ rw0 (by intro x hx; simp only [List.mem_cons, List.not_mem_nil, or_false] at hx; rcases hx with rfl <;> first | exact rd2))) ?_; rintro _ _ ⟨b1, rfl, hb1, rfl⟩
  refine TL.opP rfl (op_not rfl rfl) ?_
  refine TL.nil ?_
  refine TQ.then ?_
  first | refine TC.condD rfl (fun c1 => ?_) (fun c1 => ?_) | refine TC.condB rfl (fun c1 => ?_) (fun c1 => ?_)
  · refine TC.seq ?_
    refine TC.region ?_   -- region 2 law.go:297
    refine TL.callq rfl en_20 rfl (fun w2 hp => awake_calls w2 (tabs_at hp m1)) ?_
    refine TL.opP rfl (op_assign rfl) ?_
    refine TL.nil ?_
    refine TQ.then ?_
    refine TC.ret ?_
    refine TQ.then_ret ?_
    refine ret1 rfl rfl (fun w' hp => ?_)
    exact ⟨rfl, hp.kp⟩
  · have heL : Light e := (hb1 (by simpa using c1)).1 (v, e) (by simp)
    have he2 : e.length ≤ 200 := heL
    refine TC.skip ?_
    refine TQ.then ?_
    refine TC.seq ?_
    refine TC.region ?_   -- region 3 law.go:299
    refine TL.opP rfl (op_move rfl) ?_
    refine TL.callq rfl en_27 rfl (fun w2 hp => size_calls (e) _ w2 (tabs_at hp m1) hes (rd2 _ _ _ hp)) ?_
    refine TL.opP rfl (op_move rfl) ?_
    refine TL.opP rfl (op_extract rfl rfl) ?_
    refine TL.opP rfl (op_extract rfl rfl) ?_
    refine TL.opP rfl (op_extract rfl rfl) ?_
    refine TL.opP rfl (op_assign rfl) ?_
    refine TL.opP rfl (op_assign rfl) ?_
    refine TL.opP rfl (op_assign rfl) ?_
    refine TL.nil ?_
    refine TQ.then ?_
    refine TC.seq ?_
    refine TC.seq ?_
    refine TC.region ?_   -- region 4 law.go:300
    refine TL.opP rfl (op_move rfl) ?_
    refine TL.opP rfl (op_neq rfl rfl) ?_
    refine TL.nil ?_
    refine TQ.then ?_
    first | refine TC.condD rfl (fun c2 => ?_) (fun c2 => ?_) | refine TC.condB rfl (fun c2 => ?_) (fun c2 => ?_)
    · refine TC.seq ?_
      refine TC.region ?_   -- region 5 law.go:301
      refine TL.callq rfl en_20 rfl (fun w2 hp => awake_calls w2 (tabs_at hp m1)) ?_
      refine TL.opP rfl (op_assign rfl) ?_
      refine TL.nil ?_
      refine TQ.then ?_
      refine TC.ret ?_
      refine TQ.then_ret ?_
      refine ret1 rfl rfl (fun w' hp => ?_)
      exact ⟨rfl, hp.kp⟩
    · have hz := sizeE_ok (e := e) (by omega)
      have hq := fromS_posU hz.1.1
      have hq2 := hz.1.2.2.1
      have hz1 := hz.2.1
      have mi := modI_in (n := (sizeF e).1) (by omega) (by omega) i
      have mk := modI_in (n := (sizeF e).1) (by omega) (by omega) k
      have mm : modI i (sizeF e).1 ≤ (if modI k (sizeF e).1 > modI i (sizeF e).1 then modI k (sizeF e).1 else modI i (sizeF e).1) ∧ modI k (sizeF e).1 ≤ (if modI k (sizeF e).1 > modI i (sizeF e).1 then modI k (sizeF e).1 else modI i (sizeF e).1) ∧ ((if modI k (sizeF e).1 > modI i (sizeF e).1 then modI k (sizeF e).1 else modI i (sizeF e).1) = modI i (sizeF e).1 ∨ (if modI k (sizeF e).1 > modI i (sizeF e).1 then modI k (sizeF e).1 else modI i (sizeF e).1) = modI k (sizeF e).1) := by split <;> omega
      obtain ⟨l1, l2, l3, l4, l5, l6⟩ := order_z (e := e) (by omega) mi.1 mi.2 mk.1 mk.2 (minI (modI i (sizeF e).1) (modI k (sizeF e).1)) (if modI k (sizeF e).1 > modI i (sizeF e).1 then modI k (sizeF e).1 else modI i (sizeF e).1) rfl mm.2.2 mm.1 mm.2.1
      refine TC.skip ?_
      refine TQ.then ?_
      refine TC.seq ?_
      refine TC.draw [] (.cons (.p, 0) (.cons (.p, 1) (.cons (.p, 2) (.cons (.p, 3) (.cons (.p, 4) (.cons (.p, 5) (.cons (.p, 6) (.cons (.p, 7) (.cons (.p, 8) (.cons (.p, 9) (.cons (.p, 10) (.cons (.p, 11) (.cons (.p, 12) (.cons (.p, 13) (.cons (.p, 14) (.cons (.p, 15) (.nil))))))))))))))))) mo (by kernel_rfl) ?_   -- region 6 law.go:303
      refine TR.p rfl rfl wt0 (op_move rfl) ?_
      refine TR.p rfl rfl wt0 (op_int un_uint rfl rfl) ?_
      refine TR.p rfl rfl wt0 (op_move rfl) ?_
      refine TR.p rfl rfl wt0 (op_add rfl rfl rfl (by omega) (by omega)) ?_
      refine TR.p rfl rfl wt0 (op_int un_uint rfl rfl) ?_
      refine TR.p rfl rfl wt0 (op_rem rfl rfl (modI_pos (n := (sizeF e).1) (by omega) (by omega) _).1 (modI_pos (n := (sizeF e).1) (by omega) (by omega) i).2) ?_
      refine TR.p rfl rfl wt0 (op_int un_int rfl rfl) ?_
      refine TR.p rfl rfl wt0 (op_move rfl) ?_
      refine TR.p rfl rfl wt0 (op_int un_uint rfl rfl) ?_
      refine TR.p rfl rfl wt0 (op_move rfl) ?_
      refine TR.p rfl rfl wt0 (op_add rfl rfl rfl (by omega) (by omega)) ?_
      refine TR.p rfl rfl wt0 (op_int un_uint rfl rfl) ?_
      refine TR.p rfl rfl wt0 (op_rem rfl rfl (modI_pos (n := (sizeF e).1) (by omega) (by omega) _).1 (modI_pos (n := (sizeF e).1) (by omega) (by omega) i).2) ?_
      refine TR.p rfl rfl wt0 (op_int un_int rfl rfl) ?_
      refine TR.p rfl rfl wt0 (op_assign rfl) ?_
      refine TR.p rfl rfl wt0 (op_assign rfl) ?_
      refine TR.nil ?_
      refine TQ.then ?_
      refine TC.seq ?_
      refine TC.region ?_   -- region 7 law.go:304
      refine TL.opP rfl (op_move rfl) ?_
      refine TL.opP rfl (op_move rfl) ?_
      refine TL.opP rfl (op_move rfl) ?_
      refine TL.opP rfl (op_min rfl) ?_
      refine TL.callq rfl en_39 rfl (fun w2 hp => cursor_calls (e) _ _ _ w2 (tabs_at hp m1) hes (rd2 _ _ _ hp)) ?_
      refine TL.opP rfl (op_move rfl) ?_
      refine TL.opP rfl (op_extract rfl rfl) ?_
      refine TL.opP rfl (op_extract rfl rfl) ?_
      refine TL.opP rfl (op_assign rfl) ?_
      refine TL.opP rfl (op_assign rfl) ?_
      refine TL.nil ?_
      refine TQ.then ?_
      refine TC.seq ?_
      refine TC.region ?_   -- region 8 law.go:305
      refine TL.opP rfl (op_move rfl) ?_
      refine TL.opP rfl (op_move rfl) ?_
      refine TL.opP rfl (op_move rfl) ?_
      refine TL.opP rfl (op_min rfl) ?_
      refine TL.callq rfl en_39 rfl (fun w2 hp => cursor_calls (e) _ _ _ w2 (tabs_at hp m1) hes (rd2 _ _ _ hp)) ?_
      refine TL.opP rfl (op_move rfl) ?_
      refine TL.opP rfl (op_extract rfl rfl) ?_
      refine TL.opP rfl (op_extract rfl rfl) ?_
      refine TL.opP rfl (op_assign rfl) ?_
      refine TL.opP rfl (op_assign rfl) ?_
      refine TL.nil ?_
      refine TQ.then ?_
      refine TC.seq ?_
      refine TC.region ?_   -- region 9 law.go:306
      refine TL.opP rfl (op_move rfl) ?_
      refine TL.opP rfl (op_move rfl) ?_
      refine TL.opP rfl (op_move rfl) ?_
      refine TL.opP rfl (op_max rfl) ?_
      refine TL.callq rfl en_39 rfl (fun w2 hp => cursor_calls (e) _ _ _ w2 (tabs_at hp m1) hes (rd2 _ _ _ hp)) ?_
      refine TL.opP rfl (op_move rfl) ?_
      refine TL.opP rfl (op_extract rfl rfl) ?_
      refine TL.opP rfl (op_extract rfl rfl) ?_
      refine TL.opP rfl (op_assign rfl) ?_
      refine TL.opP rfl (op_assign rfl) ?_
      refine TL.nil ?_
      refine TQ.then ?_
      refine TC.seq ?_
      refine TC.region ?_   -- region 10 law.go:307
      refine TL.opP rfl (op_move rfl) ?_
      refine TL.opP rfl (op_eql rfl rfl) ?_
      refine TL.opP rfl (op_move rfl) ?_
      first | refine TL.splitD (fun c3 => ?_) (fun c3 => ?_) | refine TL.splitB (fun c3 => ?_) (fun c3 => ?_)
      · refine TL.gT rfl rfl ?_
        refine TL.opP rfl (op_move rfl) ?_
        refine TL.gT rfl rfl ?_
        refine TL.opP rfl (op_eql rfl rfl) ?_
        refine TL.opP rfl (op_pickT rfl rfl) ?_
        refine TL.opP rfl (op_move rfl) ?_
        first | refine TL.splitD (fun c4 => ?_) (fun c4 => ?_) | refine TL.splitB (fun c4 => ?_) (fun c4 => ?_)
        · refine TL.gT rfl rfl ?_
          refine TL.opP rfl (op_move rfl) ?_
          refine TL.gT rfl rfl ?_
          refine TL.opP rfl (op_eql rfl rfl) ?_
          refine TL.opP rfl (op_pickT rfl rfl) ?_
          refine TL.opP rfl (op_move rfl) ?_
          first | refine TL.splitD (fun c5 => ?_) (fun c5 => ?_) | refine TL.splitB (fun c5 => ?_) (fun c5 => ?_)
          · refine TL.gT rfl rfl ?_
            refine TL.opP rfl (op_move rfl) ?_
            refine TL.gT rfl rfl ?_
            refine TL.opP rfl (op_geq rfl rfl) ?_
            refine TL.opP rfl (op_pickT rfl rfl) ?_
            refine TL.opP rfl (op_move rfl) ?_
            first | refine TL.splitD (fun c6 => ?_) (fun c6 => ?_) | refine TL.splitB (fun c6 => ?_) (fun c6 => ?_)
            · refine TL.gT rfl rfl ?_
              refine TL.opP rfl (op_move rfl) ?_
              refine TL.gT rfl rfl ?_
              refine TL.opP rfl (op_move rfl) ?_
              refine TL.gT rfl rfl ?_
              refine TL.opP rfl (op_leq rfl rfl) ?_
              refine TL.opP rfl (op_pickT rfl rfl) ?_
              refine TL.opP rfl (op_move rfl) ?_
              first | refine TL.splitD (fun c7 => ?_) (fun c7 => ?_) | refine TL.splitB (fun c7 => ?_) (fun c7 => ?_)
              · refine TL.gT rfl rfl ?_
                refine TL.opP rfl (op_move rfl) ?_
                refine TL.gT rfl rfl ?_
                refine TL.opP rfl (op_move rfl) ?_
                refine TL.gT rfl rfl ?_
                refine TL.opP rfl (op_leq rfl rfl) ?_
                refine TL.opP rfl (op_pickT rfl rfl) ?_
                refine TL.opP rfl (op_move rfl) ?_
                first | refine TL.splitD (fun c8 => ?_) (fun c8 => ?_) | refine TL.splitB (fun c8 => ?_) (fun c8 => ?_)
                · refine TL.gT rfl rfl ?_
                  refine TL.opP rfl (op_move rfl) ?_
                  refine TL.gT rfl rfl ?_
                  refine TL.opP rfl (op_move rfl) ?_
                  refine TL.gT rfl rfl ?_
                  refine TL.opP rfl (op_leq rfl rfl) ?_
                  refine TL.opP rfl (op_pickT rfl rfl) ?_
                  refine TL.opP rfl (op_move rfl) ?_
                  first | refine TL.splitD (fun c9 => ?_) (fun c9 => ?_) | refine TL.splitB (fun c9 => ?_) (fun c9 => ?_)
                  · refine TL.gT rfl rfl ?_
                    refine TL.callq rfl en_20 rfl (fun w2 hp => awake_calls w2 (tabs_at hp m1)) ?_
                    refine TL.opP rfl (op_pickT rfl rfl) ?_
                    refine TL.opP rfl (op_assign rfl) ?_
                    refine TL.nil ?_
                    refine TQ.then ?_
                    refine TC.ret ?_
                    refine ret1 rfl rfl (fun w' hp => ?_)
                    exact ⟨rfl, hp.kp⟩
                  · exact absurd l6 c9
                · exact absurd l5 c8
              · exact absurd l4 c7
            · exact absurd l3 c6
          · exact absurd l2 c5
        · exact absurd l1 c4
      · exact absurd l1 c3

end Go.SK
