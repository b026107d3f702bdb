/- The law DiffShort answers true. -/
import Derived.Test.YtnleenjmnndphaaDoorE32
set_option linter.unusedVariables false
set_option linter.unusedSimpArgs false
set_option maxRecDepth 100000
namespace Go.SK
open Go Go.RowKit Go.Proofs
variable {S : Nat → Prop} {w0 : World} {F L : List Res}
theorem diffShort_law (a : ByteArray) (e : List Part) (v : Value) {w : World} (ha0 : a.size ≤ 140737488351232) (he : EditIn w v e) (hT : Tabs w) :
    Calls Tryd.prog 6 (List.toArray [.string a, v]) w fun e' w' => e' = .returned (.bool true) ∧ Kp NoB w w' := by
  have he1 := he.rd.one
  have hes := he.small
  have hel := he.len
  refine calls_start Tryd.func6 rfl rfl rfl (Hp.i2 (r := tabs) (s := .rd v 3 e.length (encs e)) hT he.rd) ?_
  refine TC.seq ?_
  refine TC.region ?_   -- region 0 law.go:74
  refine TL.opP rfl (op_assign rfl) ?_
  refine TL.nil ?_
  refine TQ.then ?_
  refine TC.seq ?_
  refine TC.seq ?_
  refine TC.region ?_   -- region 1 law.go:75
  refine TL.opP rfl (op_move rfl) ?_
  refine TL.opX rfl (OpX.buildSlice (ps := #[(0, _)]) rfl (bs_string_1 _)) ?_; rintro _ _ ⟨g16, rfl, rfl⟩
  refine TL.hp (fun _ h => blk_row (k := 1) (m := 1) h rfl (by decide)) ?_
  refine TL.opX rfl (OpX.callX en_17 rfl (long_x [a] _ rw0)) ?_; rintro _ _ ⟨b1, rfl, hb1, rfl⟩
  refine TL.opP rfl (op_move rfl) ?_
  first | refine TL.splitD (fun c1 => ?_) (fun c1 => ?_) | refine TL.splitB (fun c1 => ?_) (fun c1 => ?_)
  · refine TL.gFt rfl rfl rfl ?_
    refine TL.gFt rfl rfl rfl ?_
    refine TL.gFt rfl rfl rfl ?_
    refine TL.opP rfl (op_pickT rfl rfl) ?_
    refine TL.nil ?_
    refine TQ.then ?_
    refine TC.condT rfl ?_
    refine TC.seq ?_
    refine TC.region ?_   -- region 2 law.go:76
    refine TL.callq rfl en_18 rfl (fun w2 hp => awake_calls w2 (tabs_at hp m1)) ?_
    refine TL.opP rfl (op_assign rfl) ?_
    refine TL.nil ?_
    refine TQ.then ?_
    refine TC.ret ?_
    refine TQ.then_ret ?_
    refine ret1 rfl rfl (fun w' hp => ?_)
    exact ⟨rfl, hp.kp⟩
  · have hza : a.size ≤ 200 := hb1 c1 a (by simp)
    refine TL.gT rfl rfl ?_
    refine TL.opP rfl (op_move rfl) ?_
    refine TL.gT rfl rfl ?_
    refine TL.opV rfl (op_lenV rfl un_sl_api_Part rfl rd2) ?_
    refine TL.gT rfl rfl ?_
    refine TL.opP rfl (op_gtr rfl rfl) ?_
    refine TL.opP rfl (op_pickF rfl rfl) ?_
    refine TL.nil ?_
    refine TQ.then ?_
    first | refine TC.condD rfl (fun c2 => ?_) (fun c2 => ?_) | refine TC.condB rfl (fun c2 => ?_) (fun c2 => ?_)
    · refine TC.seq ?_
      refine TC.region ?_   -- region 2 law.go:76
      refine TL.callq rfl en_18 rfl (fun w2 hp => awake_calls w2 (tabs_at hp m1)) ?_
      refine TL.opP rfl (op_assign rfl) ?_
      refine TL.nil ?_
      refine TQ.then ?_
      refine TC.ret ?_
      refine TQ.then_ret ?_
      refine ret1 rfl rfl (fun w' hp => ?_)
      exact ⟨rfl, hp.kp⟩
    · refine TC.skip ?_
      refine TQ.then ?_
      refine TC.seq ?_
      refine TC.seq ?_
      refine TC.region ?_   -- region 3 law.go:78
      refine TL.opP rfl (op_move rfl) ?_
      refine TL.opV rfl (op_lenV rfl un_sl_api_Part rfl rd2) ?_
      refine TL.opP rfl (op_move rfl) ?_
      refine TL.nil ?_
      refine TQ.then ?_
      refine TC.block ?_
      refine TC.loop (ι := Nat) (fun k => [(0, .string a), (1, v), (24, v), (25, .int .i64 (e.length : Int)), (26, .int .i64 (k : Int))]) (fun k => [tabs, .rd v 3 e.length (encs e)]) (fun k => k ≤ e.length) (fun k => e.length - k) (0) (Nat.zero_le _) ⟨rfl, rfl, rfl, rfl, rfl, trivial⟩ (fun _ h => h.tail) ?_
      rintro k hk
      refine TC.seq ?_
      refine TC.region ?_   -- region 4 law.go:78
      refine TL.opP rfl (op_lss rfl rfl) ?_
      refine TL.nil ?_
      refine TQ.then ?_
      refine TC.seq ?_
      first | refine TC.condD rfl (fun c3 => ?_) (fun c3 => ?_) | refine TC.condB rfl (fun c3 => ?_) (fun c3 => ?_)
      · have hkl : k < e.length := by omega
        obtain ⟨p, hpk⟩ : ∃ p, e.getD k default = p := ⟨_, rfl⟩
        have hd := drop_getD hkl hpk
        have hpe : p ∈ e := by rw [← hpk, List.getD_eq_getElem?_getD, List.getElem?_eq_getElem hkl]; exact List.getElem_mem hkl
        refine TC.skip ?_
        refine TQ.then ?_
        refine TC.seq ?_
        refine TC.block ?_
        refine TC.seq ?_
        refine TC.region ?_   -- region 5 law.go:78
        refine TL.opV rfl (op_index tsl_api_Part rfl rd1 rfl (by omega) (by omega)) ?_
        refine TL.opV rfl (op_loadRS tst_api_Part rfl rd1 (cs := p.cs) rfl (lkS hkl hpk) (by decide)) ?_
        refine TL.opX rfl (OpX.alloc tz_api_Part rfl) ?_; rintro _ _ ⟨g6, rfl, rfl⟩
        refine TL.opX0 (OpX.storeS tst_api_Part rfl rfl rfl rfl rfl (List.all_eq_true.1 rfl)) ?_; rintro _ _ rfl
        refine TL.nil ?_
        refine TQ.then ?_
        refine TC.seq ?_
        refine TC.region ?_   -- region 6 law.go:79
        refine TL.opP rfl (op_field fld_api_Part_Text rfl) ?_
        refine TL.opV rfl (op_load ts_string rfl m0 rfl) ?_
        refine TL.opP rfl (op_slen rfl un_string rfl) ?_
        refine TL.opP rfl (op_gtr rfl rfl) ?_
        refine TL.nil ?_
        refine TQ.then ?_
        first | refine TC.condD rfl (fun c4 => ?_) (fun c4 => ?_) | refine TC.condB rfl (fun c4 => ?_) (fun c4 => ?_)
        · refine TC.seq ?_
          refine TC.region ?_   -- region 7 law.go:80
          refine TL.callq rfl en_18 rfl (fun w2 hp => awake_calls w2 (tabs_at hp m1)) ?_
          refine TL.opP rfl (op_assign rfl) ?_
          refine TL.nil ?_
          refine TQ.then ?_
          refine TC.ret ?_
          refine TQ.block_ret ?_
          refine TQ.then_ret ?_
          refine TQ.loop_ret ?_
          refine TQ.block_ret ?_
          refine TQ.then_ret ?_
          refine ret1 rfl rfl (fun w' hp => ?_)
          exact ⟨rfl, hp.kp⟩
        · refine TC.skip ?_
          refine TQ.block_normal ?_
          refine TQ.then ?_
          refine TC.region ?_   -- region 8 law.go:78
          refine TL.opP rfl (op_add rfl rfl rfl (by omega) (by omega)) ?_
          refine TL.opP rfl (op_move rfl) ?_
          refine TL.nil ?_
          exact TQ.round (k + 1) (by show k + 1 ≤ _; omega) (by omega) ⟨rfl, rfl, rfl, rfl, rfl, trivial⟩ (fun _ h => h.tail)
      · refine TC.exit ?_
        refine TQ.then_exit ?_
        refine TQ.loop_exit ?_
        refine TQ.block_hit ?_
        refine TQ.then ?_
        refine TC.seq ?_
        refine TC.region ?_   -- region 9 law.go:83
        refine TL.opP rfl (op_move rfl) ?_
        refine TL.opP rfl (op_move rfl) ?_
        refine TL.callq rfl en_24 rfl (fun w2 hp => apply_calls (e) (a) _ (by omega) w2 (tabs_at hp m0) hes (rd1 _ _ _ hp)) ?_
        refine TL.opP rfl (op_move rfl) ?_
        refine TL.opP rfl (op_extract rfl rfl) ?_
        refine TL.opP rfl (op_extract rfl rfl) ?_
        refine TL.opP rfl (op_assign rfl) ?_
        refine TL.opP rfl (op_assign rfl) ?_
        refine TL.nil ?_
        refine TQ.then ?_
        refine TC.seq ?_
        refine TC.seq ?_
        refine TC.region ?_   -- region 10 law.go:84
        refine TL.opP rfl (op_move rfl) ?_
        refine TL.opP rfl (op_neq rfl rfl) ?_
        refine TL.opP rfl (op_move rfl) ?_
        first | refine TL.splitD (fun c5 => ?_) (fun c5 => ?_) | refine TL.splitB (fun c5 => ?_) (fun c5 => ?_)
        · refine TL.gFt rfl rfl rfl ?_
          refine TL.gFt rfl rfl rfl ?_
          refine TL.gFt rfl rfl rfl ?_
          refine TL.opP rfl (op_pickT rfl rfl) ?_
          refine TL.nil ?_
          refine TQ.then ?_
          refine TC.condT rfl ?_
          refine TC.seq ?_
          refine TC.region ?_   -- region 11 law.go:85
          refine TL.callq rfl en_18 rfl (fun w2 hp => awake_calls w2 (tabs_at hp m0)) ?_
          refine TL.opP rfl (op_assign rfl) ?_
          refine TL.nil ?_
          refine TQ.then ?_
          refine TC.ret ?_
          refine TQ.then_ret ?_
          refine ret1 rfl rfl (fun w' hp => ?_)
          exact ⟨rfl, hp.kp⟩
        · refine TL.gT rfl rfl ?_
          refine TL.opP rfl (op_move rfl) ?_
          refine TL.gT rfl rfl ?_
          refine TL.opP rfl (op_slen rfl un_string rfl) ?_
          refine TL.gT rfl rfl ?_
          refine TL.opP rfl (op_gtr rfl rfl) ?_
          refine TL.opP rfl (op_pickF rfl rfl) ?_
          refine TL.nil ?_
          refine TQ.then ?_
          first | refine TC.condD rfl (fun c6 => ?_) (fun c6 => ?_) | refine TC.condB rfl (fun c6 => ?_) (fun c6 => ?_)
          · refine TC.seq ?_
            refine TC.region ?_   -- region 11 law.go:85
            refine TL.callq rfl en_18 rfl (fun w2 hp => awake_calls w2 (tabs_at hp m0)) ?_
            refine TL.opP rfl (op_assign rfl) ?_
            refine TL.nil ?_
            refine TQ.then ?_
            refine TC.ret ?_
            refine TQ.then_ret ?_
            refine ret1 rfl rfl (fun w' hp => ?_)
            exact ⟨rfl, hp.kp⟩
          · obtain ⟨l1, l2, l3⟩ := short_z (e := e) (s := a) (by omega) (by omega) (by omega)
            have hdl := diffF_len a (applyF e a)
            have hzb := applyF_size e a
            refine TC.skip ?_
            refine TQ.then ?_
            refine TC.seq ?_
            refine TC.region ?_   -- region 12 law.go:87
            refine TL.opP rfl (op_move rfl) ?_
            refine TL.opP rfl (op_move rfl) ?_
            refine TL.opX rfl (OpX.callX en_19 rfl (diff_x a (applyF e a) (by omega) (by omega) m0)) ?_; rintro _ _ ⟨w2, rfl, rfl⟩
            refine TL.opP rfl (op_move rfl) ?_
            refine TL.opP rfl (op_extract rfl rfl) ?_
            refine TL.opP rfl (op_extract rfl rfl) ?_
            refine TL.opP rfl (op_assign rfl) ?_
            refine TL.opP rfl (op_assign rfl) ?_
            refine TL.nil ?_
            refine TQ.then ?_
            refine TC.seq ?_
            refine TC.region ?_   -- region 13 law.go:88
            refine TL.opP rfl (op_move rfl) ?_
            refine TL.callq rfl en_26 rfl (fun w2 hp => weight_calls (diffF a (applyF e a)) _ (by omega) w2 (tabs_at hp m1) (diffF_small _ _) (rw0 _ _ _ hp)) ?_
            refine TL.opP rfl (op_move rfl) ?_
            refine TL.opP rfl (op_extract rfl rfl) ?_
            refine TL.opP rfl (op_extract rfl rfl) ?_
            refine TL.opP rfl (op_assign rfl) ?_
            refine TL.opP rfl (op_assign rfl) ?_
            refine TL.nil ?_
            refine TQ.then ?_
            refine TC.seq ?_
            refine TC.region ?_   -- region 14 law.go:89
            refine TL.opP rfl (op_move rfl) ?_
            refine TL.callq rfl en_26 rfl (fun w2 hp => weight_calls e _ (by omega) w2 (tabs_at hp m1) hes (rd2 _ _ _ hp)) ?_
            refine TL.opP rfl (op_move rfl) ?_
            refine TL.opP rfl (op_extract rfl rfl) ?_
            refine TL.opP rfl (op_extract rfl rfl) ?_
            refine TL.opP rfl (op_assign rfl) ?_
            refine TL.opP rfl (op_assign rfl) ?_
            refine TL.nil ?_
            refine TQ.then ?_
            refine TC.seq ?_
            refine TC.region ?_   -- region 15 law.go:90
            refine TL.opP rfl (op_move rfl) ?_
            refine TL.opP rfl (op_eql rfl rfl) ?_
            refine TL.opP rfl (op_move rfl) ?_
            first | refine TL.splitD (fun c7 => ?_) (fun c7 => ?_) | refine TL.splitB (fun c7 => ?_) (fun c7 => ?_)
            · refine TL.gT rfl rfl ?_
              refine TL.opP rfl (op_move rfl) ?_
              refine TL.gT rfl rfl ?_
              refine TL.opP rfl (op_move rfl) ?_
              refine TL.gT rfl rfl ?_
              refine TL.opP rfl (op_leq rfl rfl) ?_
              refine TL.opP rfl (op_pickT rfl rfl) ?_
              refine TL.opP rfl (op_move rfl) ?_
              first | refine TL.splitD (fun c8 => ?_) (fun c8 => ?_) | refine TL.splitB (fun c8 => ?_) (fun c8 => ?_)
              · refine TL.gT rfl rfl ?_
                refine TL.opP rfl (op_move rfl) ?_
                refine TL.gT rfl rfl ?_
                refine TL.opP rfl (op_move rfl) ?_
                refine TL.gT rfl rfl ?_
                refine TL.opP rfl (op_leq rfl rfl) ?_
                refine TL.opP rfl (op_pickT rfl rfl) ?_
                refine TL.opP rfl (op_move rfl) ?_
                first | refine TL.splitD (fun c9 => ?_) (fun c9 => ?_) | refine TL.splitB (fun c9 => ?_) (fun c9 => ?_)
                · refine TL.gT rfl rfl ?_
                  refine TL.callq rfl en_18 rfl (fun w2 hp => awake_calls w2 (tabs_at hp m1)) ?_
                  refine TL.opP rfl (op_pickT rfl rfl) ?_
                  refine TL.opP rfl (op_assign rfl) ?_
                  refine TL.nil ?_
                  refine TQ.then ?_
                  refine TC.ret ?_
                  refine ret1 rfl rfl (fun w' hp => ?_)
                  exact ⟨rfl, hp.kp⟩
                · exact absurd (by first | assumption | rfl | omega) c9
              · exact absurd (by first | assumption | rfl | omega) c8
            · exact absurd (by first | assumption | rfl | omega) c7

end Go.SK
