/- The law UndoMost answers true. -/
import Derived.Test.YtnleenjmnndphaaDoorE41
set_option linter.unusedVariables false
set_option linter.unusedSimpArgs false
set_option maxRecDepth 100000
namespace Go.SK
open Go Go.RowKit Go.Proofs
variable {S : Nat → Prop} {w0 : World} {F L : List Res}
theorem mod70 (a : Int) : ∃ m : Nat, IntKind.i64.wrap (IntKind.u64.wrap a % 70) = (m : Int) ∧ m < 70 := by
  have h1 := u64_pos a
  refine ⟨(IntKind.u64.wrap a % 70).toNat, ?_, by omega⟩
  rw [IntKind.wrap_i64]
  generalize IntKind.u64.wrap a = z at *
  omega
theorem rc0 : ((rcount ⟨#[]⟩ : Nat) : Int) = 0 := by kernel_rfl
theorem most_len {m : Nat} {h : HS} {pb pa : List PE} (u : UM m h) (he : hsOf pb pa h.n = h) : pb.length = min m 50 ∧ pa.length = 0 := by
  obtain ⟨_, _, _, h4, h5⟩ := hs_eq he
  refine ⟨by rw [h4, u.b, List.length_take, allInv_len]; omega, by rw [h5, u.a]; rfl⟩
theorem undoMost_law (a : Int) {w : World}   (hT : Tabs w) :
    Calls Tryd.prog 14 (List.toArray [.int .i64 a]) w fun e' w' => e' = .returned (.bool true) ∧ Kp NoB w w' := by
  refine calls_start Tryd.func14 rfl rfl rfl (Hp.i1 (r := tabs) hT) ?_
  refine TC.seq ?_
  refine TC.region ?_   -- region 0 law.go:253
  refine TL.opP rfl (op_assign rfl) ?_
  refine TL.nil ?_
  refine TQ.then ?_
  refine TC.seq ?_
  refine TC.region ?_   -- region 1 law.go:254
  refine TL.opP rfl (op_move rfl) ?_
  refine TL.opP rfl (op_int un_uint rfl rfl) ?_
  refine TL.opP rfl (op_rem rfl rfl (u64_pos _) (by decide)) ?_
  refine TL.opP rfl (op_int un_int rfl rfl) ?_
  refine TL.opP rfl (op_assign rfl) ?_
  refine TL.nil ?_
  refine TQ.then ?_
  refine TC.seq ?_
  refine TC.region ?_   -- region 2 law.go:255
  refine TL.opX rfl (OpX.callX en_34 rfl (ubegun_x ⟨#[]⟩ (by decide) (by decide))) ?_; rintro _ _ ⟨g1, rfl, rfl⟩
  refine TL.opP rfl (op_assign rfl) ?_
  refine TL.opP rfl (op_assign rfl) ?_
  refine TL.nil ?_
  refine TQ.then ?_
  refine TC.seq ?_
  refine TC.seq ?_
  refine TC.region ?_   -- region 3 law.go:256
  refine TL.opP rfl (op_move rfl) ?_
  refine TL.opP rfl (op_move rfl) ?_
  refine TL.nil ?_
  refine TQ.then ?_
  refine TC.block ?_
  obtain ⟨m, hm, hm7⟩ := mod70 a
  refine TC.loop (ι := Nat × HS × Value × Value × List PE × List PE) (fun (i, h, bv, av, pb, pa) => [(0, .int .i64 (m : Int)), (3, .pointer (some ⟨g1, 0, none⟩)), (4, .string (xs i)), (15, .int .i64 (m : Int)), (16, .int .i64 (i : Int))]) (fun (i, h, bv, av, pb, pa) => [.blk g1 (.cells [bv, av, .int .i64 h.n, .bool true].toArray 78 (0, 0)), pileR bv pb, pileR av pa, tabs]) (fun (i, h, bv, av, pb, pa) => UM i h ∧ hsOf pb pa h.n = h ∧ i ≤ m) (fun (i, h, bv, av, pb, pa) => m - i) ((0, ⟨[], [], 0⟩, .slice none 0 0, .slice none 0 0, [], [])) (⟨UM.start, rfl, Nat.zero_le _⟩) ⟨gi rfl hm, rfl, rfl, gi rfl hm, rfl, trivial⟩ (fun _ h => by have hq := h; rw [rc0] at hq; exact hq) ?_
  rintro ⟨i, h, bv, av, pb, pa⟩ ⟨hU, he, hi⟩
  obtain ⟨qb, qa, qn, qlb, qla⟩ := hs_eq he
  have hbl := hU.g.bl
  have hal := hU.g.al
  have hxs := (xs_facts i).2.2
  show TC _ _ _ _ [(0, .int .i64 (m : Int)), (3, .pointer (some ⟨g1, 0, none⟩)), (4, .string (xs i)), (15, .int .i64 (m : Int)), (16, .int .i64 (i : Int))] _ _ ([.blk g1 (.cells [bv, av, .int .i64 h.n, .bool true].toArray 78 (0, 0)), pileR bv pb, pileR av pa, tabs])
  refine TC.seq ?_
  refine TC.region ?_   -- region 4 law.go:256
  refine TL.opP rfl (op_lss rfl rfl) ?_
  refine TL.nil ?_
  refine TQ.then ?_
  refine TC.seq ?_
  first | refine TC.condD rfl (fun c1 => ?_) (fun c1 => ?_) | refine TC.condB rfl (fun c1 => ?_) (fun c1 => ?_)
  · refine TC.skip ?_
    refine TQ.then ?_
    refine TC.seq ?_
    refine TC.block ?_
    refine TC.seq ?_
    refine TC.region ?_   -- region 5 law.go:256
    refine TL.opP rfl (op_move rfl) ?_
    refine TL.opP rfl (op_assign rfl) ?_
    refine TL.nil ?_
    refine TQ.then ?_
    refine TC.seq ?_
    refine TC.seq ?_
    refine TC.region ?_   -- region 6 law.go:257
    refine TL.opP rfl (op_move rfl) ?_
    refine TL.opP rfl (op_move rfl) ?_
    refine TL.opP rfl (op_move rfl) ?_
    refine TL.opX rfl (OpX.callX en_43 rfl (ureplace_x (i : Int) (i : Int) 0 sX (by decide) m3)) ?_; rintro w2 _ ⟨_, rfl, rfl⟩
    refine TL.opP rfl (op_move rfl) ?_
    refine TL.hp (fun _ h => h.pick3.pick3.pick3) ?_
    refine TL.opX rfl (OpX.callX en_35 rfl (hmine_x (rep i) (xs i) _ _ _ _ _ _ _ (sm_repl _ _ _ _) (by omega) (by first | omega | simp) m1 rw0)) ?_; rintro _ _ ⟨bv3, av3, hn3, pb3, pa3, rfl, hh3, rfl⟩
    obtain ⟨k1, u1⟩ := hU.step (by omega)
    rw [he] at hh3
    rw [he]
    have q1 := (hs_eq hh3).2.2.1
    subst q1
    refine TL.opP rfl (op_neq rfl rfl) ?_
    refine TL.nil ?_
    refine TQ.then ?_
    first | refine TC.condD rfl (fun c2 => ?_) (fun c2 => ?_) | refine TC.condB rfl (fun c2 => ?_) (fun c2 => ?_)
    · exact absurd k1 c2
    · refine TC.skip ?_
      refine TQ.then ?_
      refine TC.region ?_   -- region 8 law.go:260
      refine TL.opP rfl (op_move rfl) ?_
      refine TL.opP rfl (op_sadd rfl rfl (by show (xs i).size + 1 ≤ _; omega)) ?_
      refine TL.opP rfl (op_assign rfl) ?_
      refine TL.nil ?_
      refine TQ.block_normal ?_
      refine TQ.then ?_
      refine TC.region ?_   -- region 9 law.go:256
      refine TL.opP rfl (op_add rfl rfl rfl (by omega) (by omega)) ?_
      refine TL.opP rfl (op_move rfl) ?_
      refine TL.nil ?_
      exact TQ.round (i + 1, h.mine (rep i) (xs i), bv3, av3, pb3, pa3) (⟨u1, hh3, by omega⟩) (by show m - (i + 1) < m - i; omega) ⟨rfl, rfl, rfl, rfl, rfl, trivial⟩ (fun _ h => h.drop3)
  · obtain rfl : i = m := by omega
    obtain ⟨ml1, ml2⟩ := most_len hU he
    refine TC.exit ?_
    refine TQ.then_exit ?_
    refine TQ.loop_exit ?_
    refine TQ.block_hit ?_
    refine TQ.then ?_
    refine TC.seq ?_
    refine TC.region ?_   -- region 10 law.go:262
    refine TL.opP rfl (op_move rfl) ?_
    refine TL.opX rfl (OpX.callX en_44 rfl (hlen_x _ _ _ _ _ _)) ?_; rintro _ _ ⟨rfl, rfl⟩
    refine TL.opP rfl (op_move rfl) ?_
    refine TL.opP rfl (op_extract rfl rfl) ?_
    refine TL.opP rfl (op_extract rfl rfl) ?_
    refine TL.opP rfl (op_assign rfl) ?_
    refine TL.opP rfl (op_assign rfl) ?_
    refine TL.nil ?_
    refine TQ.then ?_
    refine TC.seq ?_
    refine TC.seq ?_
    refine TC.region ?_   -- region 11 law.go:263
    refine TL.opP rfl (op_move rfl) ?_
    refine TL.opP rfl (op_move rfl) ?_
    refine TL.opP rfl (op_min rfl) ?_
    refine TL.opP rfl (op_neq rfl rfl) ?_
    refine TL.opP rfl (op_move rfl) ?_
    first | refine TL.splitD (fun c3 => ?_) (fun c3 => ?_) | refine TL.splitB (fun c3 => ?_) (fun c3 => ?_)
    · exact absurd (show (pb.length : Int) = minI (i : Int) 50 by rw [ml1]; unfold minI; split <;> omega) c3
    · refine TL.gT rfl rfl ?_
      refine TL.opP rfl (op_move rfl) ?_
      refine TL.gT rfl rfl ?_
      refine TL.opP rfl (op_neq rfl rfl) ?_
      refine TL.opP rfl (op_pickF rfl rfl) ?_
      refine TL.nil ?_
      refine TQ.then ?_
      first | refine TC.condD rfl (fun c4 => ?_) (fun c4 => ?_) | refine TC.condB rfl (fun c4 => ?_) (fun c4 => ?_)
      · exact absurd (show (pa.length : Int) = 0 by omega) c4
      · refine TC.skip ?_
        refine TQ.then ?_
        refine TC.seq ?_
        refine TC.seq ?_
        refine TC.region ?_   -- region 13 law.go:266
        refine TL.opP rfl (op_move rfl) ?_
        refine TL.opP rfl (op_move rfl) ?_
        refine TL.nil ?_
        refine TQ.then ?_
        refine TC.block ?_
        refine TC.loop (ι := Nat × HS × Value × Value × List PE × List PE) (fun (k, h2, bv2, av2, pb2, pa2) => [(0, .int .i64 (i : Int)), (3, .pointer (some ⟨g1, 0, none⟩)), (4, .string (xs (i - k))), (42, .int .i64 (pb.length : Int)), (43, .int .i64 (k : Int))]) (fun (k, h2, bv2, av2, pb2, pa2) => [.blk g1 (.cells [bv2, av2, .int .i64 h2.n, .bool true].toArray 78 (0, 0)), pileR bv2 pb2, pileR av2 pa2, tabs]) (fun (k, h2, bv2, av2, pb2, pa2) => UV i (min i 50) k h2 ∧ hsOf pb2 pa2 h2.n = h2 ∧ k ≤ min i 50) (fun (k, h2, bv2, av2, pb2, pa2) => pb.length - k) ((0, h, bv, av, pb, pa)) (⟨hU.turn, he, Nat.zero_le _⟩) ⟨rfl, rfl, rfl, rfl, rfl, trivial⟩ (fun _ h => h) ?_
        rintro ⟨k, h2, bv2, av2, pb2, pa2⟩ ⟨hV, he2, hk⟩
        obtain ⟨rb, ra, rn, rlb, rla⟩ := hs_eq he2
        have hbl2 := hV.g.bl
        have hal2 := hV.g.al
        have hxs2 := (xs_facts (i - k)).2.2
        show TC _ _ _ _ [(0, .int .i64 (i : Int)), (3, .pointer (some ⟨g1, 0, none⟩)), (4, .string (xs (i - k))), (42, .int .i64 (pb.length : Int)), (43, .int .i64 (k : Int))] _ _ ([.blk g1 (.cells [bv2, av2, .int .i64 h2.n, .bool true].toArray 78 (0, 0)), pileR bv2 pb2, pileR av2 pa2, tabs])
        refine TC.seq ?_
        refine TC.region ?_   -- region 14 law.go:266
        refine TL.opP rfl (op_lss rfl rfl) ?_
        refine TL.nil ?_
        refine TQ.then ?_
        refine TC.seq ?_
        first | refine TC.condD rfl (fun c5 => ?_) (fun c5 => ?_) | refine TC.condB rfl (fun c5 => ?_) (fun c5 => ?_)
        · refine TC.skip ?_
          refine TQ.then ?_
          refine TC.seq ?_
          refine TC.block ?_
          refine TC.seq ?_
          refine TC.region ?_   -- region 15 law.go:267
          refine TL.opP rfl (op_move rfl) ?_
          refine TL.opP rfl (op_move rfl) ?_
          refine TL.opX rfl (OpX.callX en_37 rfl (hundo_x (xs (i - k)) _ _ _ _ _ _ (sm_sn (by rw [rb]; exact hV.g.smb)) (by omega) (by first | omega | simp) (by first | omega | simp) m0)) ?_; rintro _ _ ⟨bv5, av5, hn5, pb5, pa5, ve5, rfl, hh5, rfl⟩
          obtain ⟨k1, k2, k3, k4⟩ := hV.step (by omega) (by omega) (by omega)
          rw [he2] at hh5
          rw [he2]
          have q1 := (hs_eq hh5).2.2.1
          subst q1
          refine TL.opP rfl (op_move rfl) ?_
          refine TL.opP rfl (op_extract rfl rfl) ?_
          refine TL.opP rfl (op_extract rfl rfl) ?_
          refine TL.opP rfl (op_assign rfl) ?_
          refine TL.opP rfl (op_assign rfl) ?_
          refine TL.nil ?_
          refine TQ.then ?_
          refine TC.seq ?_
          refine TC.region ?_   -- region 16 law.go:268
          refine TL.opP rfl (op_move rfl) ?_
          refine TL.opP rfl (op_move rfl) ?_
          refine TL.callq rfl en_39 rfl (fun w2 hp => uapplied_at _ w2 (tabs_at hp m4) (by omega) k3.1 k2 (rw0 _ _ _ hp)) ?_
          refine TL.opP rfl (op_assign rfl) ?_
          refine TL.nil ?_
          refine TQ.then ?_
          refine TC.seq ?_
          refine TC.region ?_   -- region 17 law.go:268
          refine TL.opP rfl (op_move rfl) ?_
          refine TL.opP rfl (op_neq rfl rfl) ?_
          refine TL.nil ?_
          refine TQ.then ?_
          first | refine TC.condD rfl (fun c6 => ?_) (fun c6 => ?_) | refine TC.condB rfl (fun c6 => ?_) (fun c6 => ?_)
          · exact absurd k1 c6
          · refine TC.skip ?_
            refine TQ.block_normal ?_
            refine TQ.then ?_
            refine TC.region ?_   -- region 19 law.go:266
            refine TL.opP rfl (op_add rfl rfl rfl (by omega) (by omega)) ?_
            refine TL.opP rfl (op_move rfl) ?_
            refine TL.nil ?_
            exact TQ.round (k + 1, h2.undo (xs (i - k)), bv5, av5, pb5, pa5) (⟨k4, hh5, by omega⟩) (by show _ - (k + 1) < _ - k; omega) ⟨rfl, rfl, rfl, rfl, rfl, trivial⟩ (fun _ h => h.tail)
        · have hkk : k = min i 50 := by omega
          refine TC.exit ?_
          refine TQ.then_exit ?_
          refine TQ.loop_exit ?_
          refine TQ.block_hit ?_
          refine TQ.then ?_
          refine TC.seq ?_
          refine TC.region ?_   -- region 20 law.go:272
          refine TL.opP rfl (op_move rfl) ?_
          refine TL.opP rfl (op_slen rfl un_string rfl) ?_
          refine TL.opP rfl (op_move rfl) ?_
          refine TL.opP rfl (op_sub rfl rfl rfl (by omega) (by omega)) ?_
          refine TL.opP rfl (op_max rfl) ?_
          refine TL.opP rfl (op_eql rfl rfl) ?_
          refine TL.opP rfl (op_move rfl) ?_
          first | refine TL.splitD (fun c7 => ?_) (fun c7 => ?_) | refine TL.splitB (fun c7 => ?_) (fun c7 => ?_)
          · refine TL.gT rfl rfl ?_
            refine TL.callq rfl en_33 rfl (fun w2 hp => uawake_calls w2 (tabs_at hp m3)) ?_
            refine TL.opP rfl (op_pickT rfl rfl) ?_
            refine TL.opP rfl (op_assign rfl) ?_
            refine TL.nil ?_
            refine TQ.then ?_
            refine TC.ret ?_
            refine ret1 rfl rfl (fun w' hp => ?_)
            exact ⟨rfl, hp.kp⟩
          · exact absurd (show ((xs (i - k)).size : Int) = (if (i : Int) - 50 > 0 then (i : Int) - 50 else 0) by rw [hxs2, hkk]; split <;> omega) c7

end Go.SK
