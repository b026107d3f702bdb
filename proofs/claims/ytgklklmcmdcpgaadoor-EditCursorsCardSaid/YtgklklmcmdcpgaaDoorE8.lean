/- Walks: the document's own answer: what fits, sizes, lists put together. -/
import Derived.Test.YtgklklmcmdcpgaaDoorE7
import Derived.Test.YtgklklmcmdcpgaaDoorP5
set_option linter.unusedVariables false
set_option linter.unusedSimpArgs false
set_option maxRecDepth 100000
namespace Go.SK
open Go Go.RowKit Go.Proofs
variable {S : Nat → Prop} {w0 : World} {F L : List Res}
theorem runes_calls (l0 : List UInt8) (v : Value) (w : World) (hv : RdRow w v 1 l0.length (l0.map u8v)) :
    Calls Tryd.prog 56 (List.toArray [v]) w fun e' w' => e' = .returned (.int .i64 (runesF l0)) ∧ Kp NoB w w' := by
  have hlen : l0.length ≤ 9223372036854775807 := by obtain ⟨_, A, c, _, h1, h2, _⟩ := hv; simp only [maxLen] at h2; omega
  refine calls_start Tryd.func56 rfl rfl rfl (Hp.i1 (r := .rd v 1 l0.length (l0.map u8v)) hv) ?_
  refine TC.seq ?_
  refine TC.region ?_   -- region 0 ref.go:134
  refine TL.opP rfl (op_assign rfl) ?_
  refine TL.nil ?_
  refine TQ.then ?_
  refine TC.seq ?_
  refine TC.region ?_   -- region 1 ref.go:135
  refine TL.opP rfl (op_assign rfl) ?_
  refine TL.nil ?_
  refine TQ.then ?_
  refine TC.seq ?_
  refine TC.block ?_
  refine TC.loop (ι := List UInt8 × Int × Value) (fun (l, n, bv) => [(0, bv), (3, .int .i64 n)]) (fun (l, n, bv) => [.rd bv 1 l.length (l.map u8v)]) (fun (l, n, bv) => RInv l0 l n) (fun (l, n, bv) => l.length) ((l0, 0, v)) (RInv.start l0) ⟨rfl, rfl, trivial⟩ (fun _ h => h) ?_
  rintro ⟨l, n, bv⟩ (hI : RInv l0 l n)
  have hIb := hI.b
  have hIn := hI.n0
  show TC _ _ _ _ [(0, bv), (3, .int .i64 n)] _ _ ([.rd bv 1 l.length (l.map u8v)])
  refine TC.seq ?_
  refine TC.seq ?_
  refine TC.region ?_   -- region 2 ref.go:136
  refine TL.opP rfl (op_move rfl) ?_
  refine TL.opV rfl (op_lenV rfl un_sl_uint8 rfl rd0) ?_
  refine TL.opP rfl (op_gtr rfl rfl) ?_
  refine TL.nil ?_
  refine TQ.then ?_
  first | refine TC.condD rfl (fun c1 => ?_) (fun c1 => ?_) | refine TC.condB rfl (fun c1 => ?_) (fun c1 => ?_)
  · have hl0 : 0 < l.length := by omega
    have hne : l ≠ [] := by rintro rfl; simp at hl0
    have hb0 := by'_lt l 0
    refine TC.skip ?_
    refine TQ.then ?_
    refine TC.block ?_
    refine TC.seq ?_
    refine TC.region ?_   -- region 3 ref.go:137
    refine TL.opP rfl (op_assign rfl) ?_
    refine TL.nil ?_
    refine TQ.then ?_
    refine TC.seq ?_
    refine TC.region ?_   -- region 4 ref.go:138
    refine TL.opP rfl (op_assign rfl) ?_
    refine TL.opP rfl (op_assign rfl) ?_
    refine TL.nil ?_
    refine TQ.then ?_
    refine TC.join1 [(0, bv), (3, .int .i64 n), (4, .int .i64 ((kOf (by' l 0) : Nat) : Int)), (5, .int .u8 ((loOf (by' l 0) : Nat) : Int)), (6, .int .u8 ((hiOf (by' l 0) : Nat) : Int)), (7, .int .u8 ((by' l 0 : Nat) : Int))] ([.rd bv 1 l.length (l.map u8v)]) ?_ ?_
    · refine TC.seq ?_
      refine TC.region ?_   -- region 5 ref.go:139
      refine TL.opP rfl (op_move rfl) ?_
      refine TL.opV rfl (op_index tsl_uint8 rfl rd0 rfl (by omega) (by omega)) ?_
      refine TL.opV rfl (op_loadR ts_uint8 rfl rd0 (lkU8 (i := 0) hl0 rfl)) ?_
      refine TL.opP rfl (op_assign rfl) ?_
      refine TL.nil ?_
      refine TQ.then ?_
      refine TC.block ?_
      refine TC.seq ?_
      refine TC.region ?_   -- region 6 ref.go:140
      refine TL.opP rfl (op_move rfl) ?_
      refine TL.opP rfl (op_lss rfl rfl) ?_
      refine TL.opP rfl (op_assign rfl) ?_
      refine TL.nil ?_
      refine TQ.then ?_
      first | refine TC.condD rfl (fun c2 => ?_) (fun c2 => ?_) | refine TC.condB rfl (fun c2 => ?_) (fun c2 => ?_)
      · refine TC.region ?_   -- region 7 ref.go:141
        refine TL.opP rfl (op_assign rfl) ?_
        refine TL.nil ?_
        refine TQ.block_normal ?_
        exact TQ.join1 ⟨rfl, rfl, gi rfl (by unfold kOf; (repeat' split) <;> omega), gi rfl (by unfold loOf; (repeat' split) <;> omega), gi rfl (by unfold hiOf; (repeat' split) <;> omega), rfl, trivial⟩ (fun _ h => h)
      · refine TC.seq ?_
        refine TC.region ?_   -- region 8 ref.go:142
        refine TL.opP rfl (op_move rfl) ?_
        refine TL.opP rfl (op_geq rfl rfl) ?_
        refine TL.opP rfl (op_move rfl) ?_
        first | refine TL.splitD (fun c3 => ?_) (fun c3 => ?_) | refine TL.splitB (fun c3 => ?_) (fun c3 => ?_)
        · refine TL.gT rfl rfl ?_
          refine TL.opP rfl (op_move rfl) ?_
          refine TL.gT rfl rfl ?_
          refine TL.opP rfl (op_leq rfl rfl) ?_
          refine TL.opP rfl (op_pickT rfl rfl) ?_
          refine TL.opP rfl (op_assign rfl) ?_
          refine TL.nil ?_
          refine TQ.then ?_
          first | refine TC.condD rfl (fun c4 => ?_) (fun c4 => ?_) | refine TC.condB rfl (fun c4 => ?_) (fun c4 => ?_)
          · refine TC.region ?_   -- region 9 ref.go:143
            refine TL.opP rfl (op_assign rfl) ?_
            refine TL.nil ?_
            refine TQ.block_normal ?_
            exact TQ.join1 ⟨rfl, rfl, gi rfl (by unfold kOf; (repeat' split) <;> omega), gi rfl (by unfold loOf; (repeat' split) <;> omega), gi rfl (by unfold hiOf; (repeat' split) <;> omega), rfl, trivial⟩ (fun _ h => h)
          · refine TC.seq ?_
            refine TC.region ?_   -- region 10 ref.go:144
            refine TL.opP rfl (op_move rfl) ?_
            refine TL.opP rfl (op_geq rfl rfl) ?_
            refine TL.opP rfl (op_move rfl) ?_
            first | refine TL.splitD (fun c5 => ?_) (fun c5 => ?_) | refine TL.splitB (fun c5 => ?_) (fun c5 => ?_)
            · refine TL.gT rfl rfl ?_
              refine TL.opP rfl (op_move rfl) ?_
              refine TL.gT rfl rfl ?_
              refine TL.opP rfl (op_leq rfl rfl) ?_
              refine TL.opP rfl (op_pickT rfl rfl) ?_
              refine TL.opP rfl (op_assign rfl) ?_
              refine TL.nil ?_
              refine TQ.then ?_
              first | refine TC.condD rfl (fun c6 => ?_) (fun c6 => ?_) | refine TC.condB rfl (fun c6 => ?_) (fun c6 => ?_)
              · refine TC.seq ?_
                refine TC.region ?_   -- region 11 ref.go:145
                refine TL.opP rfl (op_assign rfl) ?_
                refine TL.nil ?_
                refine TQ.then ?_
                refine TC.seq ?_
                refine TC.seq ?_
                refine TC.region ?_   -- region 12 ref.go:146
                refine TL.opP rfl (op_move rfl) ?_
                refine TL.opP rfl (op_eql rfl rfl) ?_
                refine TL.nil ?_
                refine TQ.then ?_
                first | refine TC.condD rfl (fun c7 => ?_) (fun c7 => ?_) | refine TC.condB rfl (fun c7 => ?_) (fun c7 => ?_)
                · refine TC.region ?_   -- region 13 ref.go:147
                  refine TL.opP rfl (op_assign rfl) ?_
                  refine TL.nil ?_
                  refine TQ.then ?_
                  refine TC.seq ?_
                  refine TC.region ?_   -- region 14 ref.go:149
                  refine TL.opP rfl (op_move rfl) ?_
                  refine TL.opP rfl (op_eql rfl rfl) ?_
                  refine TL.nil ?_
                  refine TQ.then ?_
                  first | refine TC.condD rfl (fun c8 => ?_) (fun c8 => ?_) | refine TC.condB rfl (fun c8 => ?_) (fun c8 => ?_)
                  · refine TC.region ?_   -- region 15 ref.go:150
                    refine TL.opP rfl (op_assign rfl) ?_
                    refine TL.nil ?_
                    refine TQ.block_normal ?_
                    exact TQ.join1 ⟨rfl, rfl, gi rfl (by unfold kOf; (repeat' split) <;> omega), gi rfl (by unfold loOf; (repeat' split) <;> omega), gi rfl (by unfold hiOf; (repeat' split) <;> omega), rfl, trivial⟩ (fun _ h => h)
                  · refine TC.skip ?_
                    refine TQ.block_normal ?_
                    exact TQ.join1 ⟨rfl, rfl, gi rfl (by unfold kOf; (repeat' split) <;> omega), gi rfl (by unfold loOf; (repeat' split) <;> omega), gi rfl (by unfold hiOf; (repeat' split) <;> omega), rfl, trivial⟩ (fun _ h => h)
                · refine TC.skip ?_
                  refine TQ.then ?_
                  refine TC.seq ?_
                  refine TC.region ?_   -- region 14 ref.go:149
                  refine TL.opP rfl (op_move rfl) ?_
                  refine TL.opP rfl (op_eql rfl rfl) ?_
                  refine TL.nil ?_
                  refine TQ.then ?_
                  first | refine TC.condD rfl (fun c9 => ?_) (fun c9 => ?_) | refine TC.condB rfl (fun c9 => ?_) (fun c9 => ?_)
                  · refine TC.region ?_   -- region 15 ref.go:150
                    refine TL.opP rfl (op_assign rfl) ?_
                    refine TL.nil ?_
                    refine TQ.block_normal ?_
                    exact TQ.join1 ⟨rfl, rfl, gi rfl (by unfold kOf; (repeat' split) <;> omega), gi rfl (by unfold loOf; (repeat' split) <;> omega), gi rfl (by unfold hiOf; (repeat' split) <;> omega), rfl, trivial⟩ (fun _ h => h)
                  · refine TC.skip ?_
                    refine TQ.block_normal ?_
                    exact TQ.join1 ⟨rfl, rfl, gi rfl (by unfold kOf; (repeat' split) <;> omega), gi rfl (by unfold loOf; (repeat' split) <;> omega), gi rfl (by unfold hiOf; (repeat' split) <;> omega), rfl, trivial⟩ (fun _ h => h)
              · refine TC.seq ?_
                refine TC.region ?_   -- region 16 ref.go:152
                refine TL.opP rfl (op_move rfl) ?_
                refine TL.opP rfl (op_geq rfl rfl) ?_
                refine TL.opP rfl (op_move rfl) ?_
                first | refine TL.splitD (fun c10 => ?_) (fun c10 => ?_) | refine TL.splitB (fun c10 => ?_) (fun c10 => ?_)
                · refine TL.gT rfl rfl ?_
                  refine TL.opP rfl (op_move rfl) ?_
                  refine TL.gT rfl rfl ?_
                  refine TL.opP rfl (op_leq rfl rfl) ?_
                  refine TL.opP rfl (op_pickT rfl rfl) ?_
                  refine TL.opP rfl (op_assign rfl) ?_
                  refine TL.nil ?_
                  refine TQ.then ?_
                  first | refine TC.condD rfl (fun c11 => ?_) (fun c11 => ?_) | refine TC.condB rfl (fun c11 => ?_) (fun c11 => ?_)
                  · refine TC.seq ?_
                    refine TC.region ?_   -- region 17 ref.go:153
                    refine TL.opP rfl (op_assign rfl) ?_
                    refine TL.nil ?_
                    refine TQ.then ?_
                    refine TC.seq ?_
                    refine TC.seq ?_
                    refine TC.region ?_   -- region 18 ref.go:154
                    refine TL.opP rfl (op_move rfl) ?_
                    refine TL.opP rfl (op_eql rfl rfl) ?_
                    refine TL.nil ?_
                    refine TQ.then ?_
                    first | refine TC.condD rfl (fun c12 => ?_) (fun c12 => ?_) | refine TC.condB rfl (fun c12 => ?_) (fun c12 => ?_)
                    · refine TC.region ?_   -- region 19 ref.go:155
                      refine TL.opP rfl (op_assign rfl) ?_
                      refine TL.nil ?_
                      refine TQ.then ?_
                      refine TC.seq ?_
                      refine TC.region ?_   -- region 20 ref.go:157
                      refine TL.opP rfl (op_move rfl) ?_
                      refine TL.opP rfl (op_eql rfl rfl) ?_
                      refine TL.nil ?_
                      refine TQ.then ?_
                      first | refine TC.condD rfl (fun c13 => ?_) (fun c13 => ?_) | refine TC.condB rfl (fun c13 => ?_) (fun c13 => ?_)
                      · refine TC.region ?_   -- region 21 ref.go:158
                        refine TL.opP rfl (op_assign rfl) ?_
                        refine TL.nil ?_
                        refine TQ.block_normal ?_
                        exact TQ.join1 ⟨rfl, rfl, gi rfl (by unfold kOf; (repeat' split) <;> omega), gi rfl (by unfold loOf; (repeat' split) <;> omega), gi rfl (by unfold hiOf; (repeat' split) <;> omega), rfl, trivial⟩ (fun _ h => h)
                      · refine TC.skip ?_
                        refine TQ.block_normal ?_
                        exact TQ.join1 ⟨rfl, rfl, gi rfl (by unfold kOf; (repeat' split) <;> omega), gi rfl (by unfold loOf; (repeat' split) <;> omega), gi rfl (by unfold hiOf; (repeat' split) <;> omega), rfl, trivial⟩ (fun _ h => h)
                    · refine TC.skip ?_
                      refine TQ.then ?_
                      refine TC.seq ?_
                      refine TC.region ?_   -- region 20 ref.go:157
                      refine TL.opP rfl (op_move rfl) ?_
                      refine TL.opP rfl (op_eql rfl rfl) ?_
                      refine TL.nil ?_
                      refine TQ.then ?_
                      first | refine TC.condD rfl (fun c14 => ?_) (fun c14 => ?_) | refine TC.condB rfl (fun c14 => ?_) (fun c14 => ?_)
                      · refine TC.region ?_   -- region 21 ref.go:158
                        refine TL.opP rfl (op_assign rfl) ?_
                        refine TL.nil ?_
                        refine TQ.block_normal ?_
                        exact TQ.join1 ⟨rfl, rfl, gi rfl (by unfold kOf; (repeat' split) <;> omega), gi rfl (by unfold loOf; (repeat' split) <;> omega), gi rfl (by unfold hiOf; (repeat' split) <;> omega), rfl, trivial⟩ (fun _ h => h)
                      · refine TC.skip ?_
                        refine TQ.block_normal ?_
                        exact TQ.join1 ⟨rfl, rfl, gi rfl (by unfold kOf; (repeat' split) <;> omega), gi rfl (by unfold loOf; (repeat' split) <;> omega), gi rfl (by unfold hiOf; (repeat' split) <;> omega), rfl, trivial⟩ (fun _ h => h)
                  · refine TC.skip ?_
                    refine TQ.block_normal ?_
                    exact TQ.join1 ⟨rfl, rfl, gi rfl (by unfold kOf; (repeat' split) <;> omega), gi rfl (by unfold loOf; (repeat' split) <;> omega), gi rfl (by unfold hiOf; (repeat' split) <;> omega), rfl, trivial⟩ (fun _ h => h)
                · refine TL.gFf rfl rfl rfl ?_
                  refine TL.gFf rfl rfl rfl ?_
                  refine TL.opP rfl (op_pickF rfl rfl) ?_
                  refine TL.opP rfl (op_assign rfl) ?_
                  refine TL.nil ?_
                  refine TQ.then ?_
                  refine TC.condF rfl ?_
                  refine TC.skip ?_
                  refine TQ.block_normal ?_
                  exact TQ.join1 ⟨rfl, rfl, gi rfl (by unfold kOf; (repeat' split) <;> omega), gi rfl (by unfold loOf; (repeat' split) <;> omega), gi rfl (by unfold hiOf; (repeat' split) <;> omega), rfl, trivial⟩ (fun _ h => h)
            · refine TL.gFf rfl rfl rfl ?_
              refine TL.gFf rfl rfl rfl ?_
              refine TL.opP rfl (op_pickF rfl rfl) ?_
              refine TL.opP rfl (op_assign rfl) ?_
              refine TL.nil ?_
              refine TQ.then ?_
              refine TC.condF rfl ?_
              refine TC.seq ?_
              refine TC.region ?_   -- region 16 ref.go:152
              refine TL.opP rfl (op_move rfl) ?_
              refine TL.opP rfl (op_geq rfl rfl) ?_
              refine TL.opP rfl (op_move rfl) ?_
              first | refine TL.splitD (fun c15 => ?_) (fun c15 => ?_) | refine TL.splitB (fun c15 => ?_) (fun c15 => ?_)
              · refine TL.gT rfl rfl ?_
                refine TL.opP rfl (op_move rfl) ?_
                refine TL.gT rfl rfl ?_
                refine TL.opP rfl (op_leq rfl rfl) ?_
                refine TL.opP rfl (op_pickT rfl rfl) ?_
                refine TL.opP rfl (op_assign rfl) ?_
                refine TL.nil ?_
                refine TQ.then ?_
                first | refine TC.condD rfl (fun c16 => ?_) (fun c16 => ?_) | refine TC.condB rfl (fun c16 => ?_) (fun c16 => ?_)
                · refine TC.seq ?_
                  refine TC.region ?_   -- region 17 ref.go:153
                  refine TL.opP rfl (op_assign rfl) ?_
                  refine TL.nil ?_
                  refine TQ.then ?_
                  refine TC.seq ?_
                  refine TC.seq ?_
                  refine TC.region ?_   -- region 18 ref.go:154
                  refine TL.opP rfl (op_move rfl) ?_
                  refine TL.opP rfl (op_eql rfl rfl) ?_
                  refine TL.nil ?_
                  refine TQ.then ?_
                  first | refine TC.condD rfl (fun c17 => ?_) (fun c17 => ?_) | refine TC.condB rfl (fun c17 => ?_) (fun c17 => ?_)
                  · refine TC.region ?_   -- region 19 ref.go:155
                    refine TL.opP rfl (op_assign rfl) ?_
                    refine TL.nil ?_
                    refine TQ.then ?_
                    refine TC.seq ?_
                    refine TC.region ?_   -- region 20 ref.go:157
                    refine TL.opP rfl (op_move rfl) ?_
                    refine TL.opP rfl (op_eql rfl rfl) ?_
                    refine TL.nil ?_
                    refine TQ.then ?_
                    first | refine TC.condD rfl (fun c18 => ?_) (fun c18 => ?_) | refine TC.condB rfl (fun c18 => ?_) (fun c18 => ?_)
                    · refine TC.region ?_   -- region 21 ref.go:158
                      refine TL.opP rfl (op_assign rfl) ?_
                      refine TL.nil ?_
                      refine TQ.block_normal ?_
                      exact TQ.join1 ⟨rfl, rfl, gi rfl (by unfold kOf; (repeat' split) <;> omega), gi rfl (by unfold loOf; (repeat' split) <;> omega), gi rfl (by unfold hiOf; (repeat' split) <;> omega), rfl, trivial⟩ (fun _ h => h)
                    · refine TC.skip ?_
                      refine TQ.block_normal ?_
                      exact TQ.join1 ⟨rfl, rfl, gi rfl (by unfold kOf; (repeat' split) <;> omega), gi rfl (by unfold loOf; (repeat' split) <;> omega), gi rfl (by unfold hiOf; (repeat' split) <;> omega), rfl, trivial⟩ (fun _ h => h)
                  · refine TC.skip ?_
                    refine TQ.then ?_
                    refine TC.seq ?_
                    refine TC.region ?_   -- region 20 ref.go:157
                    refine TL.opP rfl (op_move rfl) ?_
                    refine TL.opP rfl (op_eql rfl rfl) ?_
                    refine TL.nil ?_
                    refine TQ.then ?_
                    first | refine TC.condD rfl (fun c19 => ?_) (fun c19 => ?_) | refine TC.condB rfl (fun c19 => ?_) (fun c19 => ?_)
                    · refine TC.region ?_   -- region 21 ref.go:158
                      refine TL.opP rfl (op_assign rfl) ?_
                      refine TL.nil ?_
                      refine TQ.block_normal ?_
                      exact TQ.join1 ⟨rfl, rfl, gi rfl (by unfold kOf; (repeat' split) <;> omega), gi rfl (by unfold loOf; (repeat' split) <;> omega), gi rfl (by unfold hiOf; (repeat' split) <;> omega), rfl, trivial⟩ (fun _ h => h)
                    · refine TC.skip ?_
                      refine TQ.block_normal ?_
                      exact TQ.join1 ⟨rfl, rfl, gi rfl (by unfold kOf; (repeat' split) <;> omega), gi rfl (by unfold loOf; (repeat' split) <;> omega), gi rfl (by unfold hiOf; (repeat' split) <;> omega), rfl, trivial⟩ (fun _ h => h)
                · refine TC.skip ?_
                  refine TQ.block_normal ?_
                  exact TQ.join1 ⟨rfl, rfl, gi rfl (by unfold kOf; (repeat' split) <;> omega), gi rfl (by unfold loOf; (repeat' split) <;> omega), gi rfl (by unfold hiOf; (repeat' split) <;> omega), rfl, trivial⟩ (fun _ h => h)
              · refine TL.gFf rfl rfl rfl ?_
                refine TL.gFf rfl rfl rfl ?_
                refine TL.opP rfl (op_pickF rfl rfl) ?_
                refine TL.opP rfl (op_assign rfl) ?_
                refine TL.nil ?_
                refine TQ.then ?_
                refine TC.condF rfl ?_
                refine TC.skip ?_
                refine TQ.block_normal ?_
                exact TQ.join1 ⟨rfl, rfl, gi rfl (by unfold kOf; (repeat' split) <;> omega), gi rfl (by unfold loOf; (repeat' split) <;> omega), gi rfl (by unfold hiOf; (repeat' split) <;> omega), rfl, trivial⟩ (fun _ h => h)
        · refine TL.gFf rfl rfl rfl ?_
          refine TL.gFf rfl rfl rfl ?_
          refine TL.opP rfl (op_pickF rfl rfl) ?_
          refine TL.opP rfl (op_assign rfl) ?_
          refine TL.nil ?_
          refine TQ.then ?_
          refine TC.condF rfl ?_
          refine TC.seq ?_
          refine TC.region ?_   -- region 10 ref.go:144
          refine TL.opP rfl (op_move rfl) ?_
          refine TL.opP rfl (op_geq rfl rfl) ?_
          refine TL.opP rfl (op_move rfl) ?_
          first | refine TL.splitD (fun c20 => ?_) (fun c20 => ?_) | refine TL.splitB (fun c20 => ?_) (fun c20 => ?_)
          · refine TL.gT rfl rfl ?_
            refine TL.opP rfl (op_move rfl) ?_
            refine TL.gT rfl rfl ?_
            refine TL.opP rfl (op_leq rfl rfl) ?_
            refine TL.opP rfl (op_pickT rfl rfl) ?_
            refine TL.opP rfl (op_assign rfl) ?_
            refine TL.nil ?_
            refine TQ.then ?_
            first | refine TC.condD rfl (fun c21 => ?_) (fun c21 => ?_) | refine TC.condB rfl (fun c21 => ?_) (fun c21 => ?_)
            · refine TC.seq ?_
              refine TC.region ?_   -- region 11 ref.go:145
              refine TL.opP rfl (op_assign rfl) ?_
              refine TL.nil ?_
              refine TQ.then ?_
              refine TC.seq ?_
              refine TC.seq ?_
              refine TC.region ?_   -- region 12 ref.go:146
              refine TL.opP rfl (op_move rfl) ?_
              refine TL.opP rfl (op_eql rfl rfl) ?_
              refine TL.nil ?_
              refine TQ.then ?_
              first | refine TC.condD rfl (fun c22 => ?_) (fun c22 => ?_) | refine TC.condB rfl (fun c22 => ?_) (fun c22 => ?_)
              · refine TC.region ?_   -- region 13 ref.go:147
                refine TL.opP rfl (op_assign rfl) ?_
                refine TL.nil ?_
                refine TQ.then ?_
                refine TC.seq ?_
                refine TC.region ?_   -- region 14 ref.go:149
                refine TL.opP rfl (op_move rfl) ?_
                refine TL.opP rfl (op_eql rfl rfl) ?_
                refine TL.nil ?_
                refine TQ.then ?_
                first | refine TC.condD rfl (fun c23 => ?_) (fun c23 => ?_) | refine TC.condB rfl (fun c23 => ?_) (fun c23 => ?_)
                · refine TC.region ?_   -- region 15 ref.go:150
                  refine TL.opP rfl (op_assign rfl) ?_
                  refine TL.nil ?_
                  refine TQ.block_normal ?_
                  exact TQ.join1 ⟨rfl, rfl, gi rfl (by unfold kOf; (repeat' split) <;> omega), gi rfl (by unfold loOf; (repeat' split) <;> omega), gi rfl (by unfold hiOf; (repeat' split) <;> omega), rfl, trivial⟩ (fun _ h => h)
                · refine TC.skip ?_
                  refine TQ.block_normal ?_
                  exact TQ.join1 ⟨rfl, rfl, gi rfl (by unfold kOf; (repeat' split) <;> omega), gi rfl (by unfold loOf; (repeat' split) <;> omega), gi rfl (by unfold hiOf; (repeat' split) <;> omega), rfl, trivial⟩ (fun _ h => h)
              · refine TC.skip ?_
                refine TQ.then ?_
                refine TC.seq ?_
                refine TC.region ?_   -- region 14 ref.go:149
                refine TL.opP rfl (op_move rfl) ?_
                refine TL.opP rfl (op_eql rfl rfl) ?_
                refine TL.nil ?_
                refine TQ.then ?_
                first | refine TC.condD rfl (fun c24 => ?_) (fun c24 => ?_) | refine TC.condB rfl (fun c24 => ?_) (fun c24 => ?_)
                · refine TC.region ?_   -- region 15 ref.go:150
                  refine TL.opP rfl (op_assign rfl) ?_
                  refine TL.nil ?_
                  refine TQ.block_normal ?_
                  exact TQ.join1 ⟨rfl, rfl, gi rfl (by unfold kOf; (repeat' split) <;> omega), gi rfl (by unfold loOf; (repeat' split) <;> omega), gi rfl (by unfold hiOf; (repeat' split) <;> omega), rfl, trivial⟩ (fun _ h => h)
                · refine TC.skip ?_
                  refine TQ.block_normal ?_
                  exact TQ.join1 ⟨rfl, rfl, gi rfl (by unfold kOf; (repeat' split) <;> omega), gi rfl (by unfold loOf; (repeat' split) <;> omega), gi rfl (by unfold hiOf; (repeat' split) <;> omega), rfl, trivial⟩ (fun _ h => h)
            · refine TC.seq ?_
              refine TC.region ?_   -- region 16 ref.go:152
              refine TL.opP rfl (op_move rfl) ?_
              refine TL.opP rfl (op_geq rfl rfl) ?_
              refine TL.opP rfl (op_move rfl) ?_
              first | refine TL.splitD (fun c25 => ?_) (fun c25 => ?_) | refine TL.splitB (fun c25 => ?_) (fun c25 => ?_)
              · refine TL.gT rfl rfl ?_
                refine TL.opP rfl (op_move rfl) ?_
                refine TL.gT rfl rfl ?_
                refine TL.opP rfl (op_leq rfl rfl) ?_
                refine TL.opP rfl (op_pickT rfl rfl) ?_
                refine TL.opP rfl (op_assign rfl) ?_
                refine TL.nil ?_
                refine TQ.then ?_
                first | refine TC.condD rfl (fun c26 => ?_) (fun c26 => ?_) | refine TC.condB rfl (fun c26 => ?_) (fun c26 => ?_)
                · refine TC.seq ?_
                  refine TC.region ?_   -- region 17 ref.go:153
                  refine TL.opP rfl (op_assign rfl) ?_
                  refine TL.nil ?_
                  refine TQ.then ?_
                  refine TC.seq ?_
                  refine TC.seq ?_
                  refine TC.region ?_   -- region 18 ref.go:154
                  refine TL.opP rfl (op_move rfl) ?_
                  refine TL.opP rfl (op_eql rfl rfl) ?_
                  refine TL.nil ?_
                  refine TQ.then ?_
                  first | refine TC.condD rfl (fun c27 => ?_) (fun c27 => ?_) | refine TC.condB rfl (fun c27 => ?_) (fun c27 => ?_)
                  · refine TC.region ?_   -- region 19 ref.go:155
                    refine TL.opP rfl (op_assign rfl) ?_
                    refine TL.nil ?_
                    refine TQ.then ?_
                    refine TC.seq ?_
                    refine TC.region ?_   -- region 20 ref.go:157
                    refine TL.opP rfl (op_move rfl) ?_
                    refine TL.opP rfl (op_eql rfl rfl) ?_
                    refine TL.nil ?_
                    refine TQ.then ?_
                    first | refine TC.condD rfl (fun c28 => ?_) (fun c28 => ?_) | refine TC.condB rfl (fun c28 => ?_) (fun c28 => ?_)
                    · refine TC.region ?_   -- region 21 ref.go:158
                      refine TL.opP rfl (op_assign rfl) ?_
                      refine TL.nil ?_
                      refine TQ.block_normal ?_
                      exact TQ.join1 ⟨rfl, rfl, gi rfl (by unfold kOf; (repeat' split) <;> omega), gi rfl (by unfold loOf; (repeat' split) <;> omega), gi rfl (by unfold hiOf; (repeat' split) <;> omega), rfl, trivial⟩ (fun _ h => h)
                    · refine TC.skip ?_
                      refine TQ.block_normal ?_
                      exact TQ.join1 ⟨rfl, rfl, gi rfl (by unfold kOf; (repeat' split) <;> omega), gi rfl (by unfold loOf; (repeat' split) <;> omega), gi rfl (by unfold hiOf; (repeat' split) <;> omega), rfl, trivial⟩ (fun _ h => h)
                  · refine TC.skip ?_
                    refine TQ.then ?_
                    refine TC.seq ?_
                    refine TC.region ?_   -- region 20 ref.go:157
                    refine TL.opP rfl (op_move rfl) ?_
                    refine TL.opP rfl (op_eql rfl rfl) ?_
                    refine TL.nil ?_
                    refine TQ.then ?_
                    first | refine TC.condD rfl (fun c29 => ?_) (fun c29 => ?_) | refine TC.condB rfl (fun c29 => ?_) (fun c29 => ?_)
                    · refine TC.region ?_   -- region 21 ref.go:158
                      refine TL.opP rfl (op_assign rfl) ?_
                      refine TL.nil ?_
                      refine TQ.block_normal ?_
                      exact TQ.join1 ⟨rfl, rfl, gi rfl (by unfold kOf; (repeat' split) <;> omega), gi rfl (by unfold loOf; (repeat' split) <;> omega), gi rfl (by unfold hiOf; (repeat' split) <;> omega), rfl, trivial⟩ (fun _ h => h)
                    · refine TC.skip ?_
                      refine TQ.block_normal ?_
                      exact TQ.join1 ⟨rfl, rfl, gi rfl (by unfold kOf; (repeat' split) <;> omega), gi rfl (by unfold loOf; (repeat' split) <;> omega), gi rfl (by unfold hiOf; (repeat' split) <;> omega), rfl, trivial⟩ (fun _ h => h)
                · refine TC.skip ?_
                  refine TQ.block_normal ?_
                  exact TQ.join1 ⟨rfl, rfl, gi rfl (by unfold kOf; (repeat' split) <;> omega), gi rfl (by unfold loOf; (repeat' split) <;> omega), gi rfl (by unfold hiOf; (repeat' split) <;> omega), rfl, trivial⟩ (fun _ h => h)
              · refine TL.gFf rfl rfl rfl ?_
                refine TL.gFf rfl rfl rfl ?_
                refine TL.opP rfl (op_pickF rfl rfl) ?_
                refine TL.opP rfl (op_assign rfl) ?_
                refine TL.nil ?_
                refine TQ.then ?_
                refine TC.condF rfl ?_
                refine TC.skip ?_
                refine TQ.block_normal ?_
                exact TQ.join1 ⟨rfl, rfl, gi rfl (by unfold kOf; (repeat' split) <;> omega), gi rfl (by unfold loOf; (repeat' split) <;> omega), gi rfl (by unfold hiOf; (repeat' split) <;> omega), rfl, trivial⟩ (fun _ h => h)
          · refine TL.gFf rfl rfl rfl ?_
            refine TL.gFf rfl rfl rfl ?_
            refine TL.opP rfl (op_pickF rfl rfl) ?_
            refine TL.opP rfl (op_assign rfl) ?_
            refine TL.nil ?_
            refine TQ.then ?_
            refine TC.condF rfl ?_
            refine TC.seq ?_
            refine TC.region ?_   -- region 16 ref.go:152
            refine TL.opP rfl (op_move rfl) ?_
            refine TL.opP rfl (op_geq rfl rfl) ?_
            refine TL.opP rfl (op_move rfl) ?_
            first | refine TL.splitD (fun c30 => ?_) (fun c30 => ?_) | refine TL.splitB (fun c30 => ?_) (fun c30 => ?_)
            · refine TL.gT rfl rfl ?_
              refine TL.opP rfl (op_move rfl) ?_
              refine TL.gT rfl rfl ?_
              refine TL.opP rfl (op_leq rfl rfl) ?_
              refine TL.opP rfl (op_pickT rfl rfl) ?_
              refine TL.opP rfl (op_assign rfl) ?_
              refine TL.nil ?_
              refine TQ.then ?_
              first | refine TC.condD rfl (fun c31 => ?_) (fun c31 => ?_) | refine TC.condB rfl (fun c31 => ?_) (fun c31 => ?_)
              · refine TC.seq ?_
                refine TC.region ?_   -- region 17 ref.go:153
                refine TL.opP rfl (op_assign rfl) ?_
                refine TL.nil ?_
                refine TQ.then ?_
                refine TC.seq ?_
                refine TC.seq ?_
                refine TC.region ?_   -- region 18 ref.go:154
                refine TL.opP rfl (op_move rfl) ?_
                refine TL.opP rfl (op_eql rfl rfl) ?_
                refine TL.nil ?_
                refine TQ.then ?_
                first | refine TC.condD rfl (fun c32 => ?_) (fun c32 => ?_) | refine TC.condB rfl (fun c32 => ?_) (fun c32 => ?_)
                · refine TC.region ?_   -- region 19 ref.go:155
                  refine TL.opP rfl (op_assign rfl) ?_
                  refine TL.nil ?_
                  refine TQ.then ?_
                  refine TC.seq ?_
                  refine TC.region ?_   -- region 20 ref.go:157
                  refine TL.opP rfl (op_move rfl) ?_
                  refine TL.opP rfl (op_eql rfl rfl) ?_
                  refine TL.nil ?_
                  refine TQ.then ?_
                  first | refine TC.condD rfl (fun c33 => ?_) (fun c33 => ?_) | refine TC.condB rfl (fun c33 => ?_) (fun c33 => ?_)
                  · refine TC.region ?_   -- region 21 ref.go:158
                    refine TL.opP rfl (op_assign rfl) ?_
                    refine TL.nil ?_
                    refine TQ.block_normal ?_
                    exact TQ.join1 ⟨rfl, rfl, gi rfl (by unfold kOf; (repeat' split) <;> omega), gi rfl (by unfold loOf; (repeat' split) <;> omega), gi rfl (by unfold hiOf; (repeat' split) <;> omega), rfl, trivial⟩ (fun _ h => h)
                  · refine TC.skip ?_
                    refine TQ.block_normal ?_
                    exact TQ.join1 ⟨rfl, rfl, gi rfl (by unfold kOf; (repeat' split) <;> omega), gi rfl (by unfold loOf; (repeat' split) <;> omega), gi rfl (by unfold hiOf; (repeat' split) <;> omega), rfl, trivial⟩ (fun _ h => h)
                · refine TC.skip ?_
                  refine TQ.then ?_
                  refine TC.seq ?_
                  refine TC.region ?_   -- region 20 ref.go:157
                  refine TL.opP rfl (op_move rfl) ?_
                  refine TL.opP rfl (op_eql rfl rfl) ?_
                  refine TL.nil ?_
                  refine TQ.then ?_
                  first | refine TC.condD rfl (fun c34 => ?_) (fun c34 => ?_) | refine TC.condB rfl (fun c34 => ?_) (fun c34 => ?_)
                  · refine TC.region ?_   -- region 21 ref.go:158
                    refine TL.opP rfl (op_assign rfl) ?_
                    refine TL.nil ?_
                    refine TQ.block_normal ?_
                    exact TQ.join1 ⟨rfl, rfl, gi rfl (by unfold kOf; (repeat' split) <;> omega), gi rfl (by unfold loOf; (repeat' split) <;> omega), gi rfl (by unfold hiOf; (repeat' split) <;> omega), rfl, trivial⟩ (fun _ h => h)
                  · refine TC.skip ?_
                    refine TQ.block_normal ?_
                    exact TQ.join1 ⟨rfl, rfl, gi rfl (by unfold kOf; (repeat' split) <;> omega), gi rfl (by unfold loOf; (repeat' split) <;> omega), gi rfl (by unfold hiOf; (repeat' split) <;> omega), rfl, trivial⟩ (fun _ h => h)
              · refine TC.skip ?_
                refine TQ.block_normal ?_
                exact TQ.join1 ⟨rfl, rfl, gi rfl (by unfold kOf; (repeat' split) <;> omega), gi rfl (by unfold loOf; (repeat' split) <;> omega), gi rfl (by unfold hiOf; (repeat' split) <;> omega), rfl, trivial⟩ (fun _ h => h)
            · refine TL.gFf rfl rfl rfl ?_
              refine TL.gFf rfl rfl rfl ?_
              refine TL.opP rfl (op_pickF rfl rfl) ?_
              refine TL.opP rfl (op_assign rfl) ?_
              refine TL.nil ?_
              refine TQ.then ?_
              refine TC.condF rfl ?_
              refine TC.skip ?_
              refine TQ.block_normal ?_
              exact TQ.join1 ⟨rfl, rfl, gi rfl (by unfold kOf; (repeat' split) <;> omega), gi rfl (by unfold loOf; (repeat' split) <;> omega), gi rfl (by unfold hiOf; (repeat' split) <;> omega), rfl, trivial⟩ (fun _ h => h)
    · refine TC.seq ?_
      refine TC.seq ?_
      refine TC.region ?_   -- region 22 ref.go:161
      refine TL.opP rfl (op_move rfl) ?_
      refine TL.opP rfl (op_eql rfl rfl) ?_
      refine TL.opP rfl (op_move rfl) ?_
      first | refine TL.splitD (fun c35 => ?_) (fun c35 => ?_) | refine TL.splitB (fun c35 => ?_) (fun c35 => ?_)
      · refine TL.gFt rfl rfl rfl ?_
        refine TL.gFt rfl rfl rfl ?_
        refine TL.gFt rfl rfl rfl ?_
        refine TL.gFt rfl rfl rfl ?_
        refine TL.opP rfl (op_pickT rfl rfl) ?_
        refine TL.nil ?_
        refine TQ.then ?_
        refine TC.condT rfl ?_
        refine TC.seq ?_
        refine TC.region ?_   -- region 23 ref.go:162
        refine TL.opP rfl (op_assign rfl) ?_
        refine TL.nil ?_
        refine TQ.then ?_
        refine TC.ret ?_
        refine TQ.then_ret ?_
        refine TQ.block_ret ?_
        refine TQ.loop_ret ?_
        refine TQ.block_ret ?_
        refine TQ.then_ret ?_
        refine ret1 rfl rfl (fun w' hp => ?_)
        first
          | exact ⟨by rw [hI.bad hne (by rintro ⟨a1, a2, a3⟩; first | omega | exact okBad1 (by assumption) (a3 i hi1 (by omega)) | exact okBad2 (by assumption) (a3 i hi1 (by omega)))], hp.kp⟩
          | (obtain rfl : l = [] := by (cases l with | nil => rfl | cons x t => simp at c1)
             exact ⟨by rw [hI.stop], hp.kp⟩)
      · refine TL.gT rfl rfl ?_
        refine TL.opP rfl (op_move rfl) ?_
        refine TL.gT rfl rfl ?_
        refine TL.opV rfl (op_lenV rfl un_sl_uint8 rfl rd0) ?_
        refine TL.gT rfl rfl ?_
        refine TL.opP rfl (op_move rfl) ?_
        refine TL.gT rfl rfl ?_
        refine TL.opP rfl (op_lss rfl rfl) ?_
        refine TL.opP rfl (op_pickF rfl rfl) ?_
        refine TL.nil ?_
        refine TQ.then ?_
        first | refine TC.condD rfl (fun c36 => ?_) (fun c36 => ?_) | refine TC.condB rfl (fun c36 => ?_) (fun c36 => ?_)
        · refine TC.seq ?_
          refine TC.region ?_   -- region 23 ref.go:162
          refine TL.opP rfl (op_assign rfl) ?_
          refine TL.nil ?_
          refine TQ.then ?_
          refine TC.ret ?_
          refine TQ.then_ret ?_
          refine TQ.block_ret ?_
          refine TQ.loop_ret ?_
          refine TQ.block_ret ?_
          refine TQ.then_ret ?_
          refine ret1 rfl rfl (fun w' hp => ?_)
          first
            | exact ⟨by rw [hI.bad hne (by rintro ⟨a1, a2, a3⟩; first | omega | exact okBad1 (by assumption) (a3 i hi1 (by omega)) | exact okBad2 (by assumption) (a3 i hi1 (by omega)))], hp.kp⟩
            | (obtain rfl : l = [] := by (cases l with | nil => rfl | cons x t => simp at c1)
               exact ⟨by rw [hI.stop], hp.kp⟩)
        · refine TC.skip ?_
          refine TQ.then ?_
          refine TC.seq ?_
          refine TC.seq ?_
          refine TC.region ?_   -- region 24 ref.go:164
          refine TL.opP rfl (op_assign rfl) ?_
          refine TL.nil ?_
          refine TQ.then ?_
          refine TC.block ?_
          refine TC.loop (ι := Nat) (fun i => [(0, bv), (3, .int .i64 n), (4, .int .i64 ((kOf (by' l 0) : Nat) : Int)), (5, .int .u8 ((if i = 1 then loOf (by' l 0) else 128 : Nat) : Int)), (6, .int .u8 ((if i = 1 then hiOf (by' l 0) else 191 : Nat) : Int)), (8, .int .i64 (i : Int))]) (fun i => [.rd bv 1 l.length (l.map u8v)]) (fun i => 1 ≤ i ∧ i ≤ kOf (by' l 0) ∧ ∀ j, 1 ≤ j → j < i → okAt l j) (fun i => kOf (by' l 0) - i) (1) (⟨Nat.le_refl _, by omega, fun j a b => by omega⟩) ⟨rfl, rfl, rfl, rfl, rfl, rfl, trivial⟩ (fun _ h => h) ?_
          rintro i ⟨hi1, hik, hij⟩
          refine TC.seq ?_
          refine TC.seq ?_
          refine TC.region ?_   -- region 25 ref.go:164
          refine TL.opP rfl (op_move rfl) ?_
          refine TL.opP rfl (op_move rfl) ?_
          refine TL.opP rfl (op_lss rfl rfl) ?_
          refine TL.nil ?_
          refine TQ.then ?_
          first | refine TC.condD rfl (fun c37 => ?_) (fun c37 => ?_) | refine TC.condB rfl (fun c37 => ?_) (fun c37 => ?_)
          · refine TC.skip ?_
            refine TQ.then ?_
            refine TC.seq ?_
            refine TC.block ?_
            refine TC.seq ?_
            refine TC.seq ?_
            refine TC.region ?_   -- region 27 ref.go:165
            refine TL.opP rfl (op_move rfl) ?_
            refine TL.opP rfl (op_move rfl) ?_
            refine TL.opV rfl (op_index tsl_uint8 rfl rd0 rfl (by omega) (by omega)) ?_
            refine TL.opV rfl (op_loadR ts_uint8 rfl rd0 (lkU8 (i := i) (by omega) (by omega))) ?_
            refine TL.opP rfl (op_move rfl) ?_
            refine TL.opP rfl (op_lss rfl rfl) ?_
            refine TL.opP rfl (op_move rfl) ?_
            first | refine TL.splitD (fun c38 => ?_) (fun c38 => ?_) | refine TL.splitB (fun c38 => ?_) (fun c38 => ?_)
            · refine TL.gFt rfl rfl rfl ?_
              refine TL.gFt rfl rfl rfl ?_
              refine TL.gFt rfl rfl rfl ?_
              refine TL.gFt rfl rfl rfl ?_
              refine TL.gFt rfl rfl rfl ?_
              refine TL.gFt rfl rfl rfl ?_
              refine TL.opP rfl (op_pickT rfl rfl) ?_
              refine TL.nil ?_
              refine TQ.then ?_
              refine TC.condT rfl ?_
              refine TC.seq ?_
              refine TC.region ?_   -- region 28 ref.go:166
              refine TL.opP rfl (op_assign rfl) ?_
              refine TL.nil ?_
              refine TQ.then ?_
              refine TC.ret ?_
              refine TQ.then_ret ?_
              refine TQ.block_ret ?_
              refine TQ.then_ret ?_
              refine TQ.loop_ret ?_
              refine TQ.block_ret ?_
              refine TQ.then_ret ?_
              refine TQ.block_ret ?_
              refine TQ.loop_ret ?_
              refine TQ.block_ret ?_
              refine TQ.then_ret ?_
              refine ret1 rfl rfl (fun w' hp => ?_)
              first
                | exact ⟨by rw [hI.bad hne (by rintro ⟨a1, a2, a3⟩; first | omega | exact okBad1 (by assumption) (a3 i hi1 (by omega)) | exact okBad2 (by assumption) (a3 i hi1 (by omega)))], hp.kp⟩
                | (obtain rfl : l = [] := by (cases l with | nil => rfl | cons x t => simp at c1)
                   exact ⟨by rw [hI.stop], hp.kp⟩)
            · refine TL.gT rfl rfl ?_
              refine TL.opP rfl (op_move rfl) ?_
              refine TL.gT rfl rfl ?_
              refine TL.opP rfl (op_move rfl) ?_
              refine TL.gT rfl rfl ?_
              refine TL.opV rfl (op_index tsl_uint8 rfl rd0 rfl (by omega) (by omega)) ?_
              refine TL.gT rfl rfl ?_
              refine TL.opV rfl (op_loadR ts_uint8 rfl rd0 (lkU8 (i := i) (by omega) (by omega))) ?_
              refine TL.gT rfl rfl ?_
              refine TL.opP rfl (op_move rfl) ?_
              refine TL.gT rfl rfl ?_
              refine TL.opP rfl (op_gtr rfl rfl) ?_
              refine TL.opP rfl (op_pickF rfl rfl) ?_
              refine TL.nil ?_
              refine TQ.then ?_
              first | refine TC.condD rfl (fun c39 => ?_) (fun c39 => ?_) | refine TC.condB rfl (fun c39 => ?_) (fun c39 => ?_)
              · refine TC.seq ?_
                refine TC.region ?_   -- region 28 ref.go:166
                refine TL.opP rfl (op_assign rfl) ?_
                refine TL.nil ?_
                refine TQ.then ?_
                refine TC.ret ?_
                refine TQ.then_ret ?_
                refine TQ.block_ret ?_
                refine TQ.then_ret ?_
                refine TQ.loop_ret ?_
                refine TQ.block_ret ?_
                refine TQ.then_ret ?_
                refine TQ.block_ret ?_
                refine TQ.loop_ret ?_
                refine TQ.block_ret ?_
                refine TQ.then_ret ?_
                refine ret1 rfl rfl (fun w' hp => ?_)
                first
                  | exact ⟨by rw [hI.bad hne (by rintro ⟨a1, a2, a3⟩; first | omega | exact okBad1 (by assumption) (a3 i hi1 (by omega)) | exact okBad2 (by assumption) (a3 i hi1 (by omega)))], hp.kp⟩
                  | (obtain rfl : l = [] := by (cases l with | nil => rfl | cons x t => simp at c1)
                     exact ⟨by rw [hI.stop], hp.kp⟩)
              · refine TC.skip ?_
                refine TQ.then ?_
                refine TC.seq ?_
                refine TC.region ?_   -- region 29 ref.go:168
                refine TL.opP rfl (op_assign rfl) ?_
                refine TL.nil ?_
                refine TQ.then ?_
                refine TC.region ?_   -- region 30 ref.go:169
                refine TL.opP rfl (op_assign rfl) ?_
                refine TL.nil ?_
                refine TQ.block_normal ?_
                refine TQ.then ?_
                refine TC.region ?_   -- region 26 ref.go:164
                refine TL.opP rfl (op_move rfl) ?_
                refine TL.opP rfl (op_add rfl rfl rfl (by omega) (by omega)) ?_
                refine TL.opP rfl (op_assign rfl) ?_
                refine TL.nil ?_
                exact TQ.round (i + 1) (⟨by omega, by omega, okAt_succ hij (okAt_of (by assumption) (by assumption))⟩) (by omega) ⟨rfl, rfl, rfl, gi rfl (by rw [if_neg (by omega)]; rfl), gi rfl (by rw [if_neg (by omega)]; rfl), rfl, trivial⟩ (fun _ h => h)
          · have hok : stepOk l := ⟨by omega, by omega, fun j a b => hij j a (by omega)⟩
            refine TC.exit ?_
            refine TQ.then_exit ?_
            refine TQ.loop_exit ?_
            refine TQ.block_hit ?_
            refine TQ.then ?_
            refine TC.seq ?_
            refine TC.region ?_   -- region 31 ref.go:171
            refine TL.opP rfl (op_move rfl) ?_
            refine TL.opP rfl (op_move rfl) ?_
            refine TL.opV rfl (op_cut (kOf (by' l 0)) l.length tsl_uint8 rfl rd0 (vlo := (some _)) (vhi := none) rfl rfl (.inr ⟨_, _, rfl, by omega⟩) (.inl ⟨rfl, rfl⟩) (by omega) (by omega)) ?_
            refine TL.opP rfl (op_assign rfl) ?_
            refine TL.hp (fun _ h => rd_dropF h (kOf (by' l 0)) (by omega)) ?_
            refine TL.nil ?_
            refine TQ.then ?_
            refine TC.region ?_   -- region 32 ref.go:172
            refine TL.opP rfl (op_move rfl) ?_
            refine TL.opP rfl (op_add rfl rfl rfl (by omega) (by omega)) ?_
            refine TL.opP rfl (op_assign rfl) ?_
            refine TL.nil ?_
            refine TQ.block_normal ?_
            exact TQ.round (l.drop (kOf (by' l 0)), n + 1, Value.cut bv (kOf (by' l 0)) l.length 1) (hI.step hne hok) (by show (l.drop _).length < l.length; rw [List.length_drop]; have := hok.1; omega) ⟨rfl, rfl, trivial⟩ (fun _ h => h)
  · refine TC.exit ?_
    refine TQ.then_exit ?_
    refine TQ.loop_exit ?_
    refine TQ.block_hit ?_
    refine TQ.then ?_
    refine TC.seq ?_
    refine TC.region ?_   -- region 33 ref.go:174
    refine TL.opP rfl (op_move rfl) ?_
    refine TL.opP rfl (op_assign rfl) ?_
    refine TL.nil ?_
    refine TQ.then ?_
    refine TC.ret ?_
    refine ret1 rfl rfl (fun w' hp => ?_)
    first
      | exact ⟨by rw [hI.bad hne (by rintro ⟨a1, a2, a3⟩; first | omega | exact okBad1 (by assumption) (a3 i hi1 (by omega)) | exact okBad2 (by assumption) (a3 i hi1 (by omega)))], hp.kp⟩
      | (obtain rfl : l = [] := by (cases l with | nil => rfl | cons x t => simp at c1)
         exact ⟨by rw [hI.stop], hp.kp⟩)

theorem rfits_calls (p : Part) (w : World) (hs : p.text.size < 9223372036854775807) :
    Calls Tryd.prog 59 (List.toArray [p.val]) w fun e w' => e = .returned (.bool (fitsB p)) ∧ Kp NoB w w' := by
  refine calls_start Tryd.func59 rfl rfl rfl (Hp.init0 w) ?_
  refine TC.seq ?_
  refine TC.region ?_   -- region 0 ref.go:17
  refine TL.opX rfl (OpX.box (cs := p.cs) rfl rfl) ?_; rintro _ _ ⟨g1, rfl, rfl⟩
  refine TL.opP rfl (op_assign rfl) ?_
  refine TL.nil ?_
  refine TQ.then ?_
  refine TC.seq ?_
  refine TC.seq ?_
  refine TC.region ?_   -- region 1 ref.go:18
  refine TL.opP rfl (op_field fld_api_Part_N rfl) ?_
  refine TL.opV rfl (op_load ts_int rfl m0 rfl) ?_
  refine TL.opP rfl (op_lss rfl rfl) ?_
  refine TL.opP rfl (op_move rfl) ?_
  first | refine TL.splitD (fun c1 => ?_) (fun c1 => ?_) | refine TL.splitB (fun c1 => ?_) (fun c1 => ?_)
  · refine TL.gFt rfl rfl rfl ?_
    refine TL.gFt rfl rfl rfl ?_
    refine TL.gFt rfl rfl rfl ?_
    refine TL.opP rfl (op_pickT rfl rfl) ?_
    refine TL.nil ?_
    refine TQ.then ?_
    refine TC.condT rfl ?_
    refine TC.seq ?_
    refine TC.region ?_   -- region 2 ref.go:19
    refine TL.opP rfl (op_assign rfl) ?_
    refine TL.nil ?_
    refine TQ.then ?_
    refine TC.ret ?_
    refine TQ.then_ret ?_
    refine ret1 rfl rfl (fun w' hp => ?_)
    exact ⟨by first | rw [fitsB_two c1 c2 c3] | (unfold fitsB; rw [rcount_dec]; grind), hp.kp⟩
  · refine TL.gT rfl rfl ?_
    refine TL.opP rfl (op_field fld_api_Part_N rfl) ?_
    refine TL.gT rfl rfl ?_
    refine TL.opV rfl (op_load ts_int rfl m0 rfl) ?_
    refine TL.gT rfl rfl ?_
    refine TL.opP rfl (op_gtr rfl rfl) ?_
    refine TL.opP rfl (op_pickF rfl rfl) ?_
    refine TL.nil ?_
    refine TQ.then ?_
    first | refine TC.condD rfl (fun c2 => ?_) (fun c2 => ?_) | refine TC.condB rfl (fun c2 => ?_) (fun c2 => ?_)
    · refine TC.seq ?_
      refine TC.region ?_   -- region 2 ref.go:19
      refine TL.opP rfl (op_assign rfl) ?_
      refine TL.nil ?_
      refine TQ.then ?_
      refine TC.ret ?_
      refine TQ.then_ret ?_
      refine ret1 rfl rfl (fun w' hp => ?_)
      exact ⟨by first | rw [fitsB_two c1 c2 c3] | (unfold fitsB; rw [rcount_dec]; grind), hp.kp⟩
    · refine TC.skip ?_
      refine TQ.then ?_
      refine TC.seq ?_
      refine TC.seq ?_
      refine TC.region ?_   -- region 3 ref.go:21
      refine TL.opP rfl (op_field fld_api_Part_Kind rfl) ?_
      refine TL.opV rfl (op_load ts_int rfl m0 rfl) ?_
      refine TL.opP rfl (op_eql rfl rfl) ?_
      refine TL.nil ?_
      refine TQ.then ?_
      first | refine TC.condD rfl (fun c3 => ?_) (fun c3 => ?_) | refine TC.condB rfl (fun c3 => ?_) (fun c3 => ?_)
      · refine TC.seq ?_
        refine TC.draw [] (.cons (.p, 0) (.cons (.p, 4) (.cons (.t, 1) (.cons (.t, 5) (.cons (.o, 2) (.cons (.o, 3) (.cons (.p, 6) (.cons (.p, 7) (.nil))))))))) mo (by kernel_rfl) ?_   -- region 4 ref.go:22
        refine TR.p rfl rfl wt0 (op_field fld_api_Part_Text rfl) ?_
        refine TR.p rfl rfl wt0 (op_field fld_api_Part_N rfl) ?_
        refine TR.t rfl rfl wt0 (op_load ts_string rfl m0 rfl) (fun _ h => h) ?_
        refine TR.t rfl rfl wt0 (op_load ts_int rfl m0 rfl) (fun _ h => h) ?_
        refine TR.o rfl rfl wt0 (OpX.bytes un_string tsl_uint8 un_uint8 rfl (by simp only [maxLen]; omega)) (by rintro v1 _ rfl; intro w h; exact h.tail) ?_; rintro v1 _ rfl
        refine TR.know (fun _ h => rd1' h) (fun o1 => ?_)
        refine TR.o rfl rfl wt0 (OpX.callX en_56 rfl (CallX.of_quiet (fun w2 hp => runes_calls p.text.data.toList _ w2 (by rw [size_len]; exact rd0 _ _ _ hp)))) (by rintro _ _ ⟨rfl, rfl⟩; intro w h; exact h.tail) ?_; rintro _ _ ⟨rfl, rfl⟩
        refine TR.p rfl rfl wt0 (op_eql rfl rfl) ?_
        refine TR.p rfl rfl wt0 (op_assign rfl) ?_
        refine TR.nil ?_
        refine TQ.then ?_
        refine TC.ret ?_
        refine TQ.then_ret ?_
        refine ret1 rfl rfl (fun w' hp => ?_)
        exact ⟨by first | rw [fitsB_two c1 c2 c3] | (unfold fitsB; rw [rcount_dec]; grind), hp.kp⟩
      · refine TC.skip ?_
        refine TQ.then ?_
        refine TC.seq ?_
        refine TC.region ?_   -- region 5 ref.go:24
        refine TL.opP rfl (op_field fld_api_Part_Kind rfl) ?_
        refine TL.opV rfl (op_load ts_int rfl m0 rfl) ?_
        refine TL.opP rfl (op_eql rfl rfl) ?_
        refine TL.opP rfl (op_move rfl) ?_
        first | refine TL.splitD (fun c4 => ?_) (fun c4 => ?_) | refine TL.splitB (fun c4 => ?_) (fun c4 => ?_)
        · refine TL.gFt rfl rfl rfl ?_
          refine TL.gFt rfl rfl rfl ?_
          refine TL.gFt rfl rfl rfl ?_
          refine TL.opP rfl (op_pickT rfl rfl) ?_
          refine TL.opP rfl (op_move rfl) ?_
          refine TL.gT rfl rfl ?_
          refine TL.opP rfl (op_field fld_api_Part_Text rfl) ?_
          refine TL.gT rfl rfl ?_
          refine TL.opV rfl (op_load ts_string rfl m0 rfl) ?_
          refine TL.gT rfl rfl ?_
          refine TL.opP rfl (op_seql rfl rfl) ?_
          refine TL.opP rfl (op_pickT rfl rfl) ?_
          refine TL.opP rfl (op_assign rfl) ?_
          refine TL.nil ?_
          refine TQ.then ?_
          refine TC.ret ?_
          refine ret1 rfl rfl (fun w' hp => ?_)
          exact ⟨by first | rw [fitsB_two c1 c2 c3] | (unfold fitsB; rw [rcount_dec]; grind), hp.kp⟩
        · refine TL.gT rfl rfl ?_
          refine TL.opP rfl (op_field fld_api_Part_Kind rfl) ?_
          refine TL.gT rfl rfl ?_
          refine TL.opV rfl (op_load ts_int rfl m0 rfl) ?_
          refine TL.gT rfl rfl ?_
          refine TL.opP rfl (op_eql rfl rfl) ?_
          refine TL.opP rfl (op_pickF rfl rfl) ?_
          refine TL.opP rfl (op_move rfl) ?_
          first | refine TL.splitD (fun c5 => ?_) (fun c5 => ?_) | refine TL.splitB (fun c5 => ?_) (fun c5 => ?_)
          · refine TL.gT rfl rfl ?_
            refine TL.opP rfl (op_field fld_api_Part_Text rfl) ?_
            refine TL.gT rfl rfl ?_
            refine TL.opV rfl (op_load ts_string rfl m0 rfl) ?_
            refine TL.gT rfl rfl ?_
            refine TL.opP rfl (op_seql rfl rfl) ?_
            refine TL.opP rfl (op_pickT rfl rfl) ?_
            refine TL.opP rfl (op_assign rfl) ?_
            refine TL.nil ?_
            refine TQ.then ?_
            refine TC.ret ?_
            refine ret1 rfl rfl (fun w' hp => ?_)
            exact ⟨by first | rw [fitsB_two c1 c2 c3] | (unfold fitsB; rw [rcount_dec]; grind), hp.kp⟩
          · refine TL.gFf rfl rfl rfl ?_
            refine TL.gFf rfl rfl rfl ?_
            refine TL.gFf rfl rfl rfl ?_
            refine TL.opP rfl (op_pickF rfl rfl) ?_
            refine TL.opP rfl (op_assign rfl) ?_
            refine TL.nil ?_
            refine TQ.then ?_
            refine TC.ret ?_
            refine ret1 rfl rfl (fun w' hp => ?_)
            exact ⟨by first | rw [fitsB_two c1 c2 c3] | (unfold fitsB; rw [rcount_dec]; grind), hp.kp⟩

theorem rsize_calls (e : List Part) (v : Value) (w : World) (hs : ∀ p ∈ e, p.text.size < 9223372036854775807) (hv : RdRow w v 3 e.length (encs e)) :
    Calls Tryd.prog 28 (List.toArray [v]) w fun e' w' => e' = .returned (.tuple #[.int .i64 (sizeF e).1, .int .i64 (sizeF e).2, .int .i64 (sizeE e)]) ∧ Kp NoB w w' := by
  have hlen : e.length ≤ 9223372036854775807 := by obtain ⟨_, A, c, _, h1, h2, _⟩ := hv; simp only [maxLen] at h2; omega
  refine calls_start Tryd.func28 rfl rfl rfl (Hp.i1 (r := .rd v 3 e.length (encs e)) hv) ?_
  refine TC.seq ?_
  refine TC.region ?_   -- region 0 ref.go:28
  refine TL.opP rfl (op_assign rfl) ?_
  refine TL.opP rfl (op_assign rfl) ?_
  refine TL.opP rfl (op_assign rfl) ?_
  refine TL.nil ?_
  refine TQ.then ?_
  refine TC.seq ?_
  refine TC.region ?_   -- region 1 ref.go:29
  refine TL.opP rfl (op_assign rfl) ?_
  refine TL.opP rfl (op_assign rfl) ?_
  refine TL.nil ?_
  refine TQ.then ?_
  refine TC.seq ?_
  refine TC.seq ?_
  refine TC.region ?_   -- region 2 ref.go:30
  refine TL.opP rfl (op_move rfl) ?_
  refine TL.opV rfl (op_lenV rfl un_sl_api_Part rfl rd0) ?_
  refine TL.opP rfl (op_move rfl) ?_
  refine TL.nil ?_
  refine TQ.then ?_
  refine TC.block ?_
  refine TC.loop (ι := Nat × Int × Int) (fun (k, f, t) => [(0, v), (5, .int .i64 f), (6, .int .i64 t), (9, v), (10, .int .i64 (e.length : Int)), (11, .int .i64 (k : Int))]) (fun (k, f, t) => [.rd v 3 e.length (encs e)]) (fun (k, f, t) => k ≤ e.length ∧ sizesGo (prevAt e k) (e.drop k) f t = sizesF e ∧ 0 ≤ f ∧ f ≤ 1099511627776 ∧ 0 ≤ t ∧ t ≤ 1099511627776) (fun (k, f, t) => e.length - k) ((0, 0, 0)) (⟨Nat.zero_le _, rfl, by omega, by omega, by omega, by omega⟩) ⟨rfl, rfl, rfl, rfl, rfl, rfl, trivial⟩ (fun _ h => h) ?_
  rintro ⟨k, f, t⟩ ⟨hk, hgo, hf0, hf1, ht0, ht1⟩
  show TC _ _ _ _ [(0, v), (5, .int .i64 f), (6, .int .i64 t), (9, v), (10, .int .i64 (e.length : Int)), (11, .int .i64 (k : Int))] _ _ ([.rd v 3 e.length (encs e)])
  refine TC.seq ?_
  refine TC.region ?_   -- region 3 ref.go:30
  refine TL.opP rfl (op_lss rfl rfl) ?_
  refine TL.nil ?_
  refine TQ.then ?_
  refine TC.seq ?_
  first | refine TC.condD rfl (fun c1 => ?_) (fun c1 => ?_) | refine TC.condB rfl (fun c1 => ?_) (fun c1 => ?_)
  · have hkl : k < e.length := by omega
    obtain ⟨p, hpk⟩ : ∃ p, e.getD k default = p := ⟨_, rfl⟩
    have hd := drop_getD hkl hpk
    have hpe : p ∈ e := by rw [← hpk, List.getD_eq_getElem?_getD, List.getElem?_eq_getElem hkl]; exact List.getElem_mem hkl
    refine TC.skip ?_
    refine TQ.then ?_
    refine TC.seq ?_
    refine TC.block ?_
    refine TC.seq ?_
    refine TC.region ?_   -- region 4 ref.go:30
    refine TL.opP rfl (op_move rfl) ?_
    refine TL.opV rfl (op_index tsl_api_Part rfl rd0 rfl (by omega) (by omega)) ?_
    refine TL.opV rfl (op_loadRS tst_api_Part rfl rd0 (cs := p.cs) rfl (lkS hkl hpk) (by decide)) ?_
    refine TL.opX rfl (OpX.alloc tz_api_Part rfl) ?_; rintro _ _ ⟨g8, rfl, rfl⟩
    refine TL.opP rfl (op_assign rfl) ?_
    refine TL.opX0 (OpX.storeS tst_api_Part rfl rfl rfl rfl rfl (List.all_eq_true.1 rfl)) ?_; rintro _ _ rfl
    refine TL.nil ?_
    refine TQ.then ?_
    refine TC.seq ?_
    refine TC.join1 [(0, v), (5, .int .i64 f), (6, .int .i64 t), (9, v), (10, .int .i64 (e.length : Int)), (11, .int .i64 (k : Int)), (7, .int .i64 (k : Int)), (8, .pointer (some ⟨g8, 0, none⟩)), (47, .bool (stopB (prevAt e k) p))] ([.blk g8 (.cells p.cs.toArray 47 (0, 0)), .rd v 3 e.length (encs e)]) ?_ ?_
    · refine TC.draw [] (.cons (.t, 0) (.cons (.t, 1) (.cons (.p, 2) (.cons (.p, 3) (.cons (.p, 4) (.cons (.p, 5) (.cons (.p, 6) (.cons (.p, 7) (.cons (.p, 8) (.cons (.p, 9) (.cons (.p, 13) (.cons (.t, 10) (.cons (.p, 11) (.cons (.t, 12) (.cons (.t, 14) (.cons (.p, 15) (.cons (.p, 16) (.cons (.p, 17) (.cons (.p, 18) (.cons (.p, 19) (.cons (.t, 20) (.cons (.p, 21) (.cons (.t, 22) (.cons (.p, 23) (.cons (.p, 24) (.cons (.p, 25) (.cons (.t, 26) (.cons (.p, 27) (.cons (.p, 28) (.cons (.p, 29) (.cons (.p, 30) (.cons (.p, 31) (.nil))))))))))))))))))))))))))))))))) mo (by kernel_rfl) ?_   -- region 5 ref.go:31
      refine TR.t rfl rfl wt0 (op_loadS tst_api_Part rfl m0 rfl) (fun _ h => h) ?_
      refine TR.tcall rfl rfl wt0 en_59 rfl (fun w2 hp => rfits_calls p w2 (hs p hpe)) (fun _ h => h) ?_
      refine TR.p rfl rfl wt0 (op_not rfl rfl) ?_
      refine TR.p rfl rfl wt0 (op_move rfl) ?_
      first | refine TR.splitD (fun c2 => ?_) (fun c2 => ?_) | refine TR.splitB (fun c2 => ?_) (fun c2 => ?_)
      · refine TR.off rfl rfl (by exact wtFt rfl rfl) ?_
        refine TR.off rfl rfl (by exact wtFt rfl rfl) ?_
        refine TR.off rfl rfl (by exact wtFt rfl rfl) ?_
        refine TR.off rfl rfl (by exact wtU rfl rfl) ?_
        refine TR.off rfl rfl (by exact wtU rfl rfl) ?_
        refine TR.off rfl rfl (by exact wtU rfl rfl) ?_
        refine TR.off rfl rfl (by exact wtU rfl rfl) ?_
        refine TR.offT rfl rfl (by exact wtU rfl rfl) (fun _ h => h) ?_
        refine TR.off rfl rfl (by exact wtU rfl rfl) ?_
        refine TR.offT rfl rfl (by exact wtU rfl rfl) (fun _ h => h) ?_
        refine TR.offT rfl rfl (by exact wtU rfl rfl) (fun _ h => h) ?_
        refine TR.off rfl rfl (by exact wtU rfl rfl) ?_
        refine TR.off rfl rfl (by exact wtU rfl rfl) ?_
        refine TR.off rfl rfl (by exact wtU rfl rfl) ?_
        refine TR.off rfl rfl (by exact wtU rfl rfl) ?_
        refine TR.off rfl rfl (by exact wtU rfl rfl) ?_
        refine TR.offT rfl rfl (by exact wtU rfl rfl) (fun _ h => h) ?_
        refine TR.off rfl rfl (by exact wtU rfl rfl) ?_
        refine TR.offT rfl rfl (by exact wtU rfl rfl) (fun _ h => h) ?_
        refine TR.off rfl rfl (by exact wtU rfl rfl) ?_
        refine TR.off rfl rfl (by exact wtU rfl rfl) ?_
        refine TR.off rfl rfl (by exact wtU rfl rfl) ?_
        refine TR.offT rfl rfl (by exact wtU rfl rfl) (fun _ h => h) ?_
        refine TR.off rfl rfl (by exact wtU rfl rfl) ?_
        refine TR.off rfl rfl (by exact wtU rfl rfl) ?_
        refine TR.off rfl rfl (by exact wtU rfl rfl) ?_
        refine TR.off rfl rfl (by exact wtFt rfl rfl) ?_
        refine TR.p rfl rfl wt0 (op_pickT rfl rfl) ?_
        refine TR.nil ?_
        exact TQ.join1 ⟨rfl, rfl, rfl, rfl, rfl, rfl, rfl, rfl, gb rfl (by grind [stopB, prevAt]), trivial⟩ (fun _ h => h)
      · refine TR.p rfl rfl (by exact wtT rfl rfl) (op_move rfl) ?_
        refine TR.p rfl rfl (by exact wtT rfl rfl) (op_gtr rfl rfl) ?_
        refine TR.p rfl rfl (by exact wtT rfl rfl) (op_move rfl) ?_
        first | refine TR.splitD (fun c3 => ?_) (fun c3 => ?_) | refine TR.splitB (fun c3 => ?_) (fun c3 => ?_)
        · refine TR.p rfl rfl (by exact wtT rfl rfl) (op_move rfl) ?_
          refine TR.p rfl rfl (by exact wtT rfl rfl) (op_move rfl) ?_
          refine TR.p rfl rfl (by exact wtT rfl rfl) (op_sub rfl rfl rfl (by omega) (by omega)) ?_
          refine TR.p rfl rfl (by exact wtT rfl rfl) (op_field fld_api_Part_Kind rfl) ?_
          refine TR.t rfl rfl (by exact wtT rfl rfl) (op_index tsl_api_Part rfl rd1 rfl (by omega) (by omega)) (fun _ h => h) ?_
          refine TR.p rfl rfl (by exact wtT rfl rfl) (op_fieldA fld_api_Part_Kind rfl) ?_
          refine TR.t rfl rfl (by exact wtT rfl rfl) (op_loadR ts_int rfl rd1 (lk (xs := e) (i := k-1) (j := 0) (by omega) (by show _ = (k-1)*3+0; omega) rfl)) (fun _ h => h) ?_
          refine TR.t rfl rfl (by exact wtT rfl rfl) (op_load ts_int rfl m0 rfl) (fun _ h => h) ?_
          refine TR.p rfl rfl (by exact wtT rfl rfl) (op_eql rfl rfl) ?_
          refine TR.p rfl rfl (by exact wtT rfl rfl) (op_move rfl) ?_
          first | refine TR.splitD (fun c4 => ?_) (fun c4 => ?_) | refine TR.splitB (fun c4 => ?_) (fun c4 => ?_)
          · refine TR.off rfl rfl (by exact wtFt rfl rfl) ?_
            refine TR.off rfl rfl (by exact wtFt rfl rfl) ?_
            refine TR.off rfl rfl (by exact wtFt rfl rfl) ?_
            refine TR.offT rfl rfl (by exact wtFt rfl rfl) (fun _ h => h) ?_
            refine TR.off rfl rfl (by exact wtFt rfl rfl) ?_
            refine TR.offT rfl rfl (by exact wtFt rfl rfl) (fun _ h => h) ?_
            refine TR.off rfl rfl (by exact wtFt rfl rfl) ?_
            refine TR.off rfl rfl (by exact wtFt rfl rfl) ?_
            refine TR.off rfl rfl (by exact wtU rfl rfl) ?_
            refine TR.offT rfl rfl (by exact wtU rfl rfl) (fun _ h => h) ?_
            refine TR.off rfl rfl (by exact wtU rfl rfl) ?_
            refine TR.off rfl rfl (by exact wtFt rfl rfl) ?_
            refine TR.p rfl rfl (by exact wtT rfl rfl) (op_pickT rfl rfl) ?_
            refine TR.p rfl rfl (by exact wtT rfl rfl) (op_pickT rfl rfl) ?_
            refine TR.p rfl rfl wt0 (op_pickF rfl rfl) ?_
            refine TR.nil ?_
            exact TQ.join1 ⟨rfl, rfl, rfl, rfl, rfl, rfl, rfl, rfl, gb rfl (by grind [stopB, prevAt]), trivial⟩ (fun _ h => h)
          · refine TR.p rfl rfl (by exact wtT rfl rfl) (op_move rfl) ?_
            refine TR.p rfl rfl (by exact wtT rfl rfl) (op_move rfl) ?_
            refine TR.p rfl rfl (by exact wtT rfl rfl) (op_sub rfl rfl rfl (by omega) (by omega)) ?_
            refine TR.t rfl rfl (by exact wtT rfl rfl) (op_index tsl_api_Part rfl rd1 rfl (by omega) (by omega)) (fun _ h => h) ?_
            refine TR.p rfl rfl (by exact wtT rfl rfl) (op_fieldA fld_api_Part_Kind rfl) ?_
            refine TR.t rfl rfl (by exact wtT rfl rfl) (op_loadR ts_int rfl rd1 (lk (xs := e) (i := k-1) (j := 0) (by omega) (by show _ = (k-1)*3+0; omega) rfl)) (fun _ h => h) ?_
            refine TR.p rfl rfl (by exact wtT rfl rfl) (op_eql rfl rfl) ?_
            refine TR.p rfl rfl (by exact wtT rfl rfl) (op_move rfl) ?_
            first | refine TR.splitD (fun c5 => ?_) (fun c5 => ?_) | refine TR.splitB (fun c5 => ?_) (fun c5 => ?_)
            · refine TR.p rfl rfl (by exact wtT rfl rfl) (op_field fld_api_Part_Kind rfl) ?_
              refine TR.t rfl rfl (by exact wtT rfl rfl) (op_load ts_int rfl m0 rfl) (fun _ h => h) ?_
              refine TR.p rfl rfl (by exact wtT rfl rfl) (op_eql rfl rfl) ?_
              refine TR.p rfl rfl (by exact wtT rfl rfl) (op_pickT rfl rfl) ?_
              refine TR.p rfl rfl (by exact wtT rfl rfl) (op_pickF rfl rfl) ?_
              refine TR.p rfl rfl (by exact wtT rfl rfl) (op_pickT rfl rfl) ?_
              refine TR.p rfl rfl wt0 (op_pickF rfl rfl) ?_
              refine TR.nil ?_
              exact TQ.join1 ⟨rfl, rfl, rfl, rfl, rfl, rfl, rfl, rfl, gb rfl (by grind [stopB, prevAt]), trivial⟩ (fun _ h => h)
            · refine TR.off rfl rfl (by exact wtFf rfl rfl) ?_
              refine TR.offT rfl rfl (by exact wtFf rfl rfl) (fun _ h => h) ?_
              refine TR.off rfl rfl (by exact wtFf rfl rfl) ?_
              refine TR.p rfl rfl (by exact wtT rfl rfl) (op_pickF rfl rfl) ?_
              refine TR.p rfl rfl (by exact wtT rfl rfl) (op_pickF rfl rfl) ?_
              refine TR.p rfl rfl (by exact wtT rfl rfl) (op_pickT rfl rfl) ?_
              refine TR.p rfl rfl wt0 (op_pickF rfl rfl) ?_
              refine TR.nil ?_
              exact TQ.join1 ⟨rfl, rfl, rfl, rfl, rfl, rfl, rfl, rfl, gb rfl (by grind [stopB, prevAt]), trivial⟩ (fun _ h => h)
        · refine TR.off rfl rfl (by exact wtFf rfl rfl) ?_
          refine TR.off rfl rfl (by exact wtFf rfl rfl) ?_
          refine TR.off rfl rfl (by exact wtFf rfl rfl) ?_
          refine TR.off rfl rfl (by exact wtFf rfl rfl) ?_
          refine TR.offT rfl rfl (by exact wtFf rfl rfl) (fun _ h => h) ?_
          refine TR.off rfl rfl (by exact wtFf rfl rfl) ?_
          refine TR.offT rfl rfl (by exact wtFf rfl rfl) (fun _ h => h) ?_
          refine TR.offT rfl rfl (by exact wtFf rfl rfl) (fun _ h => h) ?_
          refine TR.off rfl rfl (by exact wtFf rfl rfl) ?_
          refine TR.off rfl rfl (by exact wtFf rfl rfl) ?_
          refine TR.off rfl rfl (by exact wtU rfl rfl) ?_
          refine TR.off rfl rfl (by exact wtU rfl rfl) ?_
          refine TR.off rfl rfl (by exact wtU rfl rfl) ?_
          refine TR.offT rfl rfl (by exact wtU rfl rfl) (fun _ h => h) ?_
          refine TR.off rfl rfl (by exact wtU rfl rfl) ?_
          refine TR.offT rfl rfl (by exact wtU rfl rfl) (fun _ h => h) ?_
          refine TR.off rfl rfl (by exact wtU rfl rfl) ?_
          refine TR.off rfl rfl (by exact wtU rfl rfl) ?_
          refine TR.off rfl rfl (by exact wtU rfl rfl) ?_
          refine TR.offT rfl rfl (by exact wtU rfl rfl) (fun _ h => h) ?_
          refine TR.off rfl rfl (by exact wtU rfl rfl) ?_
          refine TR.off rfl rfl (by exact wtU rfl rfl) ?_
          refine TR.off rfl rfl (by exact wtFf rfl rfl) ?_
          refine TR.p rfl rfl (by exact wtT rfl rfl) (op_pickF rfl rfl) ?_
          refine TR.p rfl rfl wt0 (op_pickF rfl rfl) ?_
          refine TR.nil ?_
          exact TQ.join1 ⟨rfl, rfl, rfl, rfl, rfl, rfl, rfl, rfl, gb rfl (by grind [stopB, prevAt]), trivial⟩ (fun _ h => h)
    · first | refine TC.condD rfl (fun c6 => ?_) (fun c6 => ?_) | refine TC.condB rfl (fun c6 => ?_) (fun c6 => ?_)
      · refine TC.seq ?_
        refine TC.region ?_   -- region 6 ref.go:32
        refine TL.opP rfl (op_assign rfl) ?_
        refine TL.opP rfl (op_assign rfl) ?_
        refine TL.opP rfl (op_assign rfl) ?_
        refine TL.nil ?_
        refine TQ.then ?_
        refine TC.ret ?_
        refine TQ.then_ret ?_
        refine TQ.block_ret ?_
        refine TQ.then_ret ?_
        refine TQ.loop_ret ?_
        refine TQ.block_ret ?_
        refine TQ.then_ret ?_
        refine ret3 rfl rfl rfl rfl (fun w' hp => ?_)
        exact ⟨by simp only [sizeF, sizeE]; rw [← hgo]; first | (rw [List.drop_eq_nil_of_le (by omega)]; rfl) | (rw [hd]; simp only [sizesGo]; grind [addF, addT]), hp.kp⟩
      · have hfit := fitsB_n (stopB_fits c6)
        refine TC.skip ?_
        refine TQ.then ?_
        refine TC.seq ?_
        refine TC.seq ?_
        refine TC.region ?_   -- region 7 ref.go:34
        refine TL.opP rfl (op_field fld_api_Part_Kind rfl) ?_
        refine TL.opV rfl (op_load ts_int rfl m0 rfl) ?_
        refine TL.opP rfl (op_neq rfl rfl) ?_
        refine TL.nil ?_
        refine TQ.then ?_
        first | refine TC.condD rfl (fun c7 => ?_) (fun c7 => ?_) | refine TC.condB rfl (fun c7 => ?_) (fun c7 => ?_)
        · refine TC.region ?_   -- region 8 ref.go:35
          refine TL.opP rfl (op_move rfl) ?_
          refine TL.opP rfl (op_field fld_api_Part_N rfl) ?_
          refine TL.opV rfl (op_load ts_int rfl m0 rfl) ?_
          refine TL.opP rfl (op_add rfl rfl rfl (by omega) (by omega)) ?_
          refine TL.opP rfl (op_assign rfl) ?_
          refine TL.nil ?_
          refine TQ.then ?_
          refine TC.seq ?_
          refine TC.seq ?_
          refine TC.region ?_   -- region 9 ref.go:37
          refine TL.opP rfl (op_field fld_api_Part_Kind rfl) ?_
          refine TL.opV rfl (op_load ts_int rfl m0 rfl) ?_
          refine TL.opP rfl (op_neq rfl rfl) ?_
          refine TL.nil ?_
          refine TQ.then ?_
          first | refine TC.condD rfl (fun c8 => ?_) (fun c8 => ?_) | refine TC.condB rfl (fun c8 => ?_) (fun c8 => ?_)
          · refine TC.region ?_   -- region 10 ref.go:38
            refine TL.opP rfl (op_move rfl) ?_
            refine TL.opP rfl (op_field fld_api_Part_N rfl) ?_
            refine TL.opV rfl (op_load ts_int rfl m0 rfl) ?_
            refine TL.opP rfl (op_add rfl rfl rfl (by omega) (by omega)) ?_
            refine TL.opP rfl (op_assign rfl) ?_
            refine TL.nil ?_
            refine TQ.then ?_
            refine TC.seq ?_
            refine TC.region ?_   -- region 11 ref.go:40
            refine TL.opP rfl (op_move rfl) ?_
            refine TL.opP rfl (op_gtr rfl rfl) ?_
            refine TL.opP rfl (op_move rfl) ?_
            first | refine TL.splitD (fun c9 => ?_) (fun c9 => ?_) | refine TL.splitB (fun c9 => ?_) (fun c9 => ?_)
            · refine TL.gFt rfl rfl rfl ?_
              refine TL.gFt rfl rfl rfl ?_
              refine TL.opP rfl (op_pickT rfl rfl) ?_
              refine TL.nil ?_
              refine TQ.then ?_
              refine TC.condT rfl ?_
              refine TC.seq ?_
              refine TC.region ?_   -- region 12 ref.go:41
              refine TL.opP rfl (op_assign rfl) ?_
              refine TL.opP rfl (op_assign rfl) ?_
              refine TL.opP rfl (op_assign rfl) ?_
              refine TL.nil ?_
              refine TQ.then ?_
              refine TC.ret ?_
              refine TQ.block_ret ?_
              refine TQ.then_ret ?_
              refine TQ.loop_ret ?_
              refine TQ.block_ret ?_
              refine TQ.then_ret ?_
              refine ret3 rfl rfl rfl rfl (fun w' hp => ?_)
              exact ⟨by simp only [sizeF, sizeE]; rw [← hgo]; first | (rw [List.drop_eq_nil_of_le (by omega)]; rfl) | (rw [hd]; simp only [sizesGo]; grind [addF, addT]), hp.kp⟩
            · refine TL.gT rfl rfl ?_
              refine TL.opP rfl (op_move rfl) ?_
              refine TL.gT rfl rfl ?_
              refine TL.opP rfl (op_gtr rfl rfl) ?_
              refine TL.opP rfl (op_pickF rfl rfl) ?_
              refine TL.nil ?_
              refine TQ.then ?_
              first | refine TC.condD rfl (fun c10 => ?_) (fun c10 => ?_) | refine TC.condB rfl (fun c10 => ?_) (fun c10 => ?_)
              · refine TC.seq ?_
                refine TC.region ?_   -- region 12 ref.go:41
                refine TL.opP rfl (op_assign rfl) ?_
                refine TL.opP rfl (op_assign rfl) ?_
                refine TL.opP rfl (op_assign rfl) ?_
                refine TL.nil ?_
                refine TQ.then ?_
                refine TC.ret ?_
                refine TQ.block_ret ?_
                refine TQ.then_ret ?_
                refine TQ.loop_ret ?_
                refine TQ.block_ret ?_
                refine TQ.then_ret ?_
                refine ret3 rfl rfl rfl rfl (fun w' hp => ?_)
                exact ⟨by simp only [sizeF, sizeE]; rw [← hgo]; first | (rw [List.drop_eq_nil_of_le (by omega)]; rfl) | (rw [hd]; simp only [sizesGo]; grind [addF, addT]), hp.kp⟩
              · refine TC.skip ?_
                refine TQ.block_normal ?_
                refine TQ.then ?_
                refine TC.region ?_   -- region 13 ref.go:30
                refine TL.opP rfl (op_add rfl rfl rfl (by omega) (by omega)) ?_
                refine TL.opP rfl (op_move rfl) ?_
                refine TL.nil ?_
                exact TQ.round (k + 1, addF p f, addT p t) (⟨by omega, by simp only [prevAt, Nat.add_sub_cancel, hpk]; rw [if_neg (by omega)]; rw [← hgo, hd, sizesGo, c6]; grind [addF, addT], by grind [addF], by grind [addF], by grind [addT], by grind [addT]⟩) (by show _ - (k + 1) < _ - k; omega) ⟨rfl, gi rfl (by grind [addF]), gi rfl (by grind [addT]), rfl, rfl, rfl, trivial⟩ (fun _ h => h.tail)
          · refine TC.skip ?_
            refine TQ.then ?_
            refine TC.seq ?_
            refine TC.region ?_   -- region 11 ref.go:40
            refine TL.opP rfl (op_move rfl) ?_
            refine TL.opP rfl (op_gtr rfl rfl) ?_
            refine TL.opP rfl (op_move rfl) ?_
            first | refine TL.splitD (fun c11 => ?_) (fun c11 => ?_) | refine TL.splitB (fun c11 => ?_) (fun c11 => ?_)
            · refine TL.gFt rfl rfl rfl ?_
              refine TL.gFt rfl rfl rfl ?_
              refine TL.opP rfl (op_pickT rfl rfl) ?_
              refine TL.nil ?_
              refine TQ.then ?_
              refine TC.condT rfl ?_
              refine TC.seq ?_
              refine TC.region ?_   -- region 12 ref.go:41
              refine TL.opP rfl (op_assign rfl) ?_
              refine TL.opP rfl (op_assign rfl) ?_
              refine TL.opP rfl (op_assign rfl) ?_
              refine TL.nil ?_
              refine TQ.then ?_
              refine TC.ret ?_
              refine TQ.block_ret ?_
              refine TQ.then_ret ?_
              refine TQ.loop_ret ?_
              refine TQ.block_ret ?_
              refine TQ.then_ret ?_
              refine ret3 rfl rfl rfl rfl (fun w' hp => ?_)
              exact ⟨by simp only [sizeF, sizeE]; rw [← hgo]; first | (rw [List.drop_eq_nil_of_le (by omega)]; rfl) | (rw [hd]; simp only [sizesGo]; grind [addF, addT]), hp.kp⟩
            · refine TL.gT rfl rfl ?_
              refine TL.opP rfl (op_move rfl) ?_
              refine TL.gT rfl rfl ?_
              refine TL.opP rfl (op_gtr rfl rfl) ?_
              refine TL.opP rfl (op_pickF rfl rfl) ?_
              refine TL.nil ?_
              refine TQ.then ?_
              first | refine TC.condD rfl (fun c12 => ?_) (fun c12 => ?_) | refine TC.condB rfl (fun c12 => ?_) (fun c12 => ?_)
              · refine TC.seq ?_
                refine TC.region ?_   -- region 12 ref.go:41
                refine TL.opP rfl (op_assign rfl) ?_
                refine TL.opP rfl (op_assign rfl) ?_
                refine TL.opP rfl (op_assign rfl) ?_
                refine TL.nil ?_
                refine TQ.then ?_
                refine TC.ret ?_
                refine TQ.block_ret ?_
                refine TQ.then_ret ?_
                refine TQ.loop_ret ?_
                refine TQ.block_ret ?_
                refine TQ.then_ret ?_
                refine ret3 rfl rfl rfl rfl (fun w' hp => ?_)
                exact ⟨by simp only [sizeF, sizeE]; rw [← hgo]; first | (rw [List.drop_eq_nil_of_le (by omega)]; rfl) | (rw [hd]; simp only [sizesGo]; grind [addF, addT]), hp.kp⟩
              · refine TC.skip ?_
                refine TQ.block_normal ?_
                refine TQ.then ?_
                refine TC.region ?_   -- region 13 ref.go:30
                refine TL.opP rfl (op_add rfl rfl rfl (by omega) (by omega)) ?_
                refine TL.opP rfl (op_move rfl) ?_
                refine TL.nil ?_
                exact TQ.round (k + 1, addF p f, addT p t) (⟨by omega, by simp only [prevAt, Nat.add_sub_cancel, hpk]; rw [if_neg (by omega)]; rw [← hgo, hd, sizesGo, c6]; grind [addF, addT], by grind [addF], by grind [addF], by grind [addT], by grind [addT]⟩) (by show _ - (k + 1) < _ - k; omega) ⟨rfl, gi rfl (by grind [addF]), gi rfl (by grind [addT]), rfl, rfl, rfl, trivial⟩ (fun _ h => h.tail)
        · refine TC.skip ?_
          refine TQ.then ?_
          refine TC.seq ?_
          refine TC.seq ?_
          refine TC.region ?_   -- region 9 ref.go:37
          refine TL.opP rfl (op_field fld_api_Part_Kind rfl) ?_
          refine TL.opV rfl (op_load ts_int rfl m0 rfl) ?_
          refine TL.opP rfl (op_neq rfl rfl) ?_
          refine TL.nil ?_
          refine TQ.then ?_
          first | refine TC.condD rfl (fun c13 => ?_) (fun c13 => ?_) | refine TC.condB rfl (fun c13 => ?_) (fun c13 => ?_)
          · refine TC.region ?_   -- region 10 ref.go:38
            refine TL.opP rfl (op_move rfl) ?_
            refine TL.opP rfl (op_field fld_api_Part_N rfl) ?_
            refine TL.opV rfl (op_load ts_int rfl m0 rfl) ?_
            refine TL.opP rfl (op_add rfl rfl rfl (by omega) (by omega)) ?_
            refine TL.opP rfl (op_assign rfl) ?_
            refine TL.nil ?_
            refine TQ.then ?_
            refine TC.seq ?_
            refine TC.region ?_   -- region 11 ref.go:40
            refine TL.opP rfl (op_move rfl) ?_
            refine TL.opP rfl (op_gtr rfl rfl) ?_
            refine TL.opP rfl (op_move rfl) ?_
            first | refine TL.splitD (fun c14 => ?_) (fun c14 => ?_) | refine TL.splitB (fun c14 => ?_) (fun c14 => ?_)
            · refine TL.gFt rfl rfl rfl ?_
              refine TL.gFt rfl rfl rfl ?_
              refine TL.opP rfl (op_pickT rfl rfl) ?_
              refine TL.nil ?_
              refine TQ.then ?_
              refine TC.condT rfl ?_
              refine TC.seq ?_
              refine TC.region ?_   -- region 12 ref.go:41
              refine TL.opP rfl (op_assign rfl) ?_
              refine TL.opP rfl (op_assign rfl) ?_
              refine TL.opP rfl (op_assign rfl) ?_
              refine TL.nil ?_
              refine TQ.then ?_
              refine TC.ret ?_
              refine TQ.block_ret ?_
              refine TQ.then_ret ?_
              refine TQ.loop_ret ?_
              refine TQ.block_ret ?_
              refine TQ.then_ret ?_
              refine ret3 rfl rfl rfl rfl (fun w' hp => ?_)
              exact ⟨by simp only [sizeF, sizeE]; rw [← hgo]; first | (rw [List.drop_eq_nil_of_le (by omega)]; rfl) | (rw [hd]; simp only [sizesGo]; grind [addF, addT]), hp.kp⟩
            · refine TL.gT rfl rfl ?_
              refine TL.opP rfl (op_move rfl) ?_
              refine TL.gT rfl rfl ?_
              refine TL.opP rfl (op_gtr rfl rfl) ?_
              refine TL.opP rfl (op_pickF rfl rfl) ?_
              refine TL.nil ?_
              refine TQ.then ?_
              first | refine TC.condD rfl (fun c15 => ?_) (fun c15 => ?_) | refine TC.condB rfl (fun c15 => ?_) (fun c15 => ?_)
              · refine TC.seq ?_
                refine TC.region ?_   -- region 12 ref.go:41
                refine TL.opP rfl (op_assign rfl) ?_
                refine TL.opP rfl (op_assign rfl) ?_
                refine TL.opP rfl (op_assign rfl) ?_
                refine TL.nil ?_
                refine TQ.then ?_
                refine TC.ret ?_
                refine TQ.block_ret ?_
                refine TQ.then_ret ?_
                refine TQ.loop_ret ?_
                refine TQ.block_ret ?_
                refine TQ.then_ret ?_
                refine ret3 rfl rfl rfl rfl (fun w' hp => ?_)
                exact ⟨by simp only [sizeF, sizeE]; rw [← hgo]; first | (rw [List.drop_eq_nil_of_le (by omega)]; rfl) | (rw [hd]; simp only [sizesGo]; grind [addF, addT]), hp.kp⟩
              · refine TC.skip ?_
                refine TQ.block_normal ?_
                refine TQ.then ?_
                refine TC.region ?_   -- region 13 ref.go:30
                refine TL.opP rfl (op_add rfl rfl rfl (by omega) (by omega)) ?_
                refine TL.opP rfl (op_move rfl) ?_
                refine TL.nil ?_
                exact TQ.round (k + 1, addF p f, addT p t) (⟨by omega, by simp only [prevAt, Nat.add_sub_cancel, hpk]; rw [if_neg (by omega)]; rw [← hgo, hd, sizesGo, c6]; grind [addF, addT], by grind [addF], by grind [addF], by grind [addT], by grind [addT]⟩) (by show _ - (k + 1) < _ - k; omega) ⟨rfl, gi rfl (by grind [addF]), gi rfl (by grind [addT]), rfl, rfl, rfl, trivial⟩ (fun _ h => h.tail)
          · refine TC.skip ?_
            refine TQ.then ?_
            refine TC.seq ?_
            refine TC.region ?_   -- region 11 ref.go:40
            refine TL.opP rfl (op_move rfl) ?_
            refine TL.opP rfl (op_gtr rfl rfl) ?_
            refine TL.opP rfl (op_move rfl) ?_
            first | refine TL.splitD (fun c16 => ?_) (fun c16 => ?_) | refine TL.splitB (fun c16 => ?_) (fun c16 => ?_)
            · refine TL.gFt rfl rfl rfl ?_
              refine TL.gFt rfl rfl rfl ?_
              refine TL.opP rfl (op_pickT rfl rfl) ?_
              refine TL.nil ?_
              refine TQ.then ?_
              refine TC.condT rfl ?_
              refine TC.seq ?_
              refine TC.region ?_   -- region 12 ref.go:41
              refine TL.opP rfl (op_assign rfl) ?_
              refine TL.opP rfl (op_assign rfl) ?_
              refine TL.opP rfl (op_assign rfl) ?_
              refine TL.nil ?_
              refine TQ.then ?_
              refine TC.ret ?_
              refine TQ.block_ret ?_
              refine TQ.then_ret ?_
              refine TQ.loop_ret ?_
              refine TQ.block_ret ?_
              refine TQ.then_ret ?_
              refine ret3 rfl rfl rfl rfl (fun w' hp => ?_)
              exact ⟨by simp only [sizeF, sizeE]; rw [← hgo]; first | (rw [List.drop_eq_nil_of_le (by omega)]; rfl) | (rw [hd]; simp only [sizesGo]; grind [addF, addT]), hp.kp⟩
            · refine TL.gT rfl rfl ?_
              refine TL.opP rfl (op_move rfl) ?_
              refine TL.gT rfl rfl ?_
              refine TL.opP rfl (op_gtr rfl rfl) ?_
              refine TL.opP rfl (op_pickF rfl rfl) ?_
              refine TL.nil ?_
              refine TQ.then ?_
              first | refine TC.condD rfl (fun c17 => ?_) (fun c17 => ?_) | refine TC.condB rfl (fun c17 => ?_) (fun c17 => ?_)
              · refine TC.seq ?_
                refine TC.region ?_   -- region 12 ref.go:41
                refine TL.opP rfl (op_assign rfl) ?_
                refine TL.opP rfl (op_assign rfl) ?_
                refine TL.opP rfl (op_assign rfl) ?_
                refine TL.nil ?_
                refine TQ.then ?_
                refine TC.ret ?_
                refine TQ.block_ret ?_
                refine TQ.then_ret ?_
                refine TQ.loop_ret ?_
                refine TQ.block_ret ?_
                refine TQ.then_ret ?_
                refine ret3 rfl rfl rfl rfl (fun w' hp => ?_)
                exact ⟨by simp only [sizeF, sizeE]; rw [← hgo]; first | (rw [List.drop_eq_nil_of_le (by omega)]; rfl) | (rw [hd]; simp only [sizesGo]; grind [addF, addT]), hp.kp⟩
              · refine TC.skip ?_
                refine TQ.block_normal ?_
                refine TQ.then ?_
                refine TC.region ?_   -- region 13 ref.go:30
                refine TL.opP rfl (op_add rfl rfl rfl (by omega) (by omega)) ?_
                refine TL.opP rfl (op_move rfl) ?_
                refine TL.nil ?_
                exact TQ.round (k + 1, addF p f, addT p t) (⟨by omega, by simp only [prevAt, Nat.add_sub_cancel, hpk]; rw [if_neg (by omega)]; rw [← hgo, hd, sizesGo, c6]; grind [addF, addT], by grind [addF], by grind [addF], by grind [addT], by grind [addT]⟩) (by show _ - (k + 1) < _ - k; omega) ⟨rfl, gi rfl (by grind [addF]), gi rfl (by grind [addT]), rfl, rfl, rfl, trivial⟩ (fun _ h => h.tail)
  · refine TC.exit ?_
    refine TQ.then_exit ?_
    refine TQ.loop_exit ?_
    refine TQ.block_hit ?_
    refine TQ.then ?_
    refine TC.seq ?_
    refine TC.region ?_   -- region 14 ref.go:44
    refine TL.opP rfl (op_move rfl) ?_
    refine TL.opP rfl (op_move rfl) ?_
    refine TL.opP rfl (op_assign rfl) ?_
    refine TL.opP rfl (op_assign rfl) ?_
    refine TL.opP rfl (op_assign rfl) ?_
    refine TL.nil ?_
    refine TQ.then ?_
    refine TC.ret ?_
    refine ret3 rfl rfl rfl rfl (fun w' hp => ?_)
    exact ⟨by simp only [sizeF, sizeE]; rw [← hgo]; first | (rw [List.drop_eq_nil_of_le (by omega)]; rfl) | (rw [hd]; simp only [sizesGo]; grind [addF, addT]), hp.kp⟩

theorem rcheck_calls (e : List Part) (n : Int) (v : Value) (w : World) (hs : ∀ p ∈ e, p.text.size < 9223372036854775807) (hv : RdRow w v 3 e.length (encs e)) :
    Calls Tryd.prog 29 (List.toArray [v, .int .i64 n]) w fun e' w' => e' = .returned (.int .i64 (checkF e n)) ∧ Kp NoB w w' := by
  have hlen : e.length ≤ 9223372036854775807 := by obtain ⟨_, A, c, _, h1, h2, _⟩ := hv; simp only [maxLen] at h2; omega
  refine calls_start Tryd.func29 rfl rfl rfl (Hp.i1 (r := .rd v 3 e.length (encs e)) hv) ?_
  refine TC.seq ?_
  refine TC.region ?_   -- region 0 ref.go:48
  refine TL.opP rfl (op_assign rfl) ?_
  refine TL.nil ?_
  refine TQ.then ?_
  refine TC.seq ?_
  refine TC.region ?_   -- region 1 ref.go:49
  refine TL.opP rfl (op_move rfl) ?_
  refine TL.callq rfl en_28 rfl (fun w2 hp => rsize_calls e v w2 hs (rd0 _ _ _ hp)) ?_
  refine TL.opP rfl (op_move rfl) ?_
  refine TL.opP rfl (op_extract rfl rfl) ?_
  refine TL.opP rfl (op_extract rfl rfl) ?_
  refine TL.opP rfl (op_extract rfl rfl) ?_
  refine TL.opP rfl (op_assign rfl) ?_
  refine TL.opP rfl (op_assign rfl) ?_
  refine TL.opP rfl (op_assign rfl) ?_
  refine TL.nil ?_
  refine TQ.then ?_
  refine TC.seq ?_
  refine TC.seq ?_
  refine TC.region ?_   -- region 2 ref.go:50
  refine TL.opP rfl (op_move rfl) ?_
  refine TL.opP rfl (op_neq rfl rfl) ?_
  refine TL.opP rfl (op_move rfl) ?_
  first | refine TL.splitD (fun c1 => ?_) (fun c1 => ?_) | refine TL.splitB (fun c1 => ?_) (fun c1 => ?_)
  · refine TL.gFt rfl rfl rfl ?_
    refine TL.gFt rfl rfl rfl ?_
    refine TL.gFt rfl rfl rfl ?_
    refine TL.opP rfl (op_pickT rfl rfl) ?_
    refine TL.nil ?_
    refine TQ.then ?_
    refine TC.condT rfl ?_
    refine TC.seq ?_
    refine TC.region ?_   -- region 3 ref.go:51
    refine TL.opP rfl (op_assign rfl) ?_
    refine TL.nil ?_
    refine TQ.then ?_
    refine TC.ret ?_
    refine TQ.then_ret ?_
    refine ret1 rfl rfl (fun w' hp => ?_)
    exact ⟨by simp only [checkF]; grind [sizeE, sizeF], hp.kp⟩
  · refine TL.gT rfl rfl ?_
    refine TL.opP rfl (op_move rfl) ?_
    refine TL.gT rfl rfl ?_
    refine TL.opP rfl (op_move rfl) ?_
    refine TL.gT rfl rfl ?_
    refine TL.opP rfl (op_neq rfl rfl) ?_
    refine TL.opP rfl (op_pickF rfl rfl) ?_
    refine TL.nil ?_
    refine TQ.then ?_
    first | refine TC.condD rfl (fun c2 => ?_) (fun c2 => ?_) | refine TC.condB rfl (fun c2 => ?_) (fun c2 => ?_)
    · refine TC.seq ?_
      refine TC.region ?_   -- region 3 ref.go:51
      refine TL.opP rfl (op_assign rfl) ?_
      refine TL.nil ?_
      refine TQ.then ?_
      refine TC.ret ?_
      refine TQ.then_ret ?_
      refine ret1 rfl rfl (fun w' hp => ?_)
      exact ⟨by simp only [checkF]; grind [sizeE, sizeF], hp.kp⟩
    · refine TC.skip ?_
      refine TQ.then ?_
      refine TC.seq ?_
      refine TC.region ?_   -- region 4 ref.go:53
      refine TL.opP rfl (op_assign rfl) ?_
      refine TL.nil ?_
      refine TQ.then ?_
      refine TC.ret ?_
      refine ret1 rfl rfl (fun w' hp => ?_)
      exact ⟨by simp only [checkF]; grind [sizeE, sizeF], hp.kp⟩

theorem rweight_calls (e : List Part) (v : Value) (hl : e.length ≤ 1048576) (w : World) (hs : ∀ p ∈ e, p.text.size < 9223372036854775807) (hv : RdRow w v 3 e.length (encs e)) :
    Calls Tryd.prog 31 (List.toArray [v]) w fun e' w' => e' = .returned (.tuple #[.int .i64 (weightF e).1, .int .i64 (weightF e).2]) ∧ Kp NoB w w' := by
  have hlen : e.length ≤ 9223372036854775807 := by obtain ⟨_, A, c, _, h1, h2, _⟩ := hv; simp only [maxLen] at h2; omega
  refine calls_start Tryd.func31 rfl rfl rfl (Hp.i1 (r := .rd v 3 e.length (encs e)) hv) ?_
  refine TC.seq ?_
  refine TC.region ?_   -- region 0 ref.go:161
  refine TL.opP rfl (op_assign rfl) ?_
  refine TL.opP rfl (op_assign rfl) ?_
  refine TL.nil ?_
  refine TQ.then ?_
  refine TC.seq ?_
  refine TC.region ?_   -- region 1 ref.go:162
  refine TL.opP rfl (op_assign rfl) ?_
  refine TL.opP rfl (op_assign rfl) ?_
  refine TL.nil ?_
  refine TQ.then ?_
  refine TC.seq ?_
  refine TC.seq ?_
  refine TC.region ?_   -- region 2 ref.go:163
  refine TL.opP rfl (op_move rfl) ?_
  refine TL.opV rfl (op_lenV rfl un_sl_api_Part rfl rd0) ?_
  refine TL.opP rfl (op_move rfl) ?_
  refine TL.nil ?_
  refine TQ.then ?_
  refine TC.block ?_
  refine TC.loop (ι := Nat × Int × Int) (fun (k, a, b) => [(4, .int .i64 a), (5, .int .i64 b), (8, v), (9, .int .i64 (e.length : Int)), (10, .int .i64 (k : Int))]) (fun (k, a, b) => [.rd v 3 e.length (encs e)]) (fun (k, a, b) => k ≤ e.length ∧ weightGo (e.drop k) a b = weightF e ∧ 0 ≤ a ∧ a ≤ k * 1099511627776 ∧ 0 ≤ b ∧ b ≤ k * 1099511627776) (fun (k, a, b) => e.length - k) ((0, 0, 0)) (⟨Nat.zero_le _, rfl, by omega, by omega, by omega, by omega⟩) ⟨rfl, rfl, rfl, rfl, rfl, trivial⟩ (fun _ h => h) ?_
  rintro ⟨k, a, b⟩ ⟨hk, hgo, ha0, ha1, hb0, hb1⟩
  show TC _ _ _ _ [(4, .int .i64 a), (5, .int .i64 b), (8, v), (9, .int .i64 (e.length : Int)), (10, .int .i64 (k : Int))] _ _ ([.rd v 3 e.length (encs e)])
  refine TC.seq ?_
  refine TC.region ?_   -- region 3 ref.go:163
  refine TL.opP rfl (op_lss rfl rfl) ?_
  refine TL.nil ?_
  refine TQ.then ?_
  refine TC.seq ?_
  first | refine TC.condD rfl (fun c1 => ?_) (fun c1 => ?_) | refine TC.condB rfl (fun c1 => ?_) (fun c1 => ?_)
  · have hkl : k < e.length := by omega
    obtain ⟨p, hpk⟩ : ∃ p, e.getD k default = p := ⟨_, rfl⟩
    have hd := drop_getD hkl hpk
    have hpe : p ∈ e := by rw [← hpk, List.getD_eq_getElem?_getD, List.getElem?_eq_getElem hkl]; exact List.getElem_mem hkl
    refine TC.skip ?_
    refine TQ.then ?_
    refine TC.seq ?_
    refine TC.block ?_
    refine TC.seq ?_
    refine TC.region ?_   -- region 4 ref.go:163
    refine TL.opV rfl (op_index tsl_api_Part rfl rd0 rfl (by omega) (by omega)) ?_
    refine TL.opV rfl (op_loadRS tst_api_Part rfl rd0 (cs := p.cs) rfl (lkS hkl hpk) (by decide)) ?_
    refine TL.opX rfl (OpX.alloc tz_api_Part rfl) ?_; rintro _ _ ⟨g7, rfl, rfl⟩
    refine TL.opX0 (OpX.storeS tst_api_Part rfl rfl rfl rfl rfl (List.all_eq_true.1 rfl)) ?_; rintro _ _ rfl
    refine TL.nil ?_
    refine TQ.then ?_
    refine TC.seq ?_
    refine TC.seq ?_
    refine TC.region ?_   -- region 5 ref.go:164
    refine TL.opV rfl (op_loadS tst_api_Part rfl m0 rfl) ?_
    refine TL.callq rfl en_59 rfl (fun w2 hp => rfits_calls p w2 (hs p hpe)) ?_
    refine TL.opP rfl (op_not rfl rfl) ?_
    refine TL.nil ?_
    refine TQ.then ?_
    first | refine TC.condD rfl (fun c2 => ?_) (fun c2 => ?_) | refine TC.condB rfl (fun c2 => ?_) (fun c2 => ?_)
    · refine TC.seq ?_
      refine TC.region ?_   -- region 6 ref.go:165
      refine TL.opP rfl (op_assign rfl) ?_
      refine TL.opP rfl (op_assign rfl) ?_
      refine TL.nil ?_
      refine TQ.then ?_
      refine TC.ret ?_
      refine TQ.then_ret ?_
      refine TQ.block_ret ?_
      refine TQ.then_ret ?_
      refine TQ.loop_ret ?_
      refine TQ.block_ret ?_
      refine TQ.then_ret ?_
      refine ret2 rfl rfl rfl (fun w' hp => ?_)
      exact ⟨by rw [← hgo]; first | (rw [List.drop_eq_nil_of_le (by omega)]; rfl) | (rw [hd, weightGo, if_neg (by grind)]), hp.kp⟩
    · have hff : fitsB p = true := by simpa using c2
      have hfn := fitsB_n hff
      refine TC.skip ?_
      refine TQ.then ?_
      refine TC.seq ?_
      refine TC.seq ?_
      refine TC.region ?_   -- region 7 ref.go:167
      refine TL.opP rfl (op_field fld_api_Part_Kind rfl) ?_
      refine TL.opV rfl (op_load ts_int rfl m0 rfl) ?_
      refine TL.opP rfl (op_eql rfl rfl) ?_
      refine TL.nil ?_
      refine TQ.then ?_
      first | refine TC.condD rfl (fun c3 => ?_) (fun c3 => ?_) | refine TC.condB rfl (fun c3 => ?_) (fun c3 => ?_)
      · refine TC.region ?_   -- region 8 ref.go:168
        refine TL.opP rfl (op_move rfl) ?_
        refine TL.opP rfl (op_field fld_api_Part_N rfl) ?_
        refine TL.opV rfl (op_load ts_int rfl m0 rfl) ?_
        refine TL.opP rfl (op_add rfl rfl rfl (by omega) (by omega)) ?_
        refine TL.opP rfl (op_assign rfl) ?_
        refine TL.nil ?_
        refine TQ.then ?_
        refine TC.seq ?_
        refine TC.region ?_   -- region 9 ref.go:170
        refine TL.opP rfl (op_field fld_api_Part_Kind rfl) ?_
        refine TL.opV rfl (op_load ts_int rfl m0 rfl) ?_
        refine TL.opP rfl (op_eql rfl rfl) ?_
        refine TL.nil ?_
        refine TQ.then ?_
        first | refine TC.condD rfl (fun c4 => ?_) (fun c4 => ?_) | refine TC.condB rfl (fun c4 => ?_) (fun c4 => ?_)
        · refine TC.region ?_   -- region 10 ref.go:171
          refine TL.opP rfl (op_move rfl) ?_
          refine TL.opP rfl (op_field fld_api_Part_N rfl) ?_
          refine TL.opV rfl (op_load ts_int rfl m0 rfl) ?_
          refine TL.opP rfl (op_add rfl rfl rfl (by omega) (by omega)) ?_
          refine TL.opP rfl (op_assign rfl) ?_
          refine TL.nil ?_
          refine TQ.block_normal ?_
          refine TQ.then ?_
          refine TC.region ?_   -- region 11 ref.go:163
          refine TL.opP rfl (op_add rfl rfl rfl (by omega) (by omega)) ?_
          refine TL.opP rfl (op_move rfl) ?_
          refine TL.nil ?_
          exact TQ.round (k + 1, (if p.kind = 2 then a + p.n else a), (if p.kind = 3 then b + p.n else b)) (⟨by omega, by rw [← hgo, hd, weightGo, if_pos hff], by split <;> omega, by split <;> omega, by split <;> omega, by split <;> omega⟩) (by show _ - (k + 1) < _ - k; omega) ⟨gi rfl (by grind), gi rfl (by grind), rfl, rfl, rfl, trivial⟩ (fun _ h => h.tail)
        · refine TC.skip ?_
          refine TQ.block_normal ?_
          refine TQ.then ?_
          refine TC.region ?_   -- region 11 ref.go:163
          refine TL.opP rfl (op_add rfl rfl rfl (by omega) (by omega)) ?_
          refine TL.opP rfl (op_move rfl) ?_
          refine TL.nil ?_
          exact TQ.round (k + 1, (if p.kind = 2 then a + p.n else a), (if p.kind = 3 then b + p.n else b)) (⟨by omega, by rw [← hgo, hd, weightGo, if_pos hff], by split <;> omega, by split <;> omega, by split <;> omega, by split <;> omega⟩) (by show _ - (k + 1) < _ - k; omega) ⟨gi rfl (by grind), gi rfl (by grind), rfl, rfl, rfl, trivial⟩ (fun _ h => h.tail)
      · refine TC.skip ?_
        refine TQ.then ?_
        refine TC.seq ?_
        refine TC.region ?_   -- region 9 ref.go:170
        refine TL.opP rfl (op_field fld_api_Part_Kind rfl) ?_
        refine TL.opV rfl (op_load ts_int rfl m0 rfl) ?_
        refine TL.opP rfl (op_eql rfl rfl) ?_
        refine TL.nil ?_
        refine TQ.then ?_
        first | refine TC.condD rfl (fun c5 => ?_) (fun c5 => ?_) | refine TC.condB rfl (fun c5 => ?_) (fun c5 => ?_)
        · refine TC.region ?_   -- region 10 ref.go:171
          refine TL.opP rfl (op_move rfl) ?_
          refine TL.opP rfl (op_field fld_api_Part_N rfl) ?_
          refine TL.opV rfl (op_load ts_int rfl m0 rfl) ?_
          refine TL.opP rfl (op_add rfl rfl rfl (by omega) (by omega)) ?_
          refine TL.opP rfl (op_assign rfl) ?_
          refine TL.nil ?_
          refine TQ.block_normal ?_
          refine TQ.then ?_
          refine TC.region ?_   -- region 11 ref.go:163
          refine TL.opP rfl (op_add rfl rfl rfl (by omega) (by omega)) ?_
          refine TL.opP rfl (op_move rfl) ?_
          refine TL.nil ?_
          exact TQ.round (k + 1, (if p.kind = 2 then a + p.n else a), (if p.kind = 3 then b + p.n else b)) (⟨by omega, by rw [← hgo, hd, weightGo, if_pos hff], by split <;> omega, by split <;> omega, by split <;> omega, by split <;> omega⟩) (by show _ - (k + 1) < _ - k; omega) ⟨gi rfl (by grind), gi rfl (by grind), rfl, rfl, rfl, trivial⟩ (fun _ h => h.tail)
        · refine TC.skip ?_
          refine TQ.block_normal ?_
          refine TQ.then ?_
          refine TC.region ?_   -- region 11 ref.go:163
          refine TL.opP rfl (op_add rfl rfl rfl (by omega) (by omega)) ?_
          refine TL.opP rfl (op_move rfl) ?_
          refine TL.nil ?_
          exact TQ.round (k + 1, (if p.kind = 2 then a + p.n else a), (if p.kind = 3 then b + p.n else b)) (⟨by omega, by rw [← hgo, hd, weightGo, if_pos hff], by split <;> omega, by split <;> omega, by split <;> omega, by split <;> omega⟩) (by show _ - (k + 1) < _ - k; omega) ⟨gi rfl (by grind), gi rfl (by grind), rfl, rfl, rfl, trivial⟩ (fun _ h => h.tail)
  · refine TC.exit ?_
    refine TQ.then_exit ?_
    refine TQ.loop_exit ?_
    refine TQ.block_hit ?_
    refine TQ.then ?_
    refine TC.seq ?_
    refine TC.region ?_   -- region 12 ref.go:174
    refine TL.opP rfl (op_move rfl) ?_
    refine TL.opP rfl (op_move rfl) ?_
    refine TL.opP rfl (op_assign rfl) ?_
    refine TL.opP rfl (op_assign rfl) ?_
    refine TL.nil ?_
    refine TQ.then ?_
    refine TC.ret ?_
    refine ret2 rfl rfl rfl (fun w' hp => ?_)
    exact ⟨by rw [← hgo]; first | (rw [List.drop_eq_nil_of_le (by omega)]; rfl) | (rw [hd, weightGo, if_neg (by grind)]), hp.kp⟩

theorem rchanges_calls (e : List Part) (v : Value) (w : World) (hv : RdRow w v 3 e.length (encs e)) :
    Calls Tryd.prog 33 (List.toArray [v]) w fun e' w' => e' = .returned (.bool (changesF e)) ∧ Kp NoB w w' := by
  have hlen : e.length ≤ 9223372036854775807 := by obtain ⟨_, A, c, _, h1, h2, _⟩ := hv; simp only [maxLen] at h2; omega
  refine calls_start Tryd.func33 rfl rfl rfl (Hp.i1 (r := .rd v 3 e.length (encs e)) hv) ?_
  refine TC.seq ?_
  refine TC.region ?_   -- region 0 ref.go:177
  refine TL.opP rfl (op_assign rfl) ?_
  refine TL.nil ?_
  refine TQ.then ?_
  refine TC.seq ?_
  refine TC.seq ?_
  refine TC.region ?_   -- region 1 ref.go:178
  refine TL.opP rfl (op_move rfl) ?_
  refine TL.opV rfl (op_lenV rfl un_sl_api_Part rfl rd0) ?_
  refine TL.opP rfl (op_move rfl) ?_
  refine TL.nil ?_
  refine TQ.then ?_
  refine TC.block ?_
  refine TC.loop (ι := Nat) (fun k => [(5, v), (6, .int .i64 (e.length : Int)), (7, .int .i64 (k : Int))]) (fun k => [.rd v 3 e.length (encs e)]) (fun k => k ≤ e.length ∧ changesF (e.drop k) = changesF e) (fun k => e.length - k) (0) (⟨Nat.zero_le _, rfl⟩) ⟨rfl, rfl, rfl, trivial⟩ (fun _ h => h) ?_
  rintro k ⟨hk, hgo⟩
  refine TC.seq ?_
  refine TC.region ?_   -- region 2 ref.go:178
  refine TL.opP rfl (op_lss rfl rfl) ?_
  refine TL.nil ?_
  refine TQ.then ?_
  refine TC.seq ?_
  first | refine TC.condD rfl (fun c1 => ?_) (fun c1 => ?_) | refine TC.condB rfl (fun c1 => ?_) (fun c1 => ?_)
  · have hkl : k < e.length := by omega
    obtain ⟨p, hpk⟩ : ∃ p, e.getD k default = p := ⟨_, rfl⟩
    have hd := drop_getD hkl hpk
    have hpe : p ∈ e := by rw [← hpk, List.getD_eq_getElem?_getD, List.getElem?_eq_getElem hkl]; exact List.getElem_mem hkl
    refine TC.skip ?_
    refine TQ.then ?_
    refine TC.seq ?_
    refine TC.block ?_
    refine TC.seq ?_
    refine TC.region ?_   -- region 3 ref.go:178
    refine TL.opV rfl (op_index tsl_api_Part rfl rd0 rfl (by omega) (by omega)) ?_
    refine TL.opV rfl (op_loadRS tst_api_Part rfl rd0 (cs := p.cs) rfl (lkS hkl hpk) (by decide)) ?_
    refine TL.opX rfl (OpX.alloc tz_api_Part rfl) ?_; rintro _ _ ⟨g4, rfl, rfl⟩
    refine TL.opX0 (OpX.storeS tst_api_Part rfl rfl rfl rfl rfl (List.all_eq_true.1 rfl)) ?_; rintro _ _ rfl
    refine TL.nil ?_
    refine TQ.then ?_
    refine TC.seq ?_
    refine TC.region ?_   -- region 4 ref.go:179
    refine TL.opP rfl (op_field fld_api_Part_Kind rfl) ?_
    refine TL.opV rfl (op_load ts_int rfl m0 rfl) ?_
    refine TL.opP rfl (op_neq rfl rfl) ?_
    refine TL.nil ?_
    refine TQ.then ?_
    first | refine TC.condD rfl (fun c2 => ?_) (fun c2 => ?_) | refine TC.condB rfl (fun c2 => ?_) (fun c2 => ?_)
    · refine TC.seq ?_
      refine TC.region ?_   -- region 5 ref.go:180
      refine TL.opP rfl (op_assign rfl) ?_
      refine TL.nil ?_
      refine TQ.then ?_
      refine TC.ret ?_
      refine TQ.block_ret ?_
      refine TQ.then_ret ?_
      refine TQ.loop_ret ?_
      refine TQ.block_ret ?_
      refine TQ.then_ret ?_
      refine ret1 rfl rfl (fun w' hp => ?_)
      exact ⟨by rw [← hgo]; first | (rw [List.drop_eq_nil_of_le (by omega)]; rfl) | (rw [hd]; simp [changesF, c2]), hp.kp⟩
    · refine TC.skip ?_
      refine TQ.block_normal ?_
      refine TQ.then ?_
      refine TC.region ?_   -- region 6 ref.go:178
      refine TL.opP rfl (op_add rfl rfl rfl (by omega) (by omega)) ?_
      refine TL.opP rfl (op_move rfl) ?_
      refine TL.nil ?_
      exact TQ.round (k + 1) (⟨by omega, by rw [← hgo, hd]; simp [changesF, c2]⟩) (by omega) ⟨rfl, rfl, rfl, trivial⟩ (fun _ h => h.tail)
  · refine TC.exit ?_
    refine TQ.then_exit ?_
    refine TQ.loop_exit ?_
    refine TQ.block_hit ?_
    refine TQ.then ?_
    refine TC.seq ?_
    refine TC.region ?_   -- region 7 ref.go:183
    refine TL.opP rfl (op_assign rfl) ?_
    refine TL.nil ?_
    refine TQ.then ?_
    refine TC.ret ?_
    refine ret1 rfl rfl (fun w' hp => ?_)
    exact ⟨by rw [← hgo]; first | (rw [List.drop_eq_nil_of_le (by omega)]; rfl) | (rw [hd]; simp [changesF, c2]), hp.kp⟩

end Go.SK
