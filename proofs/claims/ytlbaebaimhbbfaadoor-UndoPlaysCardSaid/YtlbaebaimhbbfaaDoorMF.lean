/- Walks: the document's own answer: what fits, sizes, lists put together. Walks: the document's own answer: lists put together. -/
import Derived.Test.YtlbaebaimhbbfaaDoorME
import Derived.Test.YtlbaebaimhbbfaaDoorMC
set_option linter.unusedVariables false
set_option linter.unusedSimpArgs false
set_option maxRecDepth 100000
namespace Go.SK
open Go Go.RowKit Go.Proofs
variable {S : Nat → Prop} {w0 : World} {F L : List Res}
theorem runes_calls (l0 : List UInt8) (v : Value) (w : World) (hv : RdRow w v 1 l0.length (l0.map u8v)) :
    Calls Tryd.prog 47 (List.toArray [v]) w fun e' w' => e' = .returned (.int .i64 (runesF l0)) ∧ Kp NoB w w' := by
 have hlen : l0.length ≤ 9223372036854775807 := by obtain ⟨_, A, c, _, h1, h2, _⟩ := hv; simp only [maxLen] at h2; omega
 refine calls_start Tryd.func47 rfl rfl rfl (Hp.i1 (r := .rd v 1 l0.length (l0.map u8v)) hv) ?_
 refine TC.seq (TC.region (TL.opP rfl (op_assign rfl) (TL.nil (TQ.then (TC.seq (TC.region (TL.opP rfl (op_assign rfl) (TL.nil (TQ.then (TC.seq (TC.block (TC.loop (ι := List UInt8 × Int × Value) (fun (l, n, bv) => [(0, bv), (3, .int .i64 n)]) (fun (l, n, bv) => [.rd bv 1 l.length (l.map u8v)]) (fun (l, n, bv) => RInv l0 l n) (fun (l, n, bv) => l.length) ((l0, 0, v)) (RInv.start l0) ⟨rfl, rfl, trivial⟩ (fun _ h => h) ?_))))))))))))
 rintro ⟨l, n, bv⟩ (hI : RInv l0 l n)
 have hIb := hI.b
 have hIn := hI.n0
 show TC _ _ _ _ [(0, bv), (3, .int .i64 n)] _ _ ([.rd bv 1 l.length (l.map u8v)])
 refine TC.seq (TC.seq (TC.region (TL.opP rfl (op_move rfl) (TL.opV rfl (op_lenV rfl un_sl_uint8 rfl rd0) (TL.opP rfl (op_gtr rfl rfl) (TL.nil (TQ.then ?_)))))))
 first | refine TC.condD rfl (fun c1 => ?_) (fun c1 => ?_) | refine TC.condB rfl (fun c1 => ?_) (fun c1 => ?_)
 ·have hl0 : 0 < l.length := by omega
  have hne : l ≠ [] := by rintro rfl; simp at hl0
  have hb0 := by'_lt l 0
  refine TC.skip (TQ.then (TC.block (TC.seq (TC.region (TL.opP rfl (op_assign rfl) (TL.nil (TQ.then (TC.seq (TC.region (TL.opP rfl (op_assign rfl) (TL.opP rfl (op_assign rfl) (TL.nil (TQ.then ?_)))))))))))))
  refine TC.join1 [(0, bv), (3, .int .i64 n), (4, .int .i64 ((kOf (by' l 0) : Nat) : Int)), (5, .int .u8 ((loOf (by' l 0) : Nat) : Int)), (6, .int .u8 ((hiOf (by' l 0) : Nat) : Int)), (7, .int .u8 ((by' l 0 : Nat) : Int))] ([.rd bv 1 l.length (l.map u8v)]) ?_ ?_
  ·refine TC.seq (TC.region (TL.opP rfl (op_move rfl) (TL.opV rfl (op_index tsl_uint8 rfl rd0 rfl (by omega) (by omega)) (TL.opV rfl (op_loadR ts_uint8 rfl rd0 (lkU8 (i := 0) hl0 rfl)) (TL.opP rfl (op_assign rfl) (TL.nil (TQ.then (TC.block (TC.seq (TC.region (TL.opP rfl (op_move rfl) (TL.opP rfl (op_lss rfl rfl) (TL.opP rfl (op_assign rfl) (TL.nil (TQ.then ?_)))))))))))))))
   first | refine TC.condD rfl (fun c2 => ?_) (fun c2 => ?_) | refine TC.condB rfl (fun c2 => ?_) (fun c2 => ?_)
   ·refine TC.region (TL.opP rfl (op_assign rfl) (TL.nil (TQ.block_normal ?_)))
    exact TQ.join1 ⟨rfl, rfl, gi rfl (by unfold kOf; (repeat' split) <;> omega), gi rfl (by unfold loOf; (repeat' split) <;> omega), gi rfl (by unfold hiOf; (repeat' split) <;> omega), rfl, trivial⟩ (fun _ h => h)
   ·refine TC.seq (TC.region (TL.opP rfl (op_move rfl) (TL.opP rfl (op_geq rfl rfl) (TL.opP rfl (op_move rfl) ?_))))
    first | refine TL.splitD (fun c3 => ?_) (fun c3 => ?_) | refine TL.splitB (fun c3 => ?_) (fun c3 => ?_)
    ·refine TL.gT rfl rfl (TL.opP rfl (op_move rfl) (TL.gT rfl rfl (TL.opP rfl (op_leq rfl rfl) (TL.opP rfl (op_pickT rfl rfl) (TL.opP rfl (op_assign rfl) (TL.nil (TQ.then ?_)))))))
     first | refine TC.condD rfl (fun c4 => ?_) (fun c4 => ?_) | refine TC.condB rfl (fun c4 => ?_) (fun c4 => ?_)
     ·refine TC.region (TL.opP rfl (op_assign rfl) (TL.nil (TQ.block_normal ?_)))
      exact TQ.join1 ⟨rfl, rfl, gi rfl (by unfold kOf; (repeat' split) <;> omega), gi rfl (by unfold loOf; (repeat' split) <;> omega), gi rfl (by unfold hiOf; (repeat' split) <;> omega), rfl, trivial⟩ (fun _ h => h)
     ·refine TC.seq (TC.region (TL.opP rfl (op_move rfl) (TL.opP rfl (op_geq rfl rfl) (TL.opP rfl (op_move rfl) ?_))))
      first | refine TL.splitD (fun c5 => ?_) (fun c5 => ?_) | refine TL.splitB (fun c5 => ?_) (fun c5 => ?_)
      ·refine TL.gT rfl rfl (TL.opP rfl (op_move rfl) (TL.gT rfl rfl (TL.opP rfl (op_leq rfl rfl) (TL.opP rfl (op_pickT rfl rfl) (TL.opP rfl (op_assign rfl) (TL.nil (TQ.then ?_)))))))
       first | refine TC.condD rfl (fun c6 => ?_) (fun c6 => ?_) | refine TC.condB rfl (fun c6 => ?_) (fun c6 => ?_)
       ·refine TC.seq (TC.region (TL.opP rfl (op_assign rfl) (TL.nil (TQ.then (TC.seq (TC.seq (TC.region (TL.opP rfl (op_move rfl) (TL.opP rfl (op_eql rfl rfl) (TL.nil (TQ.then ?_)))))))))))
        first | refine TC.condD rfl (fun c7 => ?_) (fun c7 => ?_) | refine TC.condB rfl (fun c7 => ?_) (fun c7 => ?_)
        ·refine TC.region (TL.opP rfl (op_assign rfl) (TL.nil (TQ.then (TC.seq (TC.region (TL.opP rfl (op_move rfl) (TL.opP rfl (op_eql rfl rfl) (TL.nil (TQ.then ?_)))))))))
         first | refine TC.condD rfl (fun c8 => ?_) (fun c8 => ?_) | refine TC.condB rfl (fun c8 => ?_) (fun c8 => ?_)
         ·refine TC.region (TL.opP rfl (op_assign rfl) (TL.nil (TQ.block_normal ?_)))
          exact TQ.join1 ⟨rfl, rfl, gi rfl (by unfold kOf; (repeat' split) <;> omega), gi rfl (by unfold loOf; (repeat' split) <;> omega), gi rfl (by unfold hiOf; (repeat' split) <;> omega), rfl, trivial⟩ (fun _ h => h)
         ·refine TC.skip (TQ.block_normal ?_)
          exact TQ.join1 ⟨rfl, rfl, gi rfl (by unfold kOf; (repeat' split) <;> omega), gi rfl (by unfold loOf; (repeat' split) <;> omega), gi rfl (by unfold hiOf; (repeat' split) <;> omega), rfl, trivial⟩ (fun _ h => h)
        ·refine TC.skip (TQ.then (TC.seq (TC.region (TL.opP rfl (op_move rfl) (TL.opP rfl (op_eql rfl rfl) (TL.nil (TQ.then ?_)))))))
         first | refine TC.condD rfl (fun c9 => ?_) (fun c9 => ?_) | refine TC.condB rfl (fun c9 => ?_) (fun c9 => ?_)
         ·refine TC.region (TL.opP rfl (op_assign rfl) (TL.nil (TQ.block_normal ?_)))
          exact TQ.join1 ⟨rfl, rfl, gi rfl (by unfold kOf; (repeat' split) <;> omega), gi rfl (by unfold loOf; (repeat' split) <;> omega), gi rfl (by unfold hiOf; (repeat' split) <;> omega), rfl, trivial⟩ (fun _ h => h)
         ·refine TC.skip (TQ.block_normal ?_)
          exact TQ.join1 ⟨rfl, rfl, gi rfl (by unfold kOf; (repeat' split) <;> omega), gi rfl (by unfold loOf; (repeat' split) <;> omega), gi rfl (by unfold hiOf; (repeat' split) <;> omega), rfl, trivial⟩ (fun _ h => h)
       ·refine TC.seq (TC.region (TL.opP rfl (op_move rfl) (TL.opP rfl (op_geq rfl rfl) (TL.opP rfl (op_move rfl) ?_))))
        first | refine TL.splitD (fun c10 => ?_) (fun c10 => ?_) | refine TL.splitB (fun c10 => ?_) (fun c10 => ?_)
        ·refine TL.gT rfl rfl (TL.opP rfl (op_move rfl) (TL.gT rfl rfl (TL.opP rfl (op_leq rfl rfl) (TL.opP rfl (op_pickT rfl rfl) (TL.opP rfl (op_assign rfl) (TL.nil (TQ.then ?_)))))))
         first | refine TC.condD rfl (fun c11 => ?_) (fun c11 => ?_) | refine TC.condB rfl (fun c11 => ?_) (fun c11 => ?_)
         ·refine TC.seq (TC.region (TL.opP rfl (op_assign rfl) (TL.nil (TQ.then (TC.seq (TC.seq (TC.region (TL.opP rfl (op_move rfl) (TL.opP rfl (op_eql rfl rfl) (TL.nil (TQ.then ?_)))))))))))
          first | refine TC.condD rfl (fun c12 => ?_) (fun c12 => ?_) | refine TC.condB rfl (fun c12 => ?_) (fun c12 => ?_)
          ·refine TC.region (TL.opP rfl (op_assign rfl) (TL.nil (TQ.then (TC.seq (TC.region (TL.opP rfl (op_move rfl) (TL.opP rfl (op_eql rfl rfl) (TL.nil (TQ.then ?_)))))))))
           first | refine TC.condD rfl (fun c13 => ?_) (fun c13 => ?_) | refine TC.condB rfl (fun c13 => ?_) (fun c13 => ?_)
           ·refine TC.region (TL.opP rfl (op_assign rfl) (TL.nil (TQ.block_normal ?_)))
            exact TQ.join1 ⟨rfl, rfl, gi rfl (by unfold kOf; (repeat' split) <;> omega), gi rfl (by unfold loOf; (repeat' split) <;> omega), gi rfl (by unfold hiOf; (repeat' split) <;> omega), rfl, trivial⟩ (fun _ h => h)
           ·refine TC.skip (TQ.block_normal ?_)
            exact TQ.join1 ⟨rfl, rfl, gi rfl (by unfold kOf; (repeat' split) <;> omega), gi rfl (by unfold loOf; (repeat' split) <;> omega), gi rfl (by unfold hiOf; (repeat' split) <;> omega), rfl, trivial⟩ (fun _ h => h)
          ·refine TC.skip (TQ.then (TC.seq (TC.region (TL.opP rfl (op_move rfl) (TL.opP rfl (op_eql rfl rfl) (TL.nil (TQ.then ?_)))))))
           first | refine TC.condD rfl (fun c14 => ?_) (fun c14 => ?_) | refine TC.condB rfl (fun c14 => ?_) (fun c14 => ?_)
           ·refine TC.region (TL.opP rfl (op_assign rfl) (TL.nil (TQ.block_normal ?_)))
            exact TQ.join1 ⟨rfl, rfl, gi rfl (by unfold kOf; (repeat' split) <;> omega), gi rfl (by unfold loOf; (repeat' split) <;> omega), gi rfl (by unfold hiOf; (repeat' split) <;> omega), rfl, trivial⟩ (fun _ h => h)
           ·refine TC.skip (TQ.block_normal ?_)
            exact TQ.join1 ⟨rfl, rfl, gi rfl (by unfold kOf; (repeat' split) <;> omega), gi rfl (by unfold loOf; (repeat' split) <;> omega), gi rfl (by unfold hiOf; (repeat' split) <;> omega), rfl, trivial⟩ (fun _ h => h)
         ·refine TC.skip (TQ.block_normal ?_)
          exact TQ.join1 ⟨rfl, rfl, gi rfl (by unfold kOf; (repeat' split) <;> omega), gi rfl (by unfold loOf; (repeat' split) <;> omega), gi rfl (by unfold hiOf; (repeat' split) <;> omega), rfl, trivial⟩ (fun _ h => h)
        ·refine TL.gFf rfl rfl rfl (TL.gFf rfl rfl rfl (TL.opP rfl (op_pickF rfl rfl) (TL.opP rfl (op_assign rfl) (TL.nil (TQ.then (TC.condF rfl (TC.skip (TQ.block_normal ?_))))))))
         exact TQ.join1 ⟨rfl, rfl, gi rfl (by unfold kOf; (repeat' split) <;> omega), gi rfl (by unfold loOf; (repeat' split) <;> omega), gi rfl (by unfold hiOf; (repeat' split) <;> omega), rfl, trivial⟩ (fun _ h => h)
      ·refine TL.gFf rfl rfl rfl (TL.gFf rfl rfl rfl (TL.opP rfl (op_pickF rfl rfl) (TL.opP rfl (op_assign rfl) (TL.nil (TQ.then (TC.condF rfl (TC.seq (TC.region (TL.opP rfl (op_move rfl) (TL.opP rfl (op_geq rfl rfl) (TL.opP rfl (op_move rfl) ?_)))))))))))
       first | refine TL.splitD (fun c15 => ?_) (fun c15 => ?_) | refine TL.splitB (fun c15 => ?_) (fun c15 => ?_)
       ·refine TL.gT rfl rfl (TL.opP rfl (op_move rfl) (TL.gT rfl rfl (TL.opP rfl (op_leq rfl rfl) (TL.opP rfl (op_pickT rfl rfl) (TL.opP rfl (op_assign rfl) (TL.nil (TQ.then ?_)))))))
        first | refine TC.condD rfl (fun c16 => ?_) (fun c16 => ?_) | refine TC.condB rfl (fun c16 => ?_) (fun c16 => ?_)
        ·refine TC.seq (TC.region (TL.opP rfl (op_assign rfl) (TL.nil (TQ.then (TC.seq (TC.seq (TC.region (TL.opP rfl (op_move rfl) (TL.opP rfl (op_eql rfl rfl) (TL.nil (TQ.then ?_)))))))))))
         first | refine TC.condD rfl (fun c17 => ?_) (fun c17 => ?_) | refine TC.condB rfl (fun c17 => ?_) (fun c17 => ?_)
         ·refine TC.region (TL.opP rfl (op_assign rfl) (TL.nil (TQ.then (TC.seq (TC.region (TL.opP rfl (op_move rfl) (TL.opP rfl (op_eql rfl rfl) (TL.nil (TQ.then ?_)))))))))
          first | refine TC.condD rfl (fun c18 => ?_) (fun c18 => ?_) | refine TC.condB rfl (fun c18 => ?_) (fun c18 => ?_)
          ·refine TC.region (TL.opP rfl (op_assign rfl) (TL.nil (TQ.block_normal ?_)))
           exact TQ.join1 ⟨rfl, rfl, gi rfl (by unfold kOf; (repeat' split) <;> omega), gi rfl (by unfold loOf; (repeat' split) <;> omega), gi rfl (by unfold hiOf; (repeat' split) <;> omega), rfl, trivial⟩ (fun _ h => h)
          ·refine TC.skip (TQ.block_normal ?_)
           exact TQ.join1 ⟨rfl, rfl, gi rfl (by unfold kOf; (repeat' split) <;> omega), gi rfl (by unfold loOf; (repeat' split) <;> omega), gi rfl (by unfold hiOf; (repeat' split) <;> omega), rfl, trivial⟩ (fun _ h => h)
         ·refine TC.skip (TQ.then (TC.seq (TC.region (TL.opP rfl (op_move rfl) (TL.opP rfl (op_eql rfl rfl) (TL.nil (TQ.then ?_)))))))
          first | refine TC.condD rfl (fun c19 => ?_) (fun c19 => ?_) | refine TC.condB rfl (fun c19 => ?_) (fun c19 => ?_)
          ·refine TC.region (TL.opP rfl (op_assign rfl) (TL.nil (TQ.block_normal ?_)))
           exact TQ.join1 ⟨rfl, rfl, gi rfl (by unfold kOf; (repeat' split) <;> omega), gi rfl (by unfold loOf; (repeat' split) <;> omega), gi rfl (by unfold hiOf; (repeat' split) <;> omega), rfl, trivial⟩ (fun _ h => h)
          ·refine TC.skip (TQ.block_normal ?_)
           exact TQ.join1 ⟨rfl, rfl, gi rfl (by unfold kOf; (repeat' split) <;> omega), gi rfl (by unfold loOf; (repeat' split) <;> omega), gi rfl (by unfold hiOf; (repeat' split) <;> omega), rfl, trivial⟩ (fun _ h => h)
        ·refine TC.skip (TQ.block_normal ?_)
         exact TQ.join1 ⟨rfl, rfl, gi rfl (by unfold kOf; (repeat' split) <;> omega), gi rfl (by unfold loOf; (repeat' split) <;> omega), gi rfl (by unfold hiOf; (repeat' split) <;> omega), rfl, trivial⟩ (fun _ h => h)
       ·refine TL.gFf rfl rfl rfl (TL.gFf rfl rfl rfl (TL.opP rfl (op_pickF rfl rfl) (TL.opP rfl (op_assign rfl) (TL.nil (TQ.then (TC.condF rfl (TC.skip (TQ.block_normal ?_))))))))
        exact TQ.join1 ⟨rfl, rfl, gi rfl (by unfold kOf; (repeat' split) <;> omega), gi rfl (by unfold loOf; (repeat' split) <;> omega), gi rfl (by unfold hiOf; (repeat' split) <;> omega), rfl, trivial⟩ (fun _ h => h)
    ·refine TL.gFf rfl rfl rfl (TL.gFf rfl rfl rfl (TL.opP rfl (op_pickF rfl rfl) (TL.opP rfl (op_assign rfl) (TL.nil (TQ.then (TC.condF rfl (TC.seq (TC.region (TL.opP rfl (op_move rfl) (TL.opP rfl (op_geq rfl rfl) (TL.opP rfl (op_move rfl) ?_)))))))))))
     first | refine TL.splitD (fun c20 => ?_) (fun c20 => ?_) | refine TL.splitB (fun c20 => ?_) (fun c20 => ?_)
     ·refine TL.gT rfl rfl (TL.opP rfl (op_move rfl) (TL.gT rfl rfl (TL.opP rfl (op_leq rfl rfl) (TL.opP rfl (op_pickT rfl rfl) (TL.opP rfl (op_assign rfl) (TL.nil (TQ.then ?_)))))))
      first | refine TC.condD rfl (fun c21 => ?_) (fun c21 => ?_) | refine TC.condB rfl (fun c21 => ?_) (fun c21 => ?_)
      ·refine TC.seq (TC.region (TL.opP rfl (op_assign rfl) (TL.nil (TQ.then (TC.seq (TC.seq (TC.region (TL.opP rfl (op_move rfl) (TL.opP rfl (op_eql rfl rfl) (TL.nil (TQ.then ?_)))))))))))
       first | refine TC.condD rfl (fun c22 => ?_) (fun c22 => ?_) | refine TC.condB rfl (fun c22 => ?_) (fun c22 => ?_)
       ·refine TC.region (TL.opP rfl (op_assign rfl) (TL.nil (TQ.then (TC.seq (TC.region (TL.opP rfl (op_move rfl) (TL.opP rfl (op_eql rfl rfl) (TL.nil (TQ.then ?_)))))))))
        first | refine TC.condD rfl (fun c23 => ?_) (fun c23 => ?_) | refine TC.condB rfl (fun c23 => ?_) (fun c23 => ?_)
        ·refine TC.region (TL.opP rfl (op_assign rfl) (TL.nil (TQ.block_normal ?_)))
         exact TQ.join1 ⟨rfl, rfl, gi rfl (by unfold kOf; (repeat' split) <;> omega), gi rfl (by unfold loOf; (repeat' split) <;> omega), gi rfl (by unfold hiOf; (repeat' split) <;> omega), rfl, trivial⟩ (fun _ h => h)
        ·refine TC.skip (TQ.block_normal ?_)
         exact TQ.join1 ⟨rfl, rfl, gi rfl (by unfold kOf; (repeat' split) <;> omega), gi rfl (by unfold loOf; (repeat' split) <;> omega), gi rfl (by unfold hiOf; (repeat' split) <;> omega), rfl, trivial⟩ (fun _ h => h)
       ·refine TC.skip (TQ.then (TC.seq (TC.region (TL.opP rfl (op_move rfl) (TL.opP rfl (op_eql rfl rfl) (TL.nil (TQ.then ?_)))))))
        first | refine TC.condD rfl (fun c24 => ?_) (fun c24 => ?_) | refine TC.condB rfl (fun c24 => ?_) (fun c24 => ?_)
        ·refine TC.region (TL.opP rfl (op_assign rfl) (TL.nil (TQ.block_normal ?_)))
         exact TQ.join1 ⟨rfl, rfl, gi rfl (by unfold kOf; (repeat' split) <;> omega), gi rfl (by unfold loOf; (repeat' split) <;> omega), gi rfl (by unfold hiOf; (repeat' split) <;> omega), rfl, trivial⟩ (fun _ h => h)
        ·refine TC.skip (TQ.block_normal ?_)
         exact TQ.join1 ⟨rfl, rfl, gi rfl (by unfold kOf; (repeat' split) <;> omega), gi rfl (by unfold loOf; (repeat' split) <;> omega), gi rfl (by unfold hiOf; (repeat' split) <;> omega), rfl, trivial⟩ (fun _ h => h)
      ·refine TC.seq (TC.region (TL.opP rfl (op_move rfl) (TL.opP rfl (op_geq rfl rfl) (TL.opP rfl (op_move rfl) ?_))))
       first | refine TL.splitD (fun c25 => ?_) (fun c25 => ?_) | refine TL.splitB (fun c25 => ?_) (fun c25 => ?_)
       ·refine TL.gT rfl rfl (TL.opP rfl (op_move rfl) (TL.gT rfl rfl (TL.opP rfl (op_leq rfl rfl) (TL.opP rfl (op_pickT rfl rfl) (TL.opP rfl (op_assign rfl) (TL.nil (TQ.then ?_)))))))
        first | refine TC.condD rfl (fun c26 => ?_) (fun c26 => ?_) | refine TC.condB rfl (fun c26 => ?_) (fun c26 => ?_)
        ·refine TC.seq (TC.region (TL.opP rfl (op_assign rfl) (TL.nil (TQ.then (TC.seq (TC.seq (TC.region (TL.opP rfl (op_move rfl) (TL.opP rfl (op_eql rfl rfl) (TL.nil (TQ.then ?_)))))))))))
         first | refine TC.condD rfl (fun c27 => ?_) (fun c27 => ?_) | refine TC.condB rfl (fun c27 => ?_) (fun c27 => ?_)
         ·refine TC.region (TL.opP rfl (op_assign rfl) (TL.nil (TQ.then (TC.seq (TC.region (TL.opP rfl (op_move rfl) (TL.opP rfl (op_eql rfl rfl) (TL.nil (TQ.then ?_)))))))))
          first | refine TC.condD rfl (fun c28 => ?_) (fun c28 => ?_) | refine TC.condB rfl (fun c28 => ?_) (fun c28 => ?_)
          ·refine TC.region (TL.opP rfl (op_assign rfl) (TL.nil (TQ.block_normal ?_)))
           exact TQ.join1 ⟨rfl, rfl, gi rfl (by unfold kOf; (repeat' split) <;> omega), gi rfl (by unfold loOf; (repeat' split) <;> omega), gi rfl (by unfold hiOf; (repeat' split) <;> omega), rfl, trivial⟩ (fun _ h => h)
          ·refine TC.skip (TQ.block_normal ?_)
           exact TQ.join1 ⟨rfl, rfl, gi rfl (by unfold kOf; (repeat' split) <;> omega), gi rfl (by unfold loOf; (repeat' split) <;> omega), gi rfl (by unfold hiOf; (repeat' split) <;> omega), rfl, trivial⟩ (fun _ h => h)
         ·refine TC.skip (TQ.then (TC.seq (TC.region (TL.opP rfl (op_move rfl) (TL.opP rfl (op_eql rfl rfl) (TL.nil (TQ.then ?_)))))))
          first | refine TC.condD rfl (fun c29 => ?_) (fun c29 => ?_) | refine TC.condB rfl (fun c29 => ?_) (fun c29 => ?_)
          ·refine TC.region (TL.opP rfl (op_assign rfl) (TL.nil (TQ.block_normal ?_)))
           exact TQ.join1 ⟨rfl, rfl, gi rfl (by unfold kOf; (repeat' split) <;> omega), gi rfl (by unfold loOf; (repeat' split) <;> omega), gi rfl (by unfold hiOf; (repeat' split) <;> omega), rfl, trivial⟩ (fun _ h => h)
          ·refine TC.skip (TQ.block_normal ?_)
           exact TQ.join1 ⟨rfl, rfl, gi rfl (by unfold kOf; (repeat' split) <;> omega), gi rfl (by unfold loOf; (repeat' split) <;> omega), gi rfl (by unfold hiOf; (repeat' split) <;> omega), rfl, trivial⟩ (fun _ h => h)
        ·refine TC.skip (TQ.block_normal ?_)
         exact TQ.join1 ⟨rfl, rfl, gi rfl (by unfold kOf; (repeat' split) <;> omega), gi rfl (by unfold loOf; (repeat' split) <;> omega), gi rfl (by unfold hiOf; (repeat' split) <;> omega), rfl, trivial⟩ (fun _ h => h)
       ·refine TL.gFf rfl rfl rfl (TL.gFf rfl rfl rfl (TL.opP rfl (op_pickF rfl rfl) (TL.opP rfl (op_assign rfl) (TL.nil (TQ.then (TC.condF rfl (TC.skip (TQ.block_normal ?_))))))))
        exact TQ.join1 ⟨rfl, rfl, gi rfl (by unfold kOf; (repeat' split) <;> omega), gi rfl (by unfold loOf; (repeat' split) <;> omega), gi rfl (by unfold hiOf; (repeat' split) <;> omega), rfl, trivial⟩ (fun _ h => h)
     ·refine TL.gFf rfl rfl rfl (TL.gFf rfl rfl rfl (TL.opP rfl (op_pickF rfl rfl) (TL.opP rfl (op_assign rfl) (TL.nil (TQ.then (TC.condF rfl (TC.seq (TC.region (TL.opP rfl (op_move rfl) (TL.opP rfl (op_geq rfl rfl) (TL.opP rfl (op_move rfl) ?_)))))))))))
      first | refine TL.splitD (fun c30 => ?_) (fun c30 => ?_) | refine TL.splitB (fun c30 => ?_) (fun c30 => ?_)
      ·refine TL.gT rfl rfl (TL.opP rfl (op_move rfl) (TL.gT rfl rfl (TL.opP rfl (op_leq rfl rfl) (TL.opP rfl (op_pickT rfl rfl) (TL.opP rfl (op_assign rfl) (TL.nil (TQ.then ?_)))))))
       first | refine TC.condD rfl (fun c31 => ?_) (fun c31 => ?_) | refine TC.condB rfl (fun c31 => ?_) (fun c31 => ?_)
       ·refine TC.seq (TC.region (TL.opP rfl (op_assign rfl) (TL.nil (TQ.then (TC.seq (TC.seq (TC.region (TL.opP rfl (op_move rfl) (TL.opP rfl (op_eql rfl rfl) (TL.nil (TQ.then ?_)))))))))))
        first | refine TC.condD rfl (fun c32 => ?_) (fun c32 => ?_) | refine TC.condB rfl (fun c32 => ?_) (fun c32 => ?_)
        ·refine TC.region (TL.opP rfl (op_assign rfl) (TL.nil (TQ.then (TC.seq (TC.region (TL.opP rfl (op_move rfl) (TL.opP rfl (op_eql rfl rfl) (TL.nil (TQ.then ?_)))))))))
         first | refine TC.condD rfl (fun c33 => ?_) (fun c33 => ?_) | refine TC.condB rfl (fun c33 => ?_) (fun c33 => ?_)
         ·refine TC.region (TL.opP rfl (op_assign rfl) (TL.nil (TQ.block_normal ?_)))
          exact TQ.join1 ⟨rfl, rfl, gi rfl (by unfold kOf; (repeat' split) <;> omega), gi rfl (by unfold loOf; (repeat' split) <;> omega), gi rfl (by unfold hiOf; (repeat' split) <;> omega), rfl, trivial⟩ (fun _ h => h)
         ·refine TC.skip (TQ.block_normal ?_)
          exact TQ.join1 ⟨rfl, rfl, gi rfl (by unfold kOf; (repeat' split) <;> omega), gi rfl (by unfold loOf; (repeat' split) <;> omega), gi rfl (by unfold hiOf; (repeat' split) <;> omega), rfl, trivial⟩ (fun _ h => h)
        ·refine TC.skip (TQ.then (TC.seq (TC.region (TL.opP rfl (op_move rfl) (TL.opP rfl (op_eql rfl rfl) (TL.nil (TQ.then ?_)))))))
         first | refine TC.condD rfl (fun c34 => ?_) (fun c34 => ?_) | refine TC.condB rfl (fun c34 => ?_) (fun c34 => ?_)
         ·refine TC.region (TL.opP rfl (op_assign rfl) (TL.nil (TQ.block_normal ?_)))
          exact TQ.join1 ⟨rfl, rfl, gi rfl (by unfold kOf; (repeat' split) <;> omega), gi rfl (by unfold loOf; (repeat' split) <;> omega), gi rfl (by unfold hiOf; (repeat' split) <;> omega), rfl, trivial⟩ (fun _ h => h)
         ·refine TC.skip (TQ.block_normal ?_)
          exact TQ.join1 ⟨rfl, rfl, gi rfl (by unfold kOf; (repeat' split) <;> omega), gi rfl (by unfold loOf; (repeat' split) <;> omega), gi rfl (by unfold hiOf; (repeat' split) <;> omega), rfl, trivial⟩ (fun _ h => h)
       ·refine TC.skip (TQ.block_normal ?_)
        exact TQ.join1 ⟨rfl, rfl, gi rfl (by unfold kOf; (repeat' split) <;> omega), gi rfl (by unfold loOf; (repeat' split) <;> omega), gi rfl (by unfold hiOf; (repeat' split) <;> omega), rfl, trivial⟩ (fun _ h => h)
      ·refine TL.gFf rfl rfl rfl (TL.gFf rfl rfl rfl (TL.opP rfl (op_pickF rfl rfl) (TL.opP rfl (op_assign rfl) (TL.nil (TQ.then (TC.condF rfl (TC.skip (TQ.block_normal ?_))))))))
       exact TQ.join1 ⟨rfl, rfl, gi rfl (by unfold kOf; (repeat' split) <;> omega), gi rfl (by unfold loOf; (repeat' split) <;> omega), gi rfl (by unfold hiOf; (repeat' split) <;> omega), rfl, trivial⟩ (fun _ h => h)
  ·refine TC.seq (TC.seq (TC.region (TL.opP rfl (op_move rfl) (TL.opP rfl (op_eql rfl rfl) (TL.opP rfl (op_move rfl) ?_)))))
   first | refine TL.splitD (fun c35 => ?_) (fun c35 => ?_) | refine TL.splitB (fun c35 => ?_) (fun c35 => ?_)
   ·refine TL.gFt rfl rfl rfl (TL.gFt rfl rfl rfl (TL.gFt rfl rfl rfl (TL.gFt rfl rfl rfl (TL.opP rfl (op_pickT rfl rfl) (TL.nil (TQ.then (TC.condT rfl (TC.seq (TC.region (TL.opP rfl (op_assign rfl) (TL.nil (TQ.then (TC.ret (TQ.then_ret (TQ.block_ret (TQ.loop_ret (TQ.block_ret (TQ.then_ret ?_))))))))))))))))))
    refine ret1 rfl rfl (fun w' hp => ?_)
    first
      | exact ⟨by rw [hI.bad hne (by rintro ⟨a1, a2, a3⟩; first | omega | exact okBad1 (by assumption) (a3 i hi1 (by omega)) | exact okBad2 (by assumption) (a3 i hi1 (by omega)))], hp.kp⟩
      | (obtain rfl : l = [] := by (cases l with | nil => rfl | cons x t => simp at c1)
         exact ⟨by rw [hI.stop], hp.kp⟩)
   ·refine TL.gT rfl rfl (TL.opP rfl (op_move rfl) (TL.gT rfl rfl (TL.opV rfl (op_lenV rfl un_sl_uint8 rfl rd0) (TL.gT rfl rfl (TL.opP rfl (op_move rfl) (TL.gT rfl rfl (TL.opP rfl (op_lss rfl rfl) (TL.opP rfl (op_pickF rfl rfl) (TL.nil (TQ.then ?_))))))))))
    first | refine TC.condD rfl (fun c36 => ?_) (fun c36 => ?_) | refine TC.condB rfl (fun c36 => ?_) (fun c36 => ?_)
    ·refine TC.seq (TC.region (TL.opP rfl (op_assign rfl) (TL.nil (TQ.then (TC.ret (TQ.then_ret (TQ.block_ret (TQ.loop_ret (TQ.block_ret (TQ.then_ret ?_))))))))))
     refine ret1 rfl rfl (fun w' hp => ?_)
     first
       | exact ⟨by rw [hI.bad hne (by rintro ⟨a1, a2, a3⟩; first | omega | exact okBad1 (by assumption) (a3 i hi1 (by omega)) | exact okBad2 (by assumption) (a3 i hi1 (by omega)))], hp.kp⟩
       | (obtain rfl : l = [] := by (cases l with | nil => rfl | cons x t => simp at c1)
          exact ⟨by rw [hI.stop], hp.kp⟩)
    ·refine TC.skip (TQ.then (TC.seq (TC.seq (TC.region (TL.opP rfl (op_assign rfl) (TL.nil (TQ.then (TC.block (TC.loop (ι := Nat) (fun i => [(0, bv), (3, .int .i64 n), (4, .int .i64 ((kOf (by' l 0) : Nat) : Int)), (5, .int .u8 ((if i = 1 then loOf (by' l 0) else 128 : Nat) : Int)), (6, .int .u8 ((if i = 1 then hiOf (by' l 0) else 191 : Nat) : Int)), (8, .int .i64 (i : Int))]) (fun i => [.rd bv 1 l.length (l.map u8v)]) (fun i => 1 ≤ i ∧ i ≤ kOf (by' l 0) ∧ ∀ j, 1 ≤ j → j < i → okAt l j) (fun i => kOf (by' l 0) - i) (1) (⟨Nat.le_refl _, by omega, fun j a b => by omega⟩) ⟨rfl, rfl, rfl, rfl, rfl, rfl, trivial⟩ (fun _ h => h) ?_)))))))))
     rintro i ⟨hi1, hik, hij⟩
     refine TC.seq (TC.seq (TC.region (TL.opP rfl (op_move rfl) (TL.opP rfl (op_move rfl) (TL.opP rfl (op_lss rfl rfl) (TL.nil (TQ.then ?_)))))))
     first | refine TC.condD rfl (fun c37 => ?_) (fun c37 => ?_) | refine TC.condB rfl (fun c37 => ?_) (fun c37 => ?_)
     ·refine TC.skip (TQ.then (TC.seq (TC.block (TC.seq (TC.seq (TC.region (TL.opP rfl (op_move rfl) (TL.opP rfl (op_move rfl) (TL.opV rfl (op_index tsl_uint8 rfl rd0 rfl (by omega) (by omega)) (TL.opV rfl (op_loadR ts_uint8 rfl rd0 (lkU8 (i := i) (by omega) (by omega))) (TL.opP rfl (op_move rfl) (TL.opP rfl (op_lss rfl rfl) (TL.opP rfl (op_move rfl) ?_)))))))))))))
      first | refine TL.splitD (fun c38 => ?_) (fun c38 => ?_) | refine TL.splitB (fun c38 => ?_) (fun c38 => ?_)
      ·refine TL.gFt rfl rfl rfl (TL.gFt rfl rfl rfl (TL.gFt rfl rfl rfl (TL.gFt rfl rfl rfl (TL.gFt rfl rfl rfl (TL.gFt rfl rfl rfl (TL.opP rfl (op_pickT rfl rfl) (TL.nil (TQ.then (TC.condT rfl (TC.seq (TC.region (TL.opP rfl (op_assign rfl) (TL.nil (TQ.then (TC.ret (TQ.then_ret (TQ.block_ret (TQ.then_ret (TQ.loop_ret (TQ.block_ret (TQ.then_ret (TQ.block_ret (TQ.loop_ret (TQ.block_ret (TQ.then_ret ?_)))))))))))))))))))))))))
       refine ret1 rfl rfl (fun w' hp => ?_)
       first
         | exact ⟨by rw [hI.bad hne (by rintro ⟨a1, a2, a3⟩; first | omega | exact okBad1 (by assumption) (a3 i hi1 (by omega)) | exact okBad2 (by assumption) (a3 i hi1 (by omega)))], hp.kp⟩
         | (obtain rfl : l = [] := by (cases l with | nil => rfl | cons x t => simp at c1)
            exact ⟨by rw [hI.stop], hp.kp⟩)
      ·refine TL.gT rfl rfl (TL.opP rfl (op_move rfl) (TL.gT rfl rfl (TL.opP rfl (op_move rfl) (TL.gT rfl rfl (TL.opV rfl (op_index tsl_uint8 rfl rd0 rfl (by omega) (by omega)) (TL.gT rfl rfl (TL.opV rfl (op_loadR ts_uint8 rfl rd0 (lkU8 (i := i) (by omega) (by omega))) (TL.gT rfl rfl (TL.opP rfl (op_move rfl) (TL.gT rfl rfl (TL.opP rfl (op_gtr rfl rfl) (TL.opP rfl (op_pickF rfl rfl) (TL.nil (TQ.then ?_))))))))))))))
       first | refine TC.condD rfl (fun c39 => ?_) (fun c39 => ?_) | refine TC.condB rfl (fun c39 => ?_) (fun c39 => ?_)
       ·refine TC.seq (TC.region (TL.opP rfl (op_assign rfl) (TL.nil (TQ.then (TC.ret (TQ.then_ret (TQ.block_ret (TQ.then_ret (TQ.loop_ret (TQ.block_ret (TQ.then_ret (TQ.block_ret (TQ.loop_ret (TQ.block_ret (TQ.then_ret ?_)))))))))))))))
        refine ret1 rfl rfl (fun w' hp => ?_)
        first
          | exact ⟨by rw [hI.bad hne (by rintro ⟨a1, a2, a3⟩; first | omega | exact okBad1 (by assumption) (a3 i hi1 (by omega)) | exact okBad2 (by assumption) (a3 i hi1 (by omega)))], hp.kp⟩
          | (obtain rfl : l = [] := by (cases l with | nil => rfl | cons x t => simp at c1)
             exact ⟨by rw [hI.stop], hp.kp⟩)
       ·refine TC.skip (TQ.then (TC.seq (TC.region (TL.opP rfl (op_assign rfl) (TL.nil (TQ.then (TC.region (TL.opP rfl (op_assign rfl) (TL.nil (TQ.block_normal (TQ.then (TC.region (TL.opP rfl (op_move rfl) (TL.opP rfl (op_add rfl rfl rfl (by omega) (by omega)) (TL.opP rfl (op_assign rfl) (TL.nil ?_))))))))))))))))
        exact TQ.round (i + 1) (⟨by omega, by omega, okAt_succ hij (okAt_of (by assumption) (by assumption))⟩) (by omega) ⟨rfl, rfl, rfl, gi rfl (by rw [if_neg (by omega)]; rfl), gi rfl (by rw [if_neg (by omega)]; rfl), rfl, trivial⟩ (fun _ h => h)
     ·have hok : stepOk l := ⟨by omega, by omega, fun j a b => hij j a (by omega)⟩
      refine TC.exit (TQ.then_exit (TQ.loop_exit (TQ.block_hit (TQ.then (TC.seq (TC.region (TL.opP rfl (op_move rfl) (TL.opP rfl (op_move rfl) (TL.opV rfl (op_cut (kOf (by' l 0)) l.length tsl_uint8 rfl rd0 (vlo := (some _)) (vhi := none) rfl rfl (.inr ⟨_, _, rfl, by omega⟩) (.inl ⟨rfl, rfl⟩) (by omega) (by omega)) (TL.opP rfl (op_assign rfl) (TL.hp (fun _ h => rd_dropF h (kOf (by' l 0)) (by omega)) (TL.nil (TQ.then (TC.region (TL.opP rfl (op_move rfl) (TL.opP rfl (op_add rfl rfl rfl (by omega) (by omega)) (TL.opP rfl (op_assign rfl) (TL.nil (TQ.block_normal ?_)))))))))))))))))))
      exact TQ.round (l.drop (kOf (by' l 0)), n + 1, Value.cut bv (kOf (by' l 0)) l.length 1) (hI.step hne hok) (by show (l.drop _).length < l.length; rw [List.length_drop]; have := hok.1; omega) ⟨rfl, rfl, trivial⟩ (fun _ h => h)
 ·refine TC.exit (TQ.then_exit (TQ.loop_exit (TQ.block_hit (TQ.then (TC.seq (TC.region (TL.opP rfl (op_move rfl) (TL.opP rfl (op_assign rfl) (TL.nil (TQ.then (TC.ret ?_)))))))))))
  refine ret1 rfl rfl (fun w' hp => ?_)
  first
    | exact ⟨by rw [hI.bad hne (by rintro ⟨a1, a2, a3⟩; first | omega | exact okBad1 (by assumption) (a3 i hi1 (by omega)) | exact okBad2 (by assumption) (a3 i hi1 (by omega)))], hp.kp⟩
    | (obtain rfl : l = [] := by (cases l with | nil => rfl | cons x t => simp at c1)
       exact ⟨by rw [hI.stop], hp.kp⟩)

theorem rfits_calls (p : Part) (w : World) (hs : p.text.size < 9223372036854775807) :
    Calls Tryd.prog 58 (List.toArray [p.val]) w fun e w' => e = .returned (.bool (fitsB p)) ∧ Kp NoB w w' := by
 refine calls_start Tryd.func58 rfl rfl rfl (Hp.init0 w) ?_
 refine TC.seq (TC.region ?_)
 refine TL.opX rfl (OpX.box (cs := p.cs) rfl rfl) ?_; rintro _ _ ⟨g1, rfl, rfl⟩
 refine TL.opP rfl (op_assign rfl) (TL.nil (TQ.then (TC.seq (TC.seq (TC.region (TL.opP rfl (op_field fld_api_Part_N rfl) (TL.opV rfl (op_load ts_int rfl m0 rfl) (TL.opP rfl (op_lss rfl rfl) (TL.opP rfl (op_move rfl) ?_)))))))))
 first | refine TL.splitD (fun c1 => ?_) (fun c1 => ?_) | refine TL.splitB (fun c1 => ?_) (fun c1 => ?_)
 ·refine TL.gFt rfl rfl rfl (TL.gFt rfl rfl rfl (TL.gFt rfl rfl rfl (TL.opP rfl (op_pickT rfl rfl) (TL.nil (TQ.then (TC.condT rfl (TC.seq (TC.region (TL.opP rfl (op_assign rfl) (TL.nil (TQ.then (TC.ret (TQ.then_ret ?_)))))))))))))
  refine ret1 rfl rfl (fun w' hp => ?_)
  exact ⟨by first | rw [fitsB_two c1 c2 c3] | (unfold fitsB; rw [rcount_dec]; grind), hp.kp⟩
 ·refine TL.gT rfl rfl (TL.opP rfl (op_field fld_api_Part_N rfl) (TL.gT rfl rfl (TL.opV rfl (op_load ts_int rfl m0 rfl) (TL.gT rfl rfl (TL.opP rfl (op_gtr rfl rfl) (TL.opP rfl (op_pickF rfl rfl) (TL.nil (TQ.then ?_))))))))
  first | refine TC.condD rfl (fun c2 => ?_) (fun c2 => ?_) | refine TC.condB rfl (fun c2 => ?_) (fun c2 => ?_)
  ·refine TC.seq (TC.region (TL.opP rfl (op_assign rfl) (TL.nil (TQ.then (TC.ret (TQ.then_ret ?_))))))
   refine ret1 rfl rfl (fun w' hp => ?_)
   exact ⟨by first | rw [fitsB_two c1 c2 c3] | (unfold fitsB; rw [rcount_dec]; grind), hp.kp⟩
  ·refine TC.skip (TQ.then (TC.seq (TC.seq (TC.region (TL.opP rfl (op_field fld_api_Part_Kind rfl) (TL.opV rfl (op_load ts_int rfl m0 rfl) (TL.opP rfl (op_eql rfl rfl) (TL.nil (TQ.then ?_)))))))))
   first | refine TC.condD rfl (fun c3 => ?_) (fun c3 => ?_) | refine TC.condB rfl (fun c3 => ?_) (fun c3 => ?_)
   ·refine TC.seq (TC.draw [] (.cons (.p, 0) (.cons (.p, 4) (.cons (.t, 1) (.cons (.t, 5) (.cons (.o, 2) (.cons (.o, 3) (.cons (.p, 6) (.cons (.p, 7) (.nil))))))))) mo (by kernel_rfl) (TR.p rfl rfl wt0 (op_field fld_api_Part_Text rfl) (TR.p rfl rfl wt0 (op_field fld_api_Part_N rfl) (TR.t rfl rfl wt0 (op_load ts_string rfl m0 rfl) (fun _ h => h) (TR.t rfl rfl wt0 (op_load ts_int rfl m0 rfl) (fun _ h => h) ?_)))))
    refine TR.o rfl rfl wt0 (OpX.bytes un_string tsl_uint8 un_uint8 rfl (by simp only [maxLen]; omega)) (by rintro v1 _ rfl; intro w h; exact h.tail) ?_; rintro v1 _ rfl
    refine TR.know (fun _ h => rd1' h) (fun o1 => ?_)
    refine TR.o rfl rfl wt0 (OpX.callX en_47 rfl (CallX.of_quiet (fun w2 hp => runes_calls p.text.data.toList _ w2 (by rw [size_len]; exact rd0 _ _ _ hp)))) (by rintro _ _ ⟨rfl, rfl⟩; intro w h; exact h.tail) ?_; rintro _ _ ⟨rfl, rfl⟩
    refine TR.p rfl rfl wt0 (op_eql rfl rfl) (TR.p rfl rfl wt0 (op_assign rfl) (TR.nil (TQ.then (TC.ret (TQ.then_ret ?_)))))
    refine ret1 rfl rfl (fun w' hp => ?_)
    exact ⟨by first | rw [fitsB_two c1 c2 c3] | (unfold fitsB; rw [rcount_dec]; grind), hp.kp⟩
   ·refine TC.skip (TQ.then (TC.seq (TC.region (TL.opP rfl (op_field fld_api_Part_Kind rfl) (TL.opV rfl (op_load ts_int rfl m0 rfl) (TL.opP rfl (op_eql rfl rfl) (TL.opP rfl (op_move rfl) ?_)))))))
    first | refine TL.splitD (fun c4 => ?_) (fun c4 => ?_) | refine TL.splitB (fun c4 => ?_) (fun c4 => ?_)
    ·refine TL.gFt rfl rfl rfl (TL.gFt rfl rfl rfl (TL.gFt rfl rfl rfl (TL.opP rfl (op_pickT rfl rfl) (TL.opP rfl (op_move rfl) (TL.gT rfl rfl (TL.opP rfl (op_field fld_api_Part_Text rfl) (TL.gT rfl rfl (TL.opV rfl (op_load ts_string rfl m0 rfl) (TL.gT rfl rfl (TL.opP rfl (op_seql rfl rfl) (TL.opP rfl (op_pickT rfl rfl) (TL.opP rfl (op_assign rfl) (TL.nil (TQ.then (TC.ret ?_)))))))))))))))
     refine ret1 rfl rfl (fun w' hp => ?_)
     exact ⟨by first | rw [fitsB_two c1 c2 c3] | (unfold fitsB; rw [rcount_dec]; grind), hp.kp⟩
    ·refine TL.gT rfl rfl (TL.opP rfl (op_field fld_api_Part_Kind rfl) (TL.gT rfl rfl (TL.opV rfl (op_load ts_int rfl m0 rfl) (TL.gT rfl rfl (TL.opP rfl (op_eql rfl rfl) (TL.opP rfl (op_pickF rfl rfl) (TL.opP rfl (op_move rfl) ?_)))))))
     first | refine TL.splitD (fun c5 => ?_) (fun c5 => ?_) | refine TL.splitB (fun c5 => ?_) (fun c5 => ?_)
     ·refine TL.gT rfl rfl (TL.opP rfl (op_field fld_api_Part_Text rfl) (TL.gT rfl rfl (TL.opV rfl (op_load ts_string rfl m0 rfl) (TL.gT rfl rfl (TL.opP rfl (op_seql rfl rfl) (TL.opP rfl (op_pickT rfl rfl) (TL.opP rfl (op_assign rfl) (TL.nil (TQ.then (TC.ret ?_))))))))))
      refine ret1 rfl rfl (fun w' hp => ?_)
      exact ⟨by first | rw [fitsB_two c1 c2 c3] | (unfold fitsB; rw [rcount_dec]; grind), hp.kp⟩
     ·refine TL.gFf rfl rfl rfl (TL.gFf rfl rfl rfl (TL.gFf rfl rfl rfl (TL.opP rfl (op_pickF rfl rfl) (TL.opP rfl (op_assign rfl) (TL.nil (TQ.then (TC.ret ?_)))))))
      refine ret1 rfl rfl (fun w' hp => ?_)
      exact ⟨by first | rw [fitsB_two c1 c2 c3] | (unfold fitsB; rw [rcount_dec]; grind), hp.kp⟩

theorem rsize_calls (e : List Part) (v : Value) (w : World) (hs : ∀ p ∈ e, p.text.size < 9223372036854775807) (hv : RdRow w v 3 e.length (encs e)) :
    Calls Tryd.prog 46 (List.toArray [v]) w fun e' w' => e' = .returned (.tuple #[.int .i64 (sizeF e).1, .int .i64 (sizeF e).2, .int .i64 (sizeE e)]) ∧ Kp NoB w w' := by
 have hlen : e.length ≤ 9223372036854775807 := by obtain ⟨_, A, c, _, h1, h2, _⟩ := hv; simp only [maxLen] at h2; omega
 refine calls_start Tryd.func46 rfl rfl rfl (Hp.i1 (r := .rd v 3 e.length (encs e)) hv) ?_
 refine TC.seq (TC.region (TL.opP rfl (op_assign rfl) (TL.opP rfl (op_assign rfl) (TL.opP rfl (op_assign rfl) (TL.nil (TQ.then (TC.seq (TC.region (TL.opP rfl (op_assign rfl) (TL.opP rfl (op_assign rfl) (TL.nil (TQ.then (TC.seq (TC.seq (TC.region (TL.opP rfl (op_move rfl) (TL.opV rfl (op_lenV rfl un_sl_api_Part rfl rd0) (TL.opP rfl (op_move rfl) (TL.nil (TQ.then (TC.block (TC.loop (ι := Nat × Int × Int) (fun (k, f, t) => [(0, v), (5, .int .i64 f), (6, .int .i64 t), (9, v), (10, .int .i64 (e.length : Int)), (11, .int .i64 (k : Int))]) (fun (k, f, t) => [.rd v 3 e.length (encs e)]) (fun (k, f, t) => k ≤ e.length ∧ sizesGo (prevAt e k) (e.drop k) f t = sizesF e ∧ 0 ≤ f ∧ f ≤ 1099511627776 ∧ 0 ≤ t ∧ t ≤ 1099511627776) (fun (k, f, t) => e.length - k) ((0, 0, 0)) (⟨Nat.zero_le _, rfl, by omega, by omega, by omega, by omega⟩) ⟨rfl, rfl, rfl, rfl, rfl, rfl, trivial⟩ (fun _ h => h) ?_))))))))))))))))))))))
 rintro ⟨k, f, t⟩ ⟨hk, hgo, hf0, hf1, ht0, ht1⟩
 show TC _ _ _ _ [(0, v), (5, .int .i64 f), (6, .int .i64 t), (9, v), (10, .int .i64 (e.length : Int)), (11, .int .i64 (k : Int))] _ _ ([.rd v 3 e.length (encs e)])
 refine TC.seq (TC.region (TL.opP rfl (op_lss rfl rfl) (TL.nil (TQ.then (TC.seq ?_)))))
 first | refine TC.condD rfl (fun c1 => ?_) (fun c1 => ?_) | refine TC.condB rfl (fun c1 => ?_) (fun c1 => ?_)
 ·have hkl : k < e.length := by omega
  obtain ⟨p, hpk⟩ : ∃ p, e.getD k default = p := ⟨_, rfl⟩
  have hd := drop_getD hkl hpk
  have hpe : p ∈ e := by rw [← hpk, List.getD_eq_getElem?_getD, List.getElem?_eq_getElem hkl]; exact List.getElem_mem hkl
  refine TC.skip (TQ.then (TC.seq (TC.block (TC.seq (TC.region (TL.opP rfl (op_move rfl) (TL.opV rfl (op_index tsl_api_Part rfl rd0 rfl (by omega) (by omega)) (TL.opV rfl (op_loadRS tst_api_Part rfl rd0 (cs := p.cs) rfl (lkS hkl hpk) (by decide)) ?_))))))))
  refine TL.opX rfl (OpX.alloc tz_api_Part rfl) ?_; rintro _ _ ⟨g8, rfl, rfl⟩
  refine TL.opP rfl (op_assign rfl) ?_
  refine TL.opX0 (OpX.storeS tst_api_Part rfl rfl rfl rfl rfl (List.all_eq_true.1 rfl)) ?_; rintro _ _ rfl
  refine TL.nil (TQ.then (TC.seq ?_))
  refine TC.join1 [(0, v), (5, .int .i64 f), (6, .int .i64 t), (9, v), (10, .int .i64 (e.length : Int)), (11, .int .i64 (k : Int)), (7, .int .i64 (k : Int)), (8, .pointer (some ⟨g8, 0, none⟩)), (47, .bool (stopB (prevAt e k) p))] ([.blk g8 (.cells p.cs.toArray 38 (0, 0)), .rd v 3 e.length (encs e)]) ?_ ?_
  ·refine TC.draw [] (.cons (.t, 0) (.cons (.t, 1) (.cons (.p, 2) (.cons (.p, 3) (.cons (.p, 4) (.cons (.p, 5) (.cons (.p, 6) (.cons (.p, 7) (.cons (.p, 8) (.cons (.p, 9) (.cons (.p, 13) (.cons (.t, 10) (.cons (.p, 11) (.cons (.t, 12) (.cons (.t, 14) (.cons (.p, 15) (.cons (.p, 16) (.cons (.p, 17) (.cons (.p, 18) (.cons (.p, 19) (.cons (.t, 20) (.cons (.p, 21) (.cons (.t, 22) (.cons (.p, 23) (.cons (.p, 24) (.cons (.p, 25) (.cons (.t, 26) (.cons (.p, 27) (.cons (.p, 28) (.cons (.p, 29) (.cons (.p, 30) (.cons (.p, 31) (.nil))))))))))))))))))))))))))))))))) mo (by kernel_rfl) (TR.t rfl rfl wt0 (op_loadS tst_api_Part rfl m0 rfl) (fun _ h => h) (TR.tcall rfl rfl wt0 en_58 rfl (fun w2 hp => rfits_calls p w2 (hs p hpe)) (fun _ h => h) ?_))
   refine TR.p rfl rfl wt0 (op_not rfl rfl) (TR.p rfl rfl wt0 (op_move rfl) ?_)
   first | refine TR.splitD (fun c2 => ?_) (fun c2 => ?_) | refine TR.splitB (fun c2 => ?_) (fun c2 => ?_)
   ·refine TR.off rfl rfl (by exact wtFt rfl rfl) (TR.off rfl rfl (by exact wtFt rfl rfl) (TR.off rfl rfl (by exact wtFt rfl rfl) (TR.off rfl rfl (by exact wtU rfl rfl) (TR.off rfl rfl (by exact wtU rfl rfl) (TR.off rfl rfl (by exact wtU rfl rfl) (TR.off rfl rfl (by exact wtU rfl rfl) (TR.offT rfl rfl (by exact wtU rfl rfl) (fun _ h => h) (TR.off rfl rfl (by exact wtU rfl rfl) (TR.offT rfl rfl (by exact wtU rfl rfl) (fun _ h => h) (TR.offT rfl rfl (by exact wtU rfl rfl) (fun _ h => h) (TR.off rfl rfl (by exact wtU rfl rfl) (TR.off rfl rfl (by exact wtU rfl rfl) (TR.off rfl rfl (by exact wtU rfl rfl) (TR.off rfl rfl (by exact wtU rfl rfl) (TR.off rfl rfl (by exact wtU rfl rfl) (TR.offT rfl rfl (by exact wtU rfl rfl) (fun _ h => h) ?_))))))))))))))))
    refine TR.off rfl rfl (by exact wtU rfl rfl) (TR.offT rfl rfl (by exact wtU rfl rfl) (fun _ h => h) (TR.off rfl rfl (by exact wtU rfl rfl) (TR.off rfl rfl (by exact wtU rfl rfl) (TR.off rfl rfl (by exact wtU rfl rfl) (TR.offT rfl rfl (by exact wtU rfl rfl) (fun _ h => h) (TR.off rfl rfl (by exact wtU rfl rfl) (TR.off rfl rfl (by exact wtU rfl rfl) (TR.off rfl rfl (by exact wtU rfl rfl) (TR.off rfl rfl (by exact wtFt rfl rfl) (TR.p rfl rfl wt0 (op_pickT rfl rfl) (TR.nil ?_)))))))))))
    exact TQ.join1 ⟨rfl, rfl, rfl, rfl, rfl, rfl, rfl, rfl, gb rfl (by grind [stopB, prevAt]), trivial⟩ (fun _ h => h)
   ·refine TR.p rfl rfl (by exact wtT rfl rfl) (op_move rfl) (TR.p rfl rfl (by exact wtT rfl rfl) (op_gtr rfl rfl) (TR.p rfl rfl (by exact wtT rfl rfl) (op_move rfl) ?_))
    first | refine TR.splitD (fun c3 => ?_) (fun c3 => ?_) | refine TR.splitB (fun c3 => ?_) (fun c3 => ?_)
    ·refine TR.p rfl rfl (by exact wtT rfl rfl) (op_move rfl) (TR.p rfl rfl (by exact wtT rfl rfl) (op_move rfl) (TR.p rfl rfl (by exact wtT rfl rfl) (op_sub rfl rfl rfl (by omega) (by omega)) (TR.p rfl rfl (by exact wtT rfl rfl) (op_field fld_api_Part_Kind rfl) (TR.t rfl rfl (by exact wtT rfl rfl) (op_index tsl_api_Part rfl rd1 rfl (by omega) (by omega)) (fun _ h => h) (TR.p rfl rfl (by exact wtT rfl rfl) (op_fieldA fld_api_Part_Kind rfl) ?_)))))
     refine TR.t rfl rfl (by exact wtT rfl rfl) (op_loadR ts_int rfl rd1 (lk (xs := e) (i := k-1) (j := 0) (by omega) (by show _ = (k-1)*3+0; omega) rfl)) (fun _ h => h) ?_
     refine TR.t rfl rfl (by exact wtT rfl rfl) (op_load ts_int rfl m0 rfl) (fun _ h => h) (TR.p rfl rfl (by exact wtT rfl rfl) (op_eql rfl rfl) (TR.p rfl rfl (by exact wtT rfl rfl) (op_move rfl) ?_))
     first | refine TR.splitD (fun c4 => ?_) (fun c4 => ?_) | refine TR.splitB (fun c4 => ?_) (fun c4 => ?_)
     ·refine TR.off rfl rfl (by exact wtFt rfl rfl) (TR.off rfl rfl (by exact wtFt rfl rfl) (TR.off rfl rfl (by exact wtFt rfl rfl) (TR.offT rfl rfl (by exact wtFt rfl rfl) (fun _ h => h) (TR.off rfl rfl (by exact wtFt rfl rfl) (TR.offT rfl rfl (by exact wtFt rfl rfl) (fun _ h => h) (TR.off rfl rfl (by exact wtFt rfl rfl) (TR.off rfl rfl (by exact wtFt rfl rfl) (TR.off rfl rfl (by exact wtU rfl rfl) (TR.offT rfl rfl (by exact wtU rfl rfl) (fun _ h => h) (TR.off rfl rfl (by exact wtU rfl rfl) (TR.off rfl rfl (by exact wtFt rfl rfl) (TR.p rfl rfl (by exact wtT rfl rfl) (op_pickT rfl rfl) (TR.p rfl rfl (by exact wtT rfl rfl) (op_pickT rfl rfl) (TR.p rfl rfl wt0 (op_pickF rfl rfl) (TR.nil ?_)))))))))))))))
      exact TQ.join1 ⟨rfl, rfl, rfl, rfl, rfl, rfl, rfl, rfl, gb rfl (by grind [stopB, prevAt]), trivial⟩ (fun _ h => h)
     ·refine TR.p rfl rfl (by exact wtT rfl rfl) (op_move rfl) (TR.p rfl rfl (by exact wtT rfl rfl) (op_move rfl) (TR.p rfl rfl (by exact wtT rfl rfl) (op_sub rfl rfl rfl (by omega) (by omega)) (TR.t rfl rfl (by exact wtT rfl rfl) (op_index tsl_api_Part rfl rd1 rfl (by omega) (by omega)) (fun _ h => h) (TR.p rfl rfl (by exact wtT rfl rfl) (op_fieldA fld_api_Part_Kind rfl) ?_))))
      refine TR.t rfl rfl (by exact wtT rfl rfl) (op_loadR ts_int rfl rd1 (lk (xs := e) (i := k-1) (j := 0) (by omega) (by show _ = (k-1)*3+0; omega) rfl)) (fun _ h => h) ?_
      refine TR.p rfl rfl (by exact wtT rfl rfl) (op_eql rfl rfl) (TR.p rfl rfl (by exact wtT rfl rfl) (op_move rfl) ?_)
      first | refine TR.splitD (fun c5 => ?_) (fun c5 => ?_) | refine TR.splitB (fun c5 => ?_) (fun c5 => ?_)
      ·refine TR.p rfl rfl (by exact wtT rfl rfl) (op_field fld_api_Part_Kind rfl) (TR.t rfl rfl (by exact wtT rfl rfl) (op_load ts_int rfl m0 rfl) (fun _ h => h) (TR.p rfl rfl (by exact wtT rfl rfl) (op_eql rfl rfl) (TR.p rfl rfl (by exact wtT rfl rfl) (op_pickT rfl rfl) (TR.p rfl rfl (by exact wtT rfl rfl) (op_pickF rfl rfl) (TR.p rfl rfl (by exact wtT rfl rfl) (op_pickT rfl rfl) (TR.p rfl rfl wt0 (op_pickF rfl rfl) (TR.nil ?_)))))))
       exact TQ.join1 ⟨rfl, rfl, rfl, rfl, rfl, rfl, rfl, rfl, gb rfl (by grind [stopB, prevAt]), trivial⟩ (fun _ h => h)
      ·refine TR.off rfl rfl (by exact wtFf rfl rfl) (TR.offT rfl rfl (by exact wtFf rfl rfl) (fun _ h => h) (TR.off rfl rfl (by exact wtFf rfl rfl) (TR.p rfl rfl (by exact wtT rfl rfl) (op_pickF rfl rfl) (TR.p rfl rfl (by exact wtT rfl rfl) (op_pickF rfl rfl) (TR.p rfl rfl (by exact wtT rfl rfl) (op_pickT rfl rfl) (TR.p rfl rfl wt0 (op_pickF rfl rfl) (TR.nil ?_)))))))
       exact TQ.join1 ⟨rfl, rfl, rfl, rfl, rfl, rfl, rfl, rfl, gb rfl (by grind [stopB, prevAt]), trivial⟩ (fun _ h => h)
    ·refine TR.off rfl rfl (by exact wtFf rfl rfl) (TR.off rfl rfl (by exact wtFf rfl rfl) (TR.off rfl rfl (by exact wtFf rfl rfl) (TR.off rfl rfl (by exact wtFf rfl rfl) (TR.offT rfl rfl (by exact wtFf rfl rfl) (fun _ h => h) (TR.off rfl rfl (by exact wtFf rfl rfl) (TR.offT rfl rfl (by exact wtFf rfl rfl) (fun _ h => h) (TR.offT rfl rfl (by exact wtFf rfl rfl) (fun _ h => h) (TR.off rfl rfl (by exact wtFf rfl rfl) (TR.off rfl rfl (by exact wtFf rfl rfl) (TR.off rfl rfl (by exact wtU rfl rfl) (TR.off rfl rfl (by exact wtU rfl rfl) (TR.off rfl rfl (by exact wtU rfl rfl) (TR.offT rfl rfl (by exact wtU rfl rfl) (fun _ h => h) (TR.off rfl rfl (by exact wtU rfl rfl) (TR.offT rfl rfl (by exact wtU rfl rfl) (fun _ h => h) ?_)))))))))))))))
     refine TR.off rfl rfl (by exact wtU rfl rfl) (TR.off rfl rfl (by exact wtU rfl rfl) (TR.off rfl rfl (by exact wtU rfl rfl) (TR.offT rfl rfl (by exact wtU rfl rfl) (fun _ h => h) (TR.off rfl rfl (by exact wtU rfl rfl) (TR.off rfl rfl (by exact wtU rfl rfl) (TR.off rfl rfl (by exact wtFf rfl rfl) (TR.p rfl rfl (by exact wtT rfl rfl) (op_pickF rfl rfl) (TR.p rfl rfl wt0 (op_pickF rfl rfl) (TR.nil ?_)))))))))
     exact TQ.join1 ⟨rfl, rfl, rfl, rfl, rfl, rfl, rfl, rfl, gb rfl (by grind [stopB, prevAt]), trivial⟩ (fun _ h => h)
  ·first | refine TC.condD rfl (fun c6 => ?_) (fun c6 => ?_) | refine TC.condB rfl (fun c6 => ?_) (fun c6 => ?_)
   ·refine TC.seq (TC.region (TL.opP rfl (op_assign rfl) (TL.opP rfl (op_assign rfl) (TL.opP rfl (op_assign rfl) (TL.nil (TQ.then (TC.ret (TQ.then_ret (TQ.block_ret (TQ.then_ret (TQ.loop_ret (TQ.block_ret (TQ.then_ret ?_)))))))))))))
    refine ret3 rfl rfl rfl rfl (fun w' hp => ?_)
    exact ⟨by simp only [sizeF, sizeE]; rw [← hgo]; first | (rw [List.drop_eq_nil_of_le (by omega)]; rfl) | (rw [hd]; simp only [sizesGo]; grind [addF, addT]), hp.kp⟩
   ·have hfit := fitsB_n (stopB_fits c6)
    refine TC.skip (TQ.then (TC.seq (TC.seq (TC.region (TL.opP rfl (op_field fld_api_Part_Kind rfl) (TL.opV rfl (op_load ts_int rfl m0 rfl) (TL.opP rfl (op_neq rfl rfl) (TL.nil (TQ.then ?_)))))))))
    first | refine TC.condD rfl (fun c7 => ?_) (fun c7 => ?_) | refine TC.condB rfl (fun c7 => ?_) (fun c7 => ?_)
    ·refine TC.region (TL.opP rfl (op_move rfl) (TL.opP rfl (op_field fld_api_Part_N rfl) (TL.opV rfl (op_load ts_int rfl m0 rfl) (TL.opP rfl (op_add rfl rfl rfl (by omega) (by omega)) (TL.opP rfl (op_assign rfl) (TL.nil (TQ.then (TC.seq (TC.seq (TC.region (TL.opP rfl (op_field fld_api_Part_Kind rfl) (TL.opV rfl (op_load ts_int rfl m0 rfl) (TL.opP rfl (op_neq rfl rfl) (TL.nil (TQ.then ?_)))))))))))))))
     first | refine TC.condD rfl (fun c8 => ?_) (fun c8 => ?_) | refine TC.condB rfl (fun c8 => ?_) (fun c8 => ?_)
     ·refine TC.region (TL.opP rfl (op_move rfl) (TL.opP rfl (op_field fld_api_Part_N rfl) (TL.opV rfl (op_load ts_int rfl m0 rfl) (TL.opP rfl (op_add rfl rfl rfl (by omega) (by omega)) (TL.opP rfl (op_assign rfl) (TL.nil (TQ.then (TC.seq (TC.region (TL.opP rfl (op_move rfl) (TL.opP rfl (op_gtr rfl rfl) (TL.opP rfl (op_move rfl) ?_))))))))))))
      first | refine TL.splitD (fun c9 => ?_) (fun c9 => ?_) | refine TL.splitB (fun c9 => ?_) (fun c9 => ?_)
      ·refine TL.gFt rfl rfl rfl (TL.gFt rfl rfl rfl (TL.opP rfl (op_pickT rfl rfl) (TL.nil (TQ.then (TC.condT rfl (TC.seq (TC.region (TL.opP rfl (op_assign rfl) (TL.opP rfl (op_assign rfl) (TL.opP rfl (op_assign rfl) (TL.nil (TQ.then (TC.ret (TQ.block_ret (TQ.then_ret (TQ.loop_ret (TQ.block_ret (TQ.then_ret ?_))))))))))))))))))
       refine ret3 rfl rfl rfl rfl (fun w' hp => ?_)
       exact ⟨by simp only [sizeF, sizeE]; rw [← hgo]; first | (rw [List.drop_eq_nil_of_le (by omega)]; rfl) | (rw [hd]; simp only [sizesGo]; grind [addF, addT]), hp.kp⟩
      ·refine TL.gT rfl rfl (TL.opP rfl (op_move rfl) (TL.gT rfl rfl (TL.opP rfl (op_gtr rfl rfl) (TL.opP rfl (op_pickF rfl rfl) (TL.nil (TQ.then ?_))))))
       first | refine TC.condD rfl (fun c10 => ?_) (fun c10 => ?_) | refine TC.condB rfl (fun c10 => ?_) (fun c10 => ?_)
       ·refine TC.seq (TC.region (TL.opP rfl (op_assign rfl) (TL.opP rfl (op_assign rfl) (TL.opP rfl (op_assign rfl) (TL.nil (TQ.then (TC.ret (TQ.block_ret (TQ.then_ret (TQ.loop_ret (TQ.block_ret (TQ.then_ret ?_))))))))))))
        refine ret3 rfl rfl rfl rfl (fun w' hp => ?_)
        exact ⟨by simp only [sizeF, sizeE]; rw [← hgo]; first | (rw [List.drop_eq_nil_of_le (by omega)]; rfl) | (rw [hd]; simp only [sizesGo]; grind [addF, addT]), hp.kp⟩
       ·refine TC.skip (TQ.block_normal (TQ.then (TC.region (TL.opP rfl (op_add rfl rfl rfl (by omega) (by omega)) (TL.opP rfl (op_move rfl) (TL.nil ?_))))))
        exact TQ.round (k + 1, addF p f, addT p t) (⟨by omega, by simp only [prevAt, Nat.add_sub_cancel, hpk]; rw [if_neg (by omega)]; rw [← hgo, hd, sizesGo, c6]; grind [addF, addT], by grind [addF], by grind [addF], by grind [addT], by grind [addT]⟩) (by show _ - (k + 1) < _ - k; omega) ⟨rfl, gi rfl (by grind [addF]), gi rfl (by grind [addT]), rfl, rfl, rfl, trivial⟩ (fun _ h => h.tail)
     ·refine TC.skip (TQ.then (TC.seq (TC.region (TL.opP rfl (op_move rfl) (TL.opP rfl (op_gtr rfl rfl) (TL.opP rfl (op_move rfl) ?_))))))
      first | refine TL.splitD (fun c11 => ?_) (fun c11 => ?_) | refine TL.splitB (fun c11 => ?_) (fun c11 => ?_)
      ·refine TL.gFt rfl rfl rfl (TL.gFt rfl rfl rfl (TL.opP rfl (op_pickT rfl rfl) (TL.nil (TQ.then (TC.condT rfl (TC.seq (TC.region (TL.opP rfl (op_assign rfl) (TL.opP rfl (op_assign rfl) (TL.opP rfl (op_assign rfl) (TL.nil (TQ.then (TC.ret (TQ.block_ret (TQ.then_ret (TQ.loop_ret (TQ.block_ret (TQ.then_ret ?_))))))))))))))))))
       refine ret3 rfl rfl rfl rfl (fun w' hp => ?_)
       exact ⟨by simp only [sizeF, sizeE]; rw [← hgo]; first | (rw [List.drop_eq_nil_of_le (by omega)]; rfl) | (rw [hd]; simp only [sizesGo]; grind [addF, addT]), hp.kp⟩
      ·refine TL.gT rfl rfl (TL.opP rfl (op_move rfl) (TL.gT rfl rfl (TL.opP rfl (op_gtr rfl rfl) (TL.opP rfl (op_pickF rfl rfl) (TL.nil (TQ.then ?_))))))
       first | refine TC.condD rfl (fun c12 => ?_) (fun c12 => ?_) | refine TC.condB rfl (fun c12 => ?_) (fun c12 => ?_)
       ·refine TC.seq (TC.region (TL.opP rfl (op_assign rfl) (TL.opP rfl (op_assign rfl) (TL.opP rfl (op_assign rfl) (TL.nil (TQ.then (TC.ret (TQ.block_ret (TQ.then_ret (TQ.loop_ret (TQ.block_ret (TQ.then_ret ?_))))))))))))
        refine ret3 rfl rfl rfl rfl (fun w' hp => ?_)
        exact ⟨by simp only [sizeF, sizeE]; rw [← hgo]; first | (rw [List.drop_eq_nil_of_le (by omega)]; rfl) | (rw [hd]; simp only [sizesGo]; grind [addF, addT]), hp.kp⟩
       ·refine TC.skip (TQ.block_normal (TQ.then (TC.region (TL.opP rfl (op_add rfl rfl rfl (by omega) (by omega)) (TL.opP rfl (op_move rfl) (TL.nil ?_))))))
        exact TQ.round (k + 1, addF p f, addT p t) (⟨by omega, by simp only [prevAt, Nat.add_sub_cancel, hpk]; rw [if_neg (by omega)]; rw [← hgo, hd, sizesGo, c6]; grind [addF, addT], by grind [addF], by grind [addF], by grind [addT], by grind [addT]⟩) (by show _ - (k + 1) < _ - k; omega) ⟨rfl, gi rfl (by grind [addF]), gi rfl (by grind [addT]), rfl, rfl, rfl, trivial⟩ (fun _ h => h.tail)
    ·refine TC.skip (TQ.then (TC.seq (TC.seq (TC.region (TL.opP rfl (op_field fld_api_Part_Kind rfl) (TL.opV rfl (op_load ts_int rfl m0 rfl) (TL.opP rfl (op_neq rfl rfl) (TL.nil (TQ.then ?_)))))))))
     first | refine TC.condD rfl (fun c13 => ?_) (fun c13 => ?_) | refine TC.condB rfl (fun c13 => ?_) (fun c13 => ?_)
     ·refine TC.region (TL.opP rfl (op_move rfl) (TL.opP rfl (op_field fld_api_Part_N rfl) (TL.opV rfl (op_load ts_int rfl m0 rfl) (TL.opP rfl (op_add rfl rfl rfl (by omega) (by omega)) (TL.opP rfl (op_assign rfl) (TL.nil (TQ.then (TC.seq (TC.region (TL.opP rfl (op_move rfl) (TL.opP rfl (op_gtr rfl rfl) (TL.opP rfl (op_move rfl) ?_))))))))))))
      first | refine TL.splitD (fun c14 => ?_) (fun c14 => ?_) | refine TL.splitB (fun c14 => ?_) (fun c14 => ?_)
      ·refine TL.gFt rfl rfl rfl (TL.gFt rfl rfl rfl (TL.opP rfl (op_pickT rfl rfl) (TL.nil (TQ.then (TC.condT rfl (TC.seq (TC.region (TL.opP rfl (op_assign rfl) (TL.opP rfl (op_assign rfl) (TL.opP rfl (op_assign rfl) (TL.nil (TQ.then (TC.ret (TQ.block_ret (TQ.then_ret (TQ.loop_ret (TQ.block_ret (TQ.then_ret ?_))))))))))))))))))
       refine ret3 rfl rfl rfl rfl (fun w' hp => ?_)
       exact ⟨by simp only [sizeF, sizeE]; rw [← hgo]; first | (rw [List.drop_eq_nil_of_le (by omega)]; rfl) | (rw [hd]; simp only [sizesGo]; grind [addF, addT]), hp.kp⟩
      ·refine TL.gT rfl rfl (TL.opP rfl (op_move rfl) (TL.gT rfl rfl (TL.opP rfl (op_gtr rfl rfl) (TL.opP rfl (op_pickF rfl rfl) (TL.nil (TQ.then ?_))))))
       first | refine TC.condD rfl (fun c15 => ?_) (fun c15 => ?_) | refine TC.condB rfl (fun c15 => ?_) (fun c15 => ?_)
       ·refine TC.seq (TC.region (TL.opP rfl (op_assign rfl) (TL.opP rfl (op_assign rfl) (TL.opP rfl (op_assign rfl) (TL.nil (TQ.then (TC.ret (TQ.block_ret (TQ.then_ret (TQ.loop_ret (TQ.block_ret (TQ.then_ret ?_))))))))))))
        refine ret3 rfl rfl rfl rfl (fun w' hp => ?_)
        exact ⟨by simp only [sizeF, sizeE]; rw [← hgo]; first | (rw [List.drop_eq_nil_of_le (by omega)]; rfl) | (rw [hd]; simp only [sizesGo]; grind [addF, addT]), hp.kp⟩
       ·refine TC.skip (TQ.block_normal (TQ.then (TC.region (TL.opP rfl (op_add rfl rfl rfl (by omega) (by omega)) (TL.opP rfl (op_move rfl) (TL.nil ?_))))))
        exact TQ.round (k + 1, addF p f, addT p t) (⟨by omega, by simp only [prevAt, Nat.add_sub_cancel, hpk]; rw [if_neg (by omega)]; rw [← hgo, hd, sizesGo, c6]; grind [addF, addT], by grind [addF], by grind [addF], by grind [addT], by grind [addT]⟩) (by show _ - (k + 1) < _ - k; omega) ⟨rfl, gi rfl (by grind [addF]), gi rfl (by grind [addT]), rfl, rfl, rfl, trivial⟩ (fun _ h => h.tail)
     ·refine TC.skip (TQ.then (TC.seq (TC.region (TL.opP rfl (op_move rfl) (TL.opP rfl (op_gtr rfl rfl) (TL.opP rfl (op_move rfl) ?_))))))
      first | refine TL.splitD (fun c16 => ?_) (fun c16 => ?_) | refine TL.splitB (fun c16 => ?_) (fun c16 => ?_)
      ·refine TL.gFt rfl rfl rfl (TL.gFt rfl rfl rfl (TL.opP rfl (op_pickT rfl rfl) (TL.nil (TQ.then (TC.condT rfl (TC.seq (TC.region (TL.opP rfl (op_assign rfl) (TL.opP rfl (op_assign rfl) (TL.opP rfl (op_assign rfl) (TL.nil (TQ.then (TC.ret (TQ.block_ret (TQ.then_ret (TQ.loop_ret (TQ.block_ret (TQ.then_ret ?_))))))))))))))))))
       refine ret3 rfl rfl rfl rfl (fun w' hp => ?_)
       exact ⟨by simp only [sizeF, sizeE]; rw [← hgo]; first | (rw [List.drop_eq_nil_of_le (by omega)]; rfl) | (rw [hd]; simp only [sizesGo]; grind [addF, addT]), hp.kp⟩
      ·refine TL.gT rfl rfl (TL.opP rfl (op_move rfl) (TL.gT rfl rfl (TL.opP rfl (op_gtr rfl rfl) (TL.opP rfl (op_pickF rfl rfl) (TL.nil (TQ.then ?_))))))
       first | refine TC.condD rfl (fun c17 => ?_) (fun c17 => ?_) | refine TC.condB rfl (fun c17 => ?_) (fun c17 => ?_)
       ·refine TC.seq (TC.region (TL.opP rfl (op_assign rfl) (TL.opP rfl (op_assign rfl) (TL.opP rfl (op_assign rfl) (TL.nil (TQ.then (TC.ret (TQ.block_ret (TQ.then_ret (TQ.loop_ret (TQ.block_ret (TQ.then_ret ?_))))))))))))
        refine ret3 rfl rfl rfl rfl (fun w' hp => ?_)
        exact ⟨by simp only [sizeF, sizeE]; rw [← hgo]; first | (rw [List.drop_eq_nil_of_le (by omega)]; rfl) | (rw [hd]; simp only [sizesGo]; grind [addF, addT]), hp.kp⟩
       ·refine TC.skip (TQ.block_normal (TQ.then (TC.region (TL.opP rfl (op_add rfl rfl rfl (by omega) (by omega)) (TL.opP rfl (op_move rfl) (TL.nil ?_))))))
        exact TQ.round (k + 1, addF p f, addT p t) (⟨by omega, by simp only [prevAt, Nat.add_sub_cancel, hpk]; rw [if_neg (by omega)]; rw [← hgo, hd, sizesGo, c6]; grind [addF, addT], by grind [addF], by grind [addF], by grind [addT], by grind [addT]⟩) (by show _ - (k + 1) < _ - k; omega) ⟨rfl, gi rfl (by grind [addF]), gi rfl (by grind [addT]), rfl, rfl, rfl, trivial⟩ (fun _ h => h.tail)
 ·refine TC.exit (TQ.then_exit (TQ.loop_exit (TQ.block_hit (TQ.then (TC.seq (TC.region (TL.opP rfl (op_move rfl) (TL.opP rfl (op_move rfl) (TL.opP rfl (op_assign rfl) (TL.opP rfl (op_assign rfl) (TL.opP rfl (op_assign rfl) (TL.nil (TQ.then (TC.ret ?_))))))))))))))
  refine ret3 rfl rfl rfl rfl (fun w' hp => ?_)
  exact ⟨by simp only [sizeF, sizeE]; rw [← hgo]; first | (rw [List.drop_eq_nil_of_le (by omega)]; rfl) | (rw [hd]; simp only [sizesGo]; grind [addF, addT]), hp.kp⟩

theorem rcheck_calls (e : List Part) (n : Int) (v : Value) (w : World) (hs : ∀ p ∈ e, p.text.size < 9223372036854775807) (hv : RdRow w v 3 e.length (encs e)) :
    Calls Tryd.prog 48 (List.toArray [v, .int .i64 n]) w fun e' w' => e' = .returned (.int .i64 (checkF e n)) ∧ Kp NoB w w' := by
 have hlen : e.length ≤ 9223372036854775807 := by obtain ⟨_, A, c, _, h1, h2, _⟩ := hv; simp only [maxLen] at h2; omega
 refine calls_start Tryd.func48 rfl rfl rfl (Hp.i1 (r := .rd v 3 e.length (encs e)) hv) ?_
 refine TC.seq (TC.region (TL.opP rfl (op_assign rfl) (TL.nil (TQ.then (TC.seq (TC.region (TL.opP rfl (op_move rfl) (TL.callq rfl en_46 rfl (fun w2 hp => rsize_calls e v w2 hs (rd0 _ _ _ hp)) (TL.opP rfl (op_move rfl) (TL.opP rfl (op_extract rfl rfl) (TL.opP rfl (op_extract rfl rfl) (TL.opP rfl (op_extract rfl rfl) (TL.opP rfl (op_assign rfl) (TL.opP rfl (op_assign rfl) (TL.opP rfl (op_assign rfl) (TL.nil (TQ.then (TC.seq (TC.seq (TC.region (TL.opP rfl (op_move rfl) (TL.opP rfl (op_neq rfl rfl) (TL.opP rfl (op_move rfl) ?_)))))))))))))))))))))))
 first | refine TL.splitD (fun c1 => ?_) (fun c1 => ?_) | refine TL.splitB (fun c1 => ?_) (fun c1 => ?_)
 ·refine TL.gFt rfl rfl rfl (TL.gFt rfl rfl rfl (TL.gFt rfl rfl rfl (TL.opP rfl (op_pickT rfl rfl) (TL.nil (TQ.then (TC.condT rfl (TC.seq (TC.region (TL.opP rfl (op_assign rfl) (TL.nil (TQ.then (TC.ret (TQ.then_ret ?_)))))))))))))
  refine ret1 rfl rfl (fun w' hp => ?_)
  exact ⟨by simp only [checkF]; grind [sizeE, sizeF], hp.kp⟩
 ·refine TL.gT rfl rfl (TL.opP rfl (op_move rfl) (TL.gT rfl rfl (TL.opP rfl (op_move rfl) (TL.gT rfl rfl (TL.opP rfl (op_neq rfl rfl) (TL.opP rfl (op_pickF rfl rfl) (TL.nil (TQ.then ?_))))))))
  first | refine TC.condD rfl (fun c2 => ?_) (fun c2 => ?_) | refine TC.condB rfl (fun c2 => ?_) (fun c2 => ?_)
  ·refine TC.seq (TC.region (TL.opP rfl (op_assign rfl) (TL.nil (TQ.then (TC.ret (TQ.then_ret ?_))))))
   refine ret1 rfl rfl (fun w' hp => ?_)
   exact ⟨by simp only [checkF]; grind [sizeE, sizeF], hp.kp⟩
  ·refine TC.skip (TQ.then (TC.seq (TC.region (TL.opP rfl (op_assign rfl) (TL.nil (TQ.then (TC.ret ?_)))))))
   refine ret1 rfl rfl (fun w' hp => ?_)
   exact ⟨by simp only [checkF]; grind [sizeE, sizeF], hp.kp⟩



end Go.SK

set_option linter.unusedVariables false
set_option linter.unusedSimpArgs false
set_option maxRecDepth 100000
namespace Go.SK
open Go Go.RowKit Go.Proofs
variable {S : Nat → Prop} {w0 : World} {F L : List Res}
theorem op_pneq {n : Nat} {l : FrL} {dst : Option Tmp} {x y : Operand} {ty t' : TypeId} {pos : String} {af : Array Edge} {gd : Option (Nat × Bool)} {p q : Part} (hx : evO l x = some (.agg p.cs.toArray)) (hy : evO l y = some (.agg q.cs.toArray)) :
    OpP Tryd.prog n l ⟨dst, .binOp .neq 38 x y t', ty, pos, af, gd⟩ (.bool (decide (p ≠ q))) := fun a w ha => by
  have hg : (eqGuard .neq 38 x y (.agg p.cs.toArray) (.agg q.cs.toArray)).run Tryd.prog w = .ok () w := by kernel_rfl
  have h1 : (Op.equal 38 (.agg p.cs.toArray) (.agg q.cs.toArray)).run Tryd.prog w = .ok ((p.kind == q.kind) && ((p.n == q.n) && (p.text.toList == q.text.toList))) w := by
    have hf : (Tryd.prog.fieldsOf 38).toList = [⟨"Kind", 3, 0, false, "", "", 0⟩, ⟨"N", 3, 1, false, "", "", 8⟩, ⟨"Text", 9, 2, false, "", "", 16⟩] := by kernel_rfl
    unfold Op.equal
    rw [show Op.maxDepth = (Op.maxDepth - 2) + 1 + 1 from by decide]
    rw [run_equalIn_struct w _ 38 _ _ (by kernel_rfl) (by kernel_rfl), hf]
    have p1 : (part 3 p.cs.toArray 0).run Tryd.prog w = .ok (.int .i64 p.kind) w := by kernel_rfl
    have p2 : (part 3 p.cs.toArray 1).run Tryd.prog w = .ok (.int .i64 p.n) w := by kernel_rfl
    have p3 : (part 9 p.cs.toArray 2).run Tryd.prog w = .ok (.string p.text) w := by kernel_rfl
    have q1 : (part 3 q.cs.toArray 0).run Tryd.prog w = .ok (.int .i64 q.kind) w := by kernel_rfl
    have q2 : (part 3 q.cs.toArray 1).run Tryd.prog w = .ok (.int .i64 q.n) w := by kernel_rfl
    have q3 : (part 9 q.cs.toArray 2).run Tryd.prog w = .ok (.string q.text) w := by kernel_rfl
    have i1 := fun a b => run_equalIn_int (P := Tryd.prog) w (Op.maxDepth - 2) 3 .i64 .i64 a b un_int
    have i2 := fun a b => run_equalIn_string (P := Tryd.prog) w (Op.maxDepth - 2) 9 a b un_string
    simp only [Op.eqFields, ne_eq, String.reduceEq, not_false_eq_true, if_true, Sem.run_bind, p1, p2, p3, q1, q2, q3, Result.andThen_ok, i1, i2]
    cases h1 : (p.kind == q.kind) <;> cases h2 : (p.n == q.n) <;> cases h3 : (p.text.toList == q.text.toList) <;> simp [Sem.run_pure, i1, i2, h1, h2, h3, p1, p2, p3, q1, q2, q3]
  have h2 : (!((p.kind == q.kind) && ((p.n == q.n) && (p.text.toList == q.text.toList)))) = decide (p ≠ q) := by
    rw [str_eq]
    cases p; cases q
    simp only [ne_eq, Part.mk.injEq, decide_not, Bool.not_eq_not]
    rw [Bool.eq_iff_iff]
    simp
  simp only [execOp, ha.eval hx, ha.eval hy, Sem.run_bind, hg, Result.andThen_ok, binOp, h1, Sem.run_pure, h2]
theorem rone_x (r : List Part) (p : Part) (v : Value) (hb : OneB r p) (hr : Rdb L v 3 r.length (encs r.reverse)) :
    CallX Tryd.prog 59 [v, p.val] S w0 (L) (fun u L' => ∃ v', u = v' ∧ L' = .row v' 38 3 (oneR r p).length (encs (oneR r p).reverse) :: L) := by
 intro w hp
 have hlen := hb.len
 have hp0 := hb.p0
 refine calls_start Tryd.func59 rfl rfl rfl (hp) ?_
 refine TC.seq (TC.region ?_)
 refine TL.opX rfl (OpX.box (cs := p.cs) rfl rfl) ?_; rintro _ _ ⟨g3, rfl, rfl⟩
 refine TL.opP rfl (op_assign rfl) (TL.nil (TQ.then (TC.seq (TC.seq (TC.region (TL.opP rfl (op_move rfl) (TL.opV rfl (op_lenV rfl un_sl_api_Part rfl hr.cons) (TL.opP rfl (op_assign rfl) (TL.nil (TQ.then (TC.seq (TC.draw [] (.cons (.p, 0) (.cons (.p, 1) (.cons (.p, 2) (.cons (.p, 3) (.cons (.p, 4) (.cons (.p, 5) (.cons (.p, 9) (.cons (.t, 6) (.cons (.p, 7) (.cons (.t, 8) (.cons (.t, 10) (.cons (.p, 11) (.cons (.p, 12) (.nil)))))))))))))) mo (by kernel_rfl) (TR.p rfl rfl wt0 (op_move rfl) (TR.p rfl rfl wt0 (op_gtr rfl rfl) (TR.p rfl rfl wt0 (op_move rfl) ?_)))))))))))))))
 first | refine TR.splitD (fun c1 => ?_) (fun c1 => ?_) | refine TR.splitB (fun c1 => ?_) (fun c1 => ?_)
 ·obtain ⟨q, r, rfl⟩ : ∃ q r', r = q :: r' := by cases r with | nil => simp at c1 | cons q r' => exact ⟨q, r', rfl⟩
  have hbh := hb.head
  have hlc : (q :: r).length = r.length + 1 := rfl
  have hrl : r.reverse.length = r.length := List.length_reverse
  have hrl2 : (q :: r).reverse.length = (q :: r).length := List.length_reverse
  refine TR.p rfl rfl (by exact wtT rfl rfl) (op_move rfl) (TR.p rfl rfl (by exact wtT rfl rfl) (op_move rfl) (TR.p rfl rfl (by exact wtT rfl rfl) (op_sub rfl rfl rfl (by omega) (by omega)) (TR.p rfl rfl (by exact wtT rfl rfl) (op_field fld_api_Part_Kind rfl) (TR.t rfl rfl (by exact wtT rfl rfl) (op_index tsl_api_Part rfl hr.cons rfl (by omega) (by omega)) (fun _ h => h) (TR.p rfl rfl (by exact wtT rfl rfl) (op_fieldA fld_api_Part_Kind rfl) (TR.t rfl rfl (by exact wtT rfl rfl) (op_loadR ts_int rfl hr.cons (lkR 0 (by omega) rfl)) (fun _ h => h) (TR.t rfl rfl (by exact wtT rfl rfl) (op_load ts_int rfl m0 rfl) (fun _ h => h) (TR.p rfl rfl (by exact wtT rfl rfl) (op_eql rfl rfl) (TR.p rfl rfl wt0 (op_pickT rfl rfl) ?_)))))))))
  refine TR.nil (TQ.then ?_)
  first | refine TC.condD rfl (fun c2 => ?_) (fun c2 => ?_) | refine TC.condB rfl (fun c2 => ?_) (fun c2 => ?_)
  ·refine TC.seq (TC.region (TL.opP rfl (op_move rfl) (TL.opP rfl (op_move rfl) (TL.opP rfl (op_sub rfl rfl rfl (by omega) (by omega)) (TL.opV rfl (op_index tsl_api_Part rfl hr.cons rfl (by omega) (by omega)) (TL.opV rfl (op_loadRS tst_api_Part rfl hr.cons (cs := q.cs) rfl (lkRS (by omega)) (by decide)) ?_))))))
   refine TL.opX rfl (OpX.alloc tz_api_Part rfl) ?_; rintro _ _ ⟨g6, rfl, rfl⟩
   refine TL.opX0 (OpX.storeS tst_api_Part rfl rfl rfl rfl rfl (List.all_eq_true.1 rfl)) ?_; rintro _ _ rfl
   refine TL.nil (TQ.then (TC.seq (TC.region (TL.opP rfl (op_field fld_api_Part_N rfl) (TL.opV rfl (op_load ts_int rfl m0 rfl) (TL.opP rfl (op_field fld_api_Part_N rfl) (TL.opV rfl (op_load ts_int rfl m1 rfl) (TL.opP rfl (op_add rfl rfl rfl (by omega) (by omega)) (TL.opP rfl (op_field fld_api_Part_N rfl) ?_)))))))))
   refine TL.opX0 (OpX.store1 ts_int rfl rfl (by first | rfl | assumption) rfl rfl) ?_; rintro _ _ rfl
   refine TL.nil (TQ.then (TC.seq (TC.region (TL.opP rfl (op_field fld_api_Part_Text rfl) (TL.opV rfl (op_load ts_string rfl m0 rfl) (TL.opP rfl (op_field fld_api_Part_Text rfl) (TL.opV rfl (op_load ts_string rfl m1 rfl) (TL.opP rfl (op_sadd rfl rfl (by omega)) (TL.opP rfl (op_field fld_api_Part_Text rfl) ?_)))))))))
   refine TL.opX0 (OpX.store1 ts_string rfl rfl (by first | rfl | assumption) rfl rfl) ?_; rintro _ _ rfl
   refine TL.nil (TQ.then (TC.seq (TC.draw [] (.cons (.p, 1) (.cons (.p, 2) (.cons (.p, 3) (.cons (.t, 4) (.cons (.t, 6) (.alt (.cons (.o, 0) (.alt (.cons (.o, 5) (.cons (.o, 7) (.cons (.o, 8) (.cons (.p, 9) (.nil))))) (.cons (.o, 7) (.cons (.o, 5) (.cons (.o, 8) (.cons (.p, 9) (.nil))))))) (.cons (.o, 7) (.cons (.o, 0) (.cons (.o, 5) (.cons (.o, 8) (.cons (.p, 9) (.nil)))))))))))) mo (by kernel_rfl) (TR.p rfl rfl wt0 (op_move rfl) (TR.p rfl rfl wt0 (op_move rfl) (TR.p rfl rfl wt0 (op_sub rfl rfl rfl (by omega) (by omega)) (TR.t rfl rfl wt0 (op_cut 0 r.length tsl_api_Part rfl hr.cons.cons (vlo := none) (vhi := (some _)) rfl rfl (.inl ⟨rfl, rfl⟩) (.inr ⟨_, _, rfl, by omega⟩) (by omega) (by omega)) (fun _ h => h) ?_)))))))
   refine TR.t rfl rfl wt0 (op_loadS tst_api_Part rfl m0 rfl) (fun _ h => h) ?_
   refine TR.alt ?_ ?_
   ·refine TR.o rfl rfl wt0 (OpX.buildSlice (ps := #[]) rfl (bs_api_Part_0 )) (by rintro _ _ ⟨g39, rfl, rfl⟩; intro w h; exact h.tail) ?_; rintro _ _ ⟨g39, rfl, rfl⟩
    refine TR.hp (fun _ h => blk_row (k := 3) (m := 0) h rfl (by decide)) ?_
    refine TR.alt ?_ ?_
    ·refine TR.o rfl rfl wt0 (OpX.append (bytes := 32) tsl_api_Part (by decide) (by decide) rfl (hr.cons.cons.cons).takeR (encs_one _) (by omega) (zs := encs r.reverse) rfl) (by rintro v1 _ rfl; intro w h; exact h.tail) ?_; rintro v1 _ rfl
     refine TR.know (fun _ h => row1 h) (fun o1 => (TR.hp (fun _ h => row_len3 h) ?_))
     refine TR.o rfl rfl wt0 (OpX.buildSlice (ps := #[(0, _)]) rfl (bs_api_Part_1 (q.more p))) (by rintro _ _ ⟨g46, rfl, rfl⟩; intro w h; exact h.drop1.tail) ?_; rintro _ _ ⟨g46, rfl, rfl⟩
     refine TR.hp (fun _ h => blk_row (k := 3) (m := 1) h rfl (by decide)) (TR.hp (fun _ h => h.pick1) ?_)
     refine TR.o rfl rfl wt0 (OpX.append (bytes := 32) tsl_api_Part (by decide) (by decide) rfl rw1 (encs_one _) (by omega) (zs := encs (q.more p :: r).reverse) (encs_push _ _)) (by rintro v2 _ rfl; intro w h; exact h.drop1.tail) ?_; rintro v2 _ rfl
     refine TR.know (fun _ h => row1 h) (fun o2 => (TR.hp (fun _ h => row_len3 h) (TR.p rfl rfl wt0 (op_assign rfl) (TR.nil (TQ.then (TC.ret (TQ.then_ret ?_)))))))
     refine ret1 rfl rfl (fun w' hp => ?_)
     have hq := (hp.drop3.drop2.drop1)
     first
       | (rw [List.length_reverse] at hq; exact ⟨_, _, rfl, ⟨_, rfl, by rw [oneR_same c2]⟩, hq⟩)
       | (rw [List.length_reverse] at hq; exact ⟨_, _, rfl, ⟨_, rfl, by rw [oneR_push c2]⟩, hq⟩)
       | (rw [List.length_reverse] at hq; exact ⟨_, _, rfl, ⟨_, rfl, rfl⟩, hq⟩)
    ·refine TR.o rfl rfl wt0 (OpX.buildSlice (ps := #[(0, _)]) rfl (bs_api_Part_1 (q.more p))) (by rintro _ _ ⟨g46, rfl, rfl⟩; intro w h; exact h.drop1.tail) ?_; rintro _ _ ⟨g46, rfl, rfl⟩
     refine TR.hp (fun _ h => blk_row (k := 3) (m := 1) h rfl (by decide)) (TR.hp (fun _ h => h.pick1) ?_)
     refine TR.o rfl rfl wt0 (OpX.append (bytes := 32) tsl_api_Part (by decide) (by decide) rfl (hr.cons.cons.cons.cons).takeR (encs_one _) (by omega) (zs := encs r.reverse) rfl) (by rintro v3 _ rfl; intro w h; exact h.drop1.tail) ?_; rintro v3 _ rfl
     refine TR.know (fun _ h => row1 h) (fun o3 => (TR.hp (fun _ h => row_len3 h) ?_))
     refine TR.o rfl rfl wt0 (OpX.append (bytes := 32) tsl_api_Part (by decide) (by decide) rfl rw1 (encs_one _) (by omega) (zs := encs (q.more p :: r).reverse) (encs_push _ _)) (by rintro v4 _ rfl; intro w h; exact h.drop1.tail) ?_; rintro v4 _ rfl
     refine TR.know (fun _ h => row1 h) (fun o4 => (TR.hp (fun _ h => row_len3 h) (TR.p rfl rfl wt0 (op_assign rfl) (TR.nil (TQ.then (TC.ret (TQ.then_ret ?_)))))))
     refine ret1 rfl rfl (fun w' hp => ?_)
     have hq := (hp.drop3.drop2.drop1)
     first
       | (rw [List.length_reverse] at hq; exact ⟨_, _, rfl, ⟨_, rfl, by rw [oneR_same c2]⟩, hq⟩)
       | (rw [List.length_reverse] at hq; exact ⟨_, _, rfl, ⟨_, rfl, by rw [oneR_push c2]⟩, hq⟩)
       | (rw [List.length_reverse] at hq; exact ⟨_, _, rfl, ⟨_, rfl, rfl⟩, hq⟩)
   ·refine TR.o rfl rfl wt0 (OpX.buildSlice (ps := #[(0, _)]) rfl (bs_api_Part_1 (q.more p))) (by rintro _ _ ⟨g46, rfl, rfl⟩; intro w h; exact h.tail) ?_; rintro _ _ ⟨g46, rfl, rfl⟩
    refine TR.hp (fun _ h => blk_row (k := 3) (m := 1) h rfl (by decide)) ?_
    refine TR.o rfl rfl wt0 (OpX.buildSlice (ps := #[]) rfl (bs_api_Part_0 )) (by rintro _ _ ⟨g39, rfl, rfl⟩; intro w h; exact h.drop1.tail) ?_; rintro _ _ ⟨g39, rfl, rfl⟩
    refine TR.hp (fun _ h => blk_row (k := 3) (m := 0) h rfl (by decide)) ?_
    refine TR.o rfl rfl wt0 (OpX.append (bytes := 32) tsl_api_Part (by decide) (by decide) rfl (hr.cons.cons.cons.cons).takeR (encs_one _) (by omega) (zs := encs r.reverse) rfl) (by rintro v5 _ rfl; intro w h; exact h.drop1.tail) ?_; rintro v5 _ rfl
    refine TR.know (fun _ h => row1 h) (fun o5 => (TR.hp (fun _ h => row_len3 h) ?_))
    refine TR.o rfl rfl wt0 (OpX.append (bytes := 32) tsl_api_Part (by decide) (by decide) rfl rw1 (encs_one _) (by omega) (zs := encs (q.more p :: r).reverse) (encs_push _ _)) (by rintro v6 _ rfl; intro w h; exact h.drop1.tail) ?_; rintro v6 _ rfl
    refine TR.know (fun _ h => row1 h) (fun o6 => (TR.hp (fun _ h => row_len3 h) (TR.p rfl rfl wt0 (op_assign rfl) (TR.nil (TQ.then (TC.ret (TQ.then_ret ?_)))))))
    refine ret1 rfl rfl (fun w' hp => ?_)
    have hq := (hp.drop3.drop2.drop1)
    first
      | (rw [List.length_reverse] at hq; exact ⟨_, _, rfl, ⟨_, rfl, by rw [oneR_same c2]⟩, hq⟩)
      | (rw [List.length_reverse] at hq; exact ⟨_, _, rfl, ⟨_, rfl, by rw [oneR_push c2]⟩, hq⟩)
      | (rw [List.length_reverse] at hq; exact ⟨_, _, rfl, ⟨_, rfl, rfl⟩, hq⟩)
  ·refine TC.skip (TQ.then (TC.seq (TC.draw [] (.cons (.p, 1) (.cons (.t, 3) (.alt (.cons (.o, 0) (.alt (.cons (.o, 2) (.cons (.o, 4) (.cons (.o, 5) (.cons (.p, 6) (.nil))))) (.cons (.o, 4) (.cons (.o, 2) (.cons (.o, 5) (.cons (.p, 6) (.nil))))))) (.cons (.o, 4) (.cons (.o, 0) (.cons (.o, 2) (.cons (.o, 5) (.cons (.p, 6) (.nil))))))))) mo (by kernel_rfl) (TR.p rfl rfl wt0 (op_move rfl) (TR.t rfl rfl wt0 (op_loadS tst_api_Part rfl m0 rfl) (fun _ h => h) ?_)))))
   refine TR.alt ?_ ?_
   ·refine TR.o rfl rfl wt0 (OpX.buildSlice (ps := #[]) rfl (bs_api_Part_0 )) (by rintro _ _ ⟨g48, rfl, rfl⟩; intro w h; exact h.tail) ?_; rintro _ _ ⟨g48, rfl, rfl⟩
    refine TR.hp (fun _ h => blk_row (k := 3) (m := 0) h rfl (by decide)) ?_
    refine TR.alt ?_ ?_
    ·refine TR.o rfl rfl wt0 (OpX.append (bytes := 32) tsl_api_Part (by decide) (by decide) rfl hr.cons.cons (encs_one _) (by omega) (zs := encs (q :: r).reverse) rfl) (by rintro v7 _ rfl; intro w h; exact h.tail) ?_; rintro v7 _ rfl
     refine TR.know (fun _ h => row1 h) (fun o7 => (TR.hp (fun _ h => row_len3 h) ?_))
     refine TR.o rfl rfl wt0 (OpX.buildSlice (ps := #[(0, _)]) rfl (bs_api_Part_1 p)) (by rintro _ _ ⟨g52, rfl, rfl⟩; intro w h; exact h.drop1.tail) ?_; rintro _ _ ⟨g52, rfl, rfl⟩
     refine TR.hp (fun _ h => blk_row (k := 3) (m := 1) h rfl (by decide)) (TR.hp (fun _ h => h.pick1) ?_)
     refine TR.o rfl rfl wt0 (OpX.append (bytes := 32) tsl_api_Part (by decide) (by decide) rfl rw1 (encs_one _) (by omega) (zs := encs (p :: (q :: r)).reverse) (encs_push _ _)) (by rintro v8 _ rfl; intro w h; exact h.drop1.tail) ?_; rintro v8 _ rfl
     refine TR.know (fun _ h => row1 h) (fun o8 => (TR.hp (fun _ h => row_len3 h) (TR.p rfl rfl wt0 (op_assign rfl) (TR.nil (TQ.then (TC.ret ?_))))))
     refine ret1 rfl rfl (fun w' hp => ?_)
     have hq := (hp.drop2.drop1)
     first
       | (rw [List.length_reverse] at hq; exact ⟨_, _, rfl, ⟨_, rfl, by rw [oneR_same c2]⟩, hq⟩)
       | (rw [List.length_reverse] at hq; exact ⟨_, _, rfl, ⟨_, rfl, by rw [oneR_push c2]⟩, hq⟩)
       | (rw [List.length_reverse] at hq; exact ⟨_, _, rfl, ⟨_, rfl, rfl⟩, hq⟩)
    ·refine TR.o rfl rfl wt0 (OpX.buildSlice (ps := #[(0, _)]) rfl (bs_api_Part_1 p)) (by rintro _ _ ⟨g52, rfl, rfl⟩; intro w h; exact h.drop1.tail) ?_; rintro _ _ ⟨g52, rfl, rfl⟩
     refine TR.hp (fun _ h => blk_row (k := 3) (m := 1) h rfl (by decide)) (TR.hp (fun _ h => h.pick1) ?_)
     refine TR.o rfl rfl wt0 (OpX.append (bytes := 32) tsl_api_Part (by decide) (by decide) rfl hr.cons.cons.cons (encs_one _) (by omega) (zs := encs (q :: r).reverse) rfl) (by rintro v9 _ rfl; intro w h; exact h.drop1.tail) ?_; rintro v9 _ rfl
     refine TR.know (fun _ h => row1 h) (fun o9 => (TR.hp (fun _ h => row_len3 h) ?_))
     refine TR.o rfl rfl wt0 (OpX.append (bytes := 32) tsl_api_Part (by decide) (by decide) rfl rw1 (encs_one _) (by omega) (zs := encs (p :: (q :: r)).reverse) (encs_push _ _)) (by rintro v10 _ rfl; intro w h; exact h.drop1.tail) ?_; rintro v10 _ rfl
     refine TR.know (fun _ h => row1 h) (fun o10 => (TR.hp (fun _ h => row_len3 h) (TR.p rfl rfl wt0 (op_assign rfl) (TR.nil (TQ.then (TC.ret ?_))))))
     refine ret1 rfl rfl (fun w' hp => ?_)
     have hq := (hp.drop2.drop1)
     first
       | (rw [List.length_reverse] at hq; exact ⟨_, _, rfl, ⟨_, rfl, by rw [oneR_same c2]⟩, hq⟩)
       | (rw [List.length_reverse] at hq; exact ⟨_, _, rfl, ⟨_, rfl, by rw [oneR_push c2]⟩, hq⟩)
       | (rw [List.length_reverse] at hq; exact ⟨_, _, rfl, ⟨_, rfl, rfl⟩, hq⟩)
   ·refine TR.o rfl rfl wt0 (OpX.buildSlice (ps := #[(0, _)]) rfl (bs_api_Part_1 p)) (by rintro _ _ ⟨g52, rfl, rfl⟩; intro w h; exact h.tail) ?_; rintro _ _ ⟨g52, rfl, rfl⟩
    refine TR.hp (fun _ h => blk_row (k := 3) (m := 1) h rfl (by decide)) ?_
    refine TR.o rfl rfl wt0 (OpX.buildSlice (ps := #[]) rfl (bs_api_Part_0 )) (by rintro _ _ ⟨g48, rfl, rfl⟩; intro w h; exact h.drop1.tail) ?_; rintro _ _ ⟨g48, rfl, rfl⟩
    refine TR.hp (fun _ h => blk_row (k := 3) (m := 0) h rfl (by decide)) ?_
    refine TR.o rfl rfl wt0 (OpX.append (bytes := 32) tsl_api_Part (by decide) (by decide) rfl hr.cons.cons.cons (encs_one _) (by omega) (zs := encs (q :: r).reverse) rfl) (by rintro v11 _ rfl; intro w h; exact h.drop1.tail) ?_; rintro v11 _ rfl
    refine TR.know (fun _ h => row1 h) (fun o11 => (TR.hp (fun _ h => row_len3 h) ?_))
    refine TR.o rfl rfl wt0 (OpX.append (bytes := 32) tsl_api_Part (by decide) (by decide) rfl rw1 (encs_one _) (by omega) (zs := encs (p :: (q :: r)).reverse) (encs_push _ _)) (by rintro v12 _ rfl; intro w h; exact h.drop1.tail) ?_; rintro v12 _ rfl
    refine TR.know (fun _ h => row1 h) (fun o12 => (TR.hp (fun _ h => row_len3 h) (TR.p rfl rfl wt0 (op_assign rfl) (TR.nil (TQ.then (TC.ret ?_))))))
    refine ret1 rfl rfl (fun w' hp => ?_)
    have hq := (hp.drop2.drop1)
    first
      | (rw [List.length_reverse] at hq; exact ⟨_, _, rfl, ⟨_, rfl, by rw [oneR_same c2]⟩, hq⟩)
      | (rw [List.length_reverse] at hq; exact ⟨_, _, rfl, ⟨_, rfl, by rw [oneR_push c2]⟩, hq⟩)
      | (rw [List.length_reverse] at hq; exact ⟨_, _, rfl, ⟨_, rfl, rfl⟩, hq⟩)
 ·obtain rfl : r = [] := by cases r with | nil => rfl | cons q r' => simp at c1
  have hrl2 : ([] : List Part).reverse.length = ([] : List Part).length := rfl
  refine TR.off rfl rfl (by exact wtFf rfl rfl) (TR.off rfl rfl (by exact wtFf rfl rfl) (TR.off rfl rfl (by exact wtFf rfl rfl) (TR.off rfl rfl (by exact wtFf rfl rfl) (TR.offT rfl rfl (by exact wtFf rfl rfl) (fun _ h => h) (TR.off rfl rfl (by exact wtFf rfl rfl) (TR.offT rfl rfl (by exact wtFf rfl rfl) (fun _ h => h) (TR.offT rfl rfl (by exact wtFf rfl rfl) (fun _ h => h) (TR.off rfl rfl (by exact wtFf rfl rfl) (TR.p rfl rfl wt0 (op_pickF rfl rfl) (TR.nil (TQ.then (TC.condF rfl (TC.skip (TQ.then (TC.seq (TC.draw [] (.cons (.p, 1) (.cons (.t, 3) (.alt (.cons (.o, 0) (.alt (.cons (.o, 2) (.cons (.o, 4) (.cons (.o, 5) (.cons (.p, 6) (.nil))))) (.cons (.o, 4) (.cons (.o, 2) (.cons (.o, 5) (.cons (.p, 6) (.nil))))))) (.cons (.o, 4) (.cons (.o, 0) (.cons (.o, 2) (.cons (.o, 5) (.cons (.p, 6) (.nil))))))))) mo (by kernel_rfl) ?_))))))))))))))))
  refine TR.p rfl rfl wt0 (op_move rfl) (TR.t rfl rfl wt0 (op_loadS tst_api_Part rfl m0 rfl) (fun _ h => h) ?_)
  refine TR.alt ?_ ?_
  ·refine TR.o rfl rfl wt0 (OpX.buildSlice (ps := #[]) rfl (bs_api_Part_0 )) (by rintro _ _ ⟨g48, rfl, rfl⟩; intro w h; exact h.tail) ?_; rintro _ _ ⟨g48, rfl, rfl⟩
   refine TR.hp (fun _ h => blk_row (k := 3) (m := 0) h rfl (by decide)) ?_
   refine TR.alt ?_ ?_
   ·refine TR.o rfl rfl wt0 (OpX.append (bytes := 32) tsl_api_Part (by decide) (by decide) rfl hr.cons.cons (encs_one _) (by omega) (zs := encs ([] : List Part).reverse) rfl) (by rintro v13 _ rfl; intro w h; exact h.tail) ?_; rintro v13 _ rfl
    refine TR.know (fun _ h => row1 h) (fun o13 => (TR.hp (fun _ h => row_len3 h) ?_))
    refine TR.o rfl rfl wt0 (OpX.buildSlice (ps := #[(0, _)]) rfl (bs_api_Part_1 p)) (by rintro _ _ ⟨g52, rfl, rfl⟩; intro w h; exact h.drop1.tail) ?_; rintro _ _ ⟨g52, rfl, rfl⟩
    refine TR.hp (fun _ h => blk_row (k := 3) (m := 1) h rfl (by decide)) (TR.hp (fun _ h => h.pick1) ?_)
    refine TR.o rfl rfl wt0 (OpX.append (bytes := 32) tsl_api_Part (by decide) (by decide) rfl rw1 (encs_one _) (by omega) (zs := encs (p :: ([] : List Part)).reverse) (encs_push _ _)) (by rintro v14 _ rfl; intro w h; exact h.drop1.tail) ?_; rintro v14 _ rfl
    refine TR.know (fun _ h => row1 h) (fun o14 => (TR.hp (fun _ h => row_len3 h) (TR.p rfl rfl wt0 (op_assign rfl) (TR.nil (TQ.then (TC.ret ?_))))))
    refine ret1 rfl rfl (fun w' hp => ?_)
    have hq := (hp.drop2.drop1)
    first
      | (rw [List.length_reverse] at hq; exact ⟨_, _, rfl, ⟨_, rfl, by rw [oneR_same c2]⟩, hq⟩)
      | (rw [List.length_reverse] at hq; exact ⟨_, _, rfl, ⟨_, rfl, by rw [oneR_push c2]⟩, hq⟩)
      | (rw [List.length_reverse] at hq; exact ⟨_, _, rfl, ⟨_, rfl, rfl⟩, hq⟩)
   ·refine TR.o rfl rfl wt0 (OpX.buildSlice (ps := #[(0, _)]) rfl (bs_api_Part_1 p)) (by rintro _ _ ⟨g52, rfl, rfl⟩; intro w h; exact h.drop1.tail) ?_; rintro _ _ ⟨g52, rfl, rfl⟩
    refine TR.hp (fun _ h => blk_row (k := 3) (m := 1) h rfl (by decide)) (TR.hp (fun _ h => h.pick1) ?_)
    refine TR.o rfl rfl wt0 (OpX.append (bytes := 32) tsl_api_Part (by decide) (by decide) rfl hr.cons.cons.cons (encs_one _) (by omega) (zs := encs ([] : List Part).reverse) rfl) (by rintro v15 _ rfl; intro w h; exact h.drop1.tail) ?_; rintro v15 _ rfl
    refine TR.know (fun _ h => row1 h) (fun o15 => (TR.hp (fun _ h => row_len3 h) ?_))
    refine TR.o rfl rfl wt0 (OpX.append (bytes := 32) tsl_api_Part (by decide) (by decide) rfl rw1 (encs_one _) (by omega) (zs := encs (p :: ([] : List Part)).reverse) (encs_push _ _)) (by rintro v16 _ rfl; intro w h; exact h.drop1.tail) ?_; rintro v16 _ rfl
    refine TR.know (fun _ h => row1 h) (fun o16 => (TR.hp (fun _ h => row_len3 h) (TR.p rfl rfl wt0 (op_assign rfl) (TR.nil (TQ.then (TC.ret ?_))))))
    refine ret1 rfl rfl (fun w' hp => ?_)
    have hq := (hp.drop2.drop1)
    first
      | (rw [List.length_reverse] at hq; exact ⟨_, _, rfl, ⟨_, rfl, by rw [oneR_same c2]⟩, hq⟩)
      | (rw [List.length_reverse] at hq; exact ⟨_, _, rfl, ⟨_, rfl, by rw [oneR_push c2]⟩, hq⟩)
      | (rw [List.length_reverse] at hq; exact ⟨_, _, rfl, ⟨_, rfl, rfl⟩, hq⟩)
  ·refine TR.o rfl rfl wt0 (OpX.buildSlice (ps := #[(0, _)]) rfl (bs_api_Part_1 p)) (by rintro _ _ ⟨g52, rfl, rfl⟩; intro w h; exact h.tail) ?_; rintro _ _ ⟨g52, rfl, rfl⟩
   refine TR.hp (fun _ h => blk_row (k := 3) (m := 1) h rfl (by decide)) ?_
   refine TR.o rfl rfl wt0 (OpX.buildSlice (ps := #[]) rfl (bs_api_Part_0 )) (by rintro _ _ ⟨g48, rfl, rfl⟩; intro w h; exact h.drop1.tail) ?_; rintro _ _ ⟨g48, rfl, rfl⟩
   refine TR.hp (fun _ h => blk_row (k := 3) (m := 0) h rfl (by decide)) ?_
   refine TR.o rfl rfl wt0 (OpX.append (bytes := 32) tsl_api_Part (by decide) (by decide) rfl hr.cons.cons.cons (encs_one _) (by omega) (zs := encs ([] : List Part).reverse) rfl) (by rintro v17 _ rfl; intro w h; exact h.drop1.tail) ?_; rintro v17 _ rfl
   refine TR.know (fun _ h => row1 h) (fun o17 => (TR.hp (fun _ h => row_len3 h) ?_))
   refine TR.o rfl rfl wt0 (OpX.append (bytes := 32) tsl_api_Part (by decide) (by decide) rfl rw1 (encs_one _) (by omega) (zs := encs (p :: ([] : List Part)).reverse) (encs_push _ _)) (by rintro v18 _ rfl; intro w h; exact h.drop1.tail) ?_; rintro v18 _ rfl
   refine TR.know (fun _ h => row1 h) (fun o18 => (TR.hp (fun _ h => row_len3 h) (TR.p rfl rfl wt0 (op_assign rfl) (TR.nil (TQ.then (TC.ret ?_))))))
   refine ret1 rfl rfl (fun w' hp => ?_)
   have hq := (hp.drop2.drop1)
   first
     | (rw [List.length_reverse] at hq; exact ⟨_, _, rfl, ⟨_, rfl, by rw [oneR_same c2]⟩, hq⟩)
     | (rw [List.length_reverse] at hq; exact ⟨_, _, rfl, ⟨_, rfl, by rw [oneR_push c2]⟩, hq⟩)
     | (rw [List.length_reverse] at hq; exact ⟨_, _, rfl, ⟨_, rfl, rfl⟩, hq⟩)

theorem rput_calls (s : ByteArray) (w : World) (hv : valid s = true) (hs : s.size < 9223372036854775807) :
    Calls Tryd.prog 67 (List.toArray [.string s]) w fun e w' => e = .returned (putP s).val ∧ Kp NoB w w' := by
 refine calls_start Tryd.func67 rfl rfl rfl (Hp.init0 w) ?_
 refine TC.seq (TC.region ?_)
 refine TL.opX rfl (OpX.alloc tz_api_Part rfl) ?_; rintro _ _ ⟨g2, rfl, rfl⟩
 refine TL.nil (TQ.then (TC.seq (TC.region (TL.opP rfl (op_move rfl) ?_))))
 refine TL.opX rfl (OpX.bytes un_string tsl_uint8 un_uint8 rfl (by simp only [maxLen]; omega)) ?_; rintro v1 _ rfl
 refine TL.know (fun _ h => rd1' h) (fun o1 => ?_)
 refine TL.callq rfl en_47 rfl (fun w2 hp => runes_calls s.data.toList _ w2 (by rw [size_len]; exact rd0 _ _ _ hp)) ?_
 refine TL.opP rfl (op_move rfl) (TL.opP rfl (op_build (ps := #[(0, _), (1, _), (2, _)]) rfl (bl_api_Part_012 _ _ _)) (TL.hp (fun _ h => h.pick1) ?_))
 refine TL.opX0 (OpX.storeS tst_api_Part rfl rfl rfl rfl rfl (List.all_eq_true.1 rfl)) ?_; rintro _ _ rfl
 refine TL.nil (TQ.then (TC.ret ?_))
 refine retc tst_api_Part rfl rfl m0 rfl (fun w' hp => ?_)
 have h1 := runesF_cases s
 rw [hv] at h1
 have h2 : runesF s.data.toList = (rcount s : Int) := by simpa using h1
 exact ⟨by rw [h2]; rfl, hp.kp⟩

theorem rboth_x (r : List Part) (s : ByteArray) (d : Int) (v : Value) (hv : valid s = true) (hs : s.size < 9223372036854775807) (hb : BothB r s d) :
    CallX Tryd.prog 60 [v, .string s, .int .i64 d] S w0 (.row v 38 3 (r).length (encs (r).reverse) :: F) (fun u L' => ∃ v', u = v' ∧ L' = .row v' 38 3 (bothR r s d).length (encs (bothR r s d).reverse) :: F) := by
 intro w hp
 refine calls_start Tryd.func60 rfl rfl rfl (hp) ?_
 refine TC.seq (TC.region (TL.opP rfl (op_assign rfl) (TL.nil (TQ.then (TC.seq (TC.seq (TC.region (TL.opP rfl (op_move rfl) (TL.opP rfl (op_sneq rfl rfl) (TL.nil (TQ.then ?_)))))))))))
 first | refine TC.condD rfl (fun c1 => ?_) (fun c1 => ?_) | refine TC.condB rfl (fun c1 => ?_) (fun c1 => ?_)
 ·refine TC.region (TL.opP rfl (op_move rfl) (TL.opP rfl (op_move rfl) (TL.callq rfl en_67 rfl (fun w2 hp => rput_calls s w2 hv hs) ?_)))
  refine TL.opX rfl (OpX.callX en_59 rfl (rone_x r (putP s) _ hb.b1 rw0)) ?_; rintro w1 _ ⟨_, rfl, rfl⟩
  refine TL.opP rfl (op_assign rfl) (TL.nil (TQ.then (TC.seq (TC.seq (TC.region (TL.opP rfl (op_move rfl) (TL.opP rfl (op_gtr rfl rfl) (TL.nil (TQ.then ?_)))))))))
  first | refine TC.condD rfl (fun c2 => ?_) (fun c2 => ?_) | refine TC.condB rfl (fun c2 => ?_) (fun c2 => ?_)
  ·refine TC.region (TL.opP rfl (op_move rfl) (TL.opP rfl (op_move rfl) (TL.opP rfl (op_build (ps := #[(0, _), (1, _)]) rfl (bl_api_Part_01 _ _)) ?_)))
   refine TL.opX rfl (OpX.callX en_59 rfl (rone_x (oneR r (putP s)) (dropP d) _ hb.b2 rw0)) ?_; rintro w2 _ ⟨_, rfl, rfl⟩
   refine TL.opP rfl (op_assign rfl) (TL.nil (TQ.then (TC.seq (TC.region (TL.opP rfl (op_move rfl) (TL.opP rfl (op_assign rfl) (TL.nil (TQ.then (TC.ret ?_)))))))))
   refine ret1 rfl rfl (fun w' hp => ?_)
   have hq := (hp.drop2.drop1)
   first
     | exact ⟨_, _, rfl, ⟨_, rfl, by rw [bothR, if_pos c2, if_neg c1]⟩, hq⟩
     | exact ⟨_, _, rfl, ⟨_, rfl, by rw [bothR, if_neg c2, if_neg c1]⟩, hq⟩
     | exact ⟨_, _, rfl, ⟨_, rfl, by rw [bothR, if_pos c3, if_pos (by simpa using c1)]⟩, hq⟩
     | exact ⟨_, _, rfl, ⟨_, rfl, by rw [bothR, if_neg c3, if_pos (by simpa using c1)]⟩, hq⟩
  ·refine TC.skip (TQ.then (TC.seq (TC.region (TL.opP rfl (op_move rfl) (TL.opP rfl (op_assign rfl) (TL.nil (TQ.then (TC.ret ?_))))))))
   refine ret1 rfl rfl (fun w' hp => ?_)
   have hq := (hp.drop1)
   first
     | exact ⟨_, _, rfl, ⟨_, rfl, by rw [bothR, if_pos c2, if_neg c1]⟩, hq⟩
     | exact ⟨_, _, rfl, ⟨_, rfl, by rw [bothR, if_neg c2, if_neg c1]⟩, hq⟩
     | exact ⟨_, _, rfl, ⟨_, rfl, by rw [bothR, if_pos c3, if_pos (by simpa using c1)]⟩, hq⟩
     | exact ⟨_, _, rfl, ⟨_, rfl, by rw [bothR, if_neg c3, if_pos (by simpa using c1)]⟩, hq⟩
 ·refine TC.skip (TQ.then (TC.seq (TC.seq (TC.region (TL.opP rfl (op_move rfl) (TL.opP rfl (op_gtr rfl rfl) (TL.nil (TQ.then ?_))))))))
  first | refine TC.condD rfl (fun c3 => ?_) (fun c3 => ?_) | refine TC.condB rfl (fun c3 => ?_) (fun c3 => ?_)
  ·refine TC.region (TL.opP rfl (op_move rfl) (TL.opP rfl (op_move rfl) (TL.opP rfl (op_build (ps := #[(0, _), (1, _)]) rfl (bl_api_Part_01 _ _)) ?_)))
   refine TL.opX rfl (OpX.callX en_59 rfl (rone_x r (dropP d) _ hb.b3 rw0)) ?_; rintro w3 _ ⟨_, rfl, rfl⟩
   refine TL.opP rfl (op_assign rfl) (TL.nil (TQ.then (TC.seq (TC.region (TL.opP rfl (op_move rfl) (TL.opP rfl (op_assign rfl) (TL.nil (TQ.then (TC.ret ?_)))))))))
   refine ret1 rfl rfl (fun w' hp => ?_)
   have hq := (hp.drop1)
   first
     | exact ⟨_, _, rfl, ⟨_, rfl, by rw [bothR, if_pos c2, if_neg c1]⟩, hq⟩
     | exact ⟨_, _, rfl, ⟨_, rfl, by rw [bothR, if_neg c2, if_neg c1]⟩, hq⟩
     | exact ⟨_, _, rfl, ⟨_, rfl, by rw [bothR, if_pos c3, if_pos (by simpa using c1)]⟩, hq⟩
     | exact ⟨_, _, rfl, ⟨_, rfl, by rw [bothR, if_neg c3, if_pos (by simpa using c1)]⟩, hq⟩
  ·refine TC.skip (TQ.then (TC.seq (TC.region (TL.opP rfl (op_move rfl) (TL.opP rfl (op_assign rfl) (TL.nil (TQ.then (TC.ret ?_))))))))
   refine ret1 rfl rfl (fun w' hp => ?_)
   have hq := (hp)
   first
     | exact ⟨_, _, rfl, ⟨_, rfl, by rw [bothR, if_pos c2, if_neg c1]⟩, hq⟩
     | exact ⟨_, _, rfl, ⟨_, rfl, by rw [bothR, if_neg c2, if_neg c1]⟩, hq⟩
     | exact ⟨_, _, rfl, ⟨_, rfl, by rw [bothR, if_pos c3, if_pos (by simpa using c1)]⟩, hq⟩
     | exact ⟨_, _, rfl, ⟨_, rfl, by rw [bothR, if_neg c3, if_pos (by simpa using c1)]⟩, hq⟩



theorem rsame_calls (a b : List Part) (va vb : Value) (w : World) (ha : RdRow w va 3 a.length (encs a)) (hb : RdRow w vb 3 b.length (encs b)) :
    Calls Tryd.prog 19 (List.toArray [va, vb]) w fun e w' => e = .returned (.bool (decide (a = b))) ∧ Kp NoB w w' := by
 have hlen : a.length ≤ 9223372036854775807 := by obtain ⟨_, A, c, _, h1, h2, _⟩ := ha; simp only [maxLen] at h2; omega
 refine calls_start Tryd.func19 rfl rfl rfl (Hp.i2 (r := .rd va 3 a.length (encs a)) (s := .rd vb 3 b.length (encs b)) ha hb) ?_
 refine TC.seq (TC.region (TL.opP rfl (op_assign rfl) (TL.nil (TQ.then (TC.seq (TC.seq (TC.region (TL.opP rfl (op_move rfl) (TL.opV rfl (op_lenV rfl un_sl_api_Part rfl rd0) (TL.opP rfl (op_move rfl) (TL.opV rfl (op_lenV rfl un_sl_api_Part rfl rd1) (TL.opP rfl (op_neq rfl rfl) (TL.nil (TQ.then ?_))))))))))))))
 first | refine TC.condD rfl (fun c1 => ?_) (fun c1 => ?_) | refine TC.condB rfl (fun c1 => ?_) (fun c1 => ?_)
 ·refine TC.seq (TC.region (TL.opP rfl (op_assign rfl) (TL.nil (TQ.then (TC.ret (TQ.then_ret ?_))))))
  refine ret1 rfl rfl (fun w' hp => ?_)
  first
    | exact ⟨by rw [decide_eq_false (by rintro rfl; omega)], hp.kp⟩
    | exact ⟨by rw [decide_eq_false (by rintro rfl; exact c3 (hpa.symm.trans hpb))], hp.kp⟩
    | exact ⟨by rw [decide_eq_true (take_eq_all htk (by omega) (by omega))], hp.kp⟩
 ·refine TC.skip (TQ.then (TC.seq (TC.seq (TC.region (TL.opP rfl (op_move rfl) (TL.opV rfl (op_lenV rfl un_sl_api_Part rfl rd0) (TL.opP rfl (op_move rfl) (TL.nil (TQ.then (TC.block (TC.loop (ι := Nat) (fun k => [(0, va), (1, vb), (12, .int .i64 (a.length : Int)), (13, .int .i64 (k : Int))]) (fun k => [.rd va 3 a.length (encs a), .rd vb 3 b.length (encs b)]) (fun k => k ≤ a.length ∧ a.take k = b.take k) (fun k => a.length - k) (0) (⟨Nat.zero_le _, rfl⟩) ⟨rfl, rfl, rfl, rfl, trivial⟩ (fun _ h => h) ?_)))))))))))
  rintro k ⟨hk, htk⟩
  refine TC.seq (TC.region (TL.opP rfl (op_lss rfl rfl) (TL.nil (TQ.then (TC.seq ?_)))))
  first | refine TC.condD rfl (fun c2 => ?_) (fun c2 => ?_) | refine TC.condB rfl (fun c2 => ?_) (fun c2 => ?_)
  ·have hka : k < a.length := by omega
   have hkb : k < b.length := by omega
   obtain ⟨p, hpa⟩ : ∃ p, a.getD k default = p := ⟨_, rfl⟩
   obtain ⟨q, hpb⟩ : ∃ q, b.getD k default = q := ⟨_, rfl⟩
   refine TC.skip (TQ.then (TC.seq (TC.block (TC.seq (TC.region (TL.opP rfl (op_move rfl) (TL.opP rfl (op_assign rfl) (TL.nil (TQ.then (TC.seq (TC.draw [] (.cons (.p, 0) (.cons (.p, 1) (.cons (.p, 4) (.cons (.p, 5) (.cons (.t, 2) (.cons (.t, 3) (.cons (.t, 6) (.cons (.t, 7) (.cons (.p, 8) (.nil)))))))))) mo (by kernel_rfl) (TR.p rfl rfl wt0 (op_move rfl) (TR.p rfl rfl wt0 (op_move rfl) (TR.p rfl rfl wt0 (op_move rfl) (TR.p rfl rfl wt0 (op_move rfl) (TR.t rfl rfl wt0 (op_index tsl_api_Part rfl rd0 rfl (by omega) (by omega)) (fun _ h => h) (TR.t rfl rfl wt0 (op_loadRS tst_api_Part rfl rd0 (cs := p.cs) rfl (lkS hka hpa) (by decide)) (fun _ h => h) (TR.t rfl rfl wt0 (op_index tsl_api_Part rfl rd1 rfl (by omega) (by omega)) (fun _ h => h) ?_))))))))))))))))))
   refine TR.t rfl rfl wt0 (op_loadRS tst_api_Part rfl rd1 (cs := q.cs) rfl (lkS hkb hpb) (by decide)) (fun _ h => h) (TR.p rfl rfl wt0 (op_pneq rfl rfl) (TR.nil (TQ.then ?_)))
   first | refine TC.condD rfl (fun c3 => ?_) (fun c3 => ?_) | refine TC.condB rfl (fun c3 => ?_) (fun c3 => ?_)
   ·refine TC.seq (TC.region (TL.opP rfl (op_assign rfl) (TL.nil (TQ.then (TC.ret (TQ.block_ret (TQ.then_ret (TQ.loop_ret (TQ.block_ret (TQ.then_ret ?_))))))))))
    refine ret1 rfl rfl (fun w' hp => ?_)
    first
      | exact ⟨by rw [decide_eq_false (by rintro rfl; omega)], hp.kp⟩
      | exact ⟨by rw [decide_eq_false (by rintro rfl; exact c3 (hpa.symm.trans hpb))], hp.kp⟩
      | exact ⟨by rw [decide_eq_true (take_eq_all htk (by omega) (by omega))], hp.kp⟩
   ·refine TC.skip (TQ.block_normal (TQ.then (TC.region (TL.opP rfl (op_add rfl rfl rfl (by omega) (by omega)) (TL.opP rfl (op_move rfl) (TL.nil ?_))))))
    exact TQ.round (k + 1) (⟨by omega, by rw [take_getD hka hpa, take_getD hkb hpb, htk]; congr 1; simpa using c3⟩) (by omega) ⟨rfl, rfl, rfl, rfl, trivial⟩ (fun _ h => h)
  ·refine TC.exit (TQ.then_exit (TQ.loop_exit (TQ.block_hit (TQ.then (TC.seq (TC.region (TL.opP rfl (op_assign rfl) (TL.nil (TQ.then (TC.ret ?_))))))))))
   refine ret1 rfl rfl (fun w' hp => ?_)
   first
     | exact ⟨by rw [decide_eq_false (by rintro rfl; omega)], hp.kp⟩
     | exact ⟨by rw [decide_eq_false (by rintro rfl; exact c3 (hpa.symm.trans hpb))], hp.kp⟩
     | exact ⟨by rw [decide_eq_true (take_eq_all htk (by omega) (by omega))], hp.kp⟩

end Go.SK
