/- Layer 12: the document's code points. -/
import Derived.Test.YtpomdenbgdgbhaaDoorE82
import Derived.Test.YtpomdenbgdgbhaaDoorNQ
import Derived.Test.YtpomdenbgdgbhaaDoorMB
import Derived.Laws.OwnMore
set_option linter.unusedVariables false
set_option linter.unusedSimpArgs false
set_option maxRecDepth 100000
namespace Go.SK
open Go Go.RowKit Go.Proofs
variable {S : Nat → Prop} {w0 : World} {F L : List Res}
theorem runes_calls (l0 : List UInt8) (v : Value) (w : World) (hv : RdRow w v 1 l0.length (l0.map u8v)) :
    Calls Tryd.prog 96 (List.toArray [v]) w fun e' w' => e' = .returned (.int .i64 (runesF l0)) ∧ Kp NoB w w' := by
 have hlen : l0.length ≤ 9223372036854775807 := by obtain ⟨_, A, c, _, h1, h2, _⟩ := hv; simp only [maxLen] at h2; omega
 refine calls_start Tryd.func96 rfl rfl rfl (Hp.i1 (r := .rd v 1 l0.length (l0.map u8v)) hv) ?_
 refine TC.seq (TC.region (TL.as rfl rfl (TL.nil (TQ.then (TC.seq (TC.region (TL.as rfl rfl (TL.nil (TQ.then (TC.seq (TC.block (TC.loop (ι := List UInt8 × Int × Value) (fun (l, n, bv) => [(0, bv), (3, .int .i64 n)]) (fun (l, n, bv) => [.rd bv 1 l.length (l.map u8v)]) (fun (l, n, bv) => RInv l0 l n) (fun (l, n, bv) => l.length) ((l0, 0, v)) (RInv.start l0) ⟨rfl, rfl, trivial⟩ (fun _ h => h) ?_))))))))))))
 rintro ⟨l, n, bv⟩ (hI : RInv l0 l n)
 have hIb := hI.b
 have hIn := hI.n0
 show TC _ _ _ _ [(0, bv), (3, .int .i64 n)] _ _ ([.rd bv 1 l.length (l.map u8v)])
 refine TC.seq (TC.seq (TC.region (TL.mv rfl rfl (TL.opV rfl (op_lenV rfl un_sl_uint8 rfl rd0) (TL.opP rfl (op_gtr rfl rfl) (TL.nil (TQ.then ?_)))))))
 refine TC.sp rfl (fun c1 => ?_) (fun c1 => ?_)
 ·have hl0 : 0 < l.length := by omega
  have hne : l ≠ [] := by rintro rfl; simp at hl0
  have hb0 := by'_lt l 0
  refine TC.skip (TQ.then (TC.block (TC.seq (TC.region (TL.as rfl rfl (TL.nil (TQ.then (TC.seq (TC.region (TL.as rfl rfl (TL.as rfl rfl (TL.nil (TQ.then ?_)))))))))))))
  refine TC.join1 [(0, bv), (3, .int .i64 n), (4, .int .i64 ((kOf (by' l 0) : Nat) : Int)), (5, .int .u8 ((loOf (by' l 0) : Nat) : Int)), (6, .int .u8 ((hiOf (by' l 0) : Nat) : Int)), (7, .int .u8 ((by' l 0 : Nat) : Int))] ([.rd bv 1 l.length (l.map u8v)]) ?_ ?_
  ·refine TC.seq (TC.region (TL.mv rfl rfl (TL.opV rfl (op_index tsl_uint8 rfl rd0 rfl (by omega) (by omega)) (TL.opV rfl (op_loadR ts_uint8 rfl rd0 (lkU8 (i := 0) hl0 rfl)) (TL.as rfl rfl (TL.nil (TQ.then (TC.block (TC.seq (TC.region (TL.mv rfl rfl (TL.opP rfl (op_lss rfl rfl) (TL.as rfl rfl (TL.nil (TQ.then ?_)))))))))))))))
   refine TC.sp rfl (fun c2 => ?_) (fun c2 => ?_)
   ·refine TC.region (TL.as rfl rfl (TL.nil (TQ.block_normal ?_)))
    exact TQ.join1 ⟨rfl, rfl, gi rfl (by unfold kOf; (repeat' split) <;> omega), gi rfl (by unfold loOf; (repeat' split) <;> omega), gi rfl (by unfold hiOf; (repeat' split) <;> omega), rfl, trivial⟩ (fun _ h => h)
   ·refine TC.seq (TC.region (TL.mv rfl rfl (TL.opP rfl (op_geq rfl rfl) (TL.opP rfl (op_move rfl) ?_))))
    refine TL.sp (fun c3 => ?_) (fun c3 => ?_)
    ·refine TL.gT rfl rfl (TL.mv rfl rfl (TL.gT rfl rfl (TL.opP rfl (op_leq rfl rfl) (TL.opP rfl (op_pickT rfl rfl) (TL.as rfl rfl (TL.nil (TQ.then ?_)))))))
     refine TC.sp rfl (fun c4 => ?_) (fun c4 => ?_)
     ·refine TC.region (TL.as rfl rfl (TL.nil (TQ.block_normal ?_)))
      exact TQ.join1 ⟨rfl, rfl, gi rfl (by unfold kOf; (repeat' split) <;> omega), gi rfl (by unfold loOf; (repeat' split) <;> omega), gi rfl (by unfold hiOf; (repeat' split) <;> omega), rfl, trivial⟩ (fun _ h => h)
     ·refine TC.seq (TC.region (TL.mv rfl rfl (TL.opP rfl (op_geq rfl rfl) (TL.opP rfl (op_move rfl) ?_))))
      refine TL.sp (fun c5 => ?_) (fun c5 => ?_)
      ·refine TL.gT rfl rfl (TL.mv rfl rfl (TL.gT rfl rfl (TL.opP rfl (op_leq rfl rfl) (TL.opP rfl (op_pickT rfl rfl) (TL.as rfl rfl (TL.nil (TQ.then ?_)))))))
       refine TC.sp rfl (fun c6 => ?_) (fun c6 => ?_)
       ·refine TC.seq (TC.region (TL.as rfl rfl (TL.nil (TQ.then (TC.seq (TC.seq (TC.region (TL.mv rfl rfl (TL.opP rfl (op_eql rfl rfl) (TL.nil (TQ.then ?_)))))))))))
        refine TC.sp rfl (fun c7 => ?_) (fun c7 => ?_)
        ·refine TC.region (TL.as rfl rfl (TL.nil (TQ.then (TC.seq (TC.region (TL.mv rfl rfl (TL.opP rfl (op_eql rfl rfl) (TL.nil (TQ.then ?_)))))))))
         refine TC.sp rfl (fun c8 => ?_) (fun c8 => ?_)
         ·refine TC.region (TL.as rfl rfl (TL.nil (TQ.block_normal ?_)))
          exact TQ.join1 ⟨rfl, rfl, gi rfl (by unfold kOf; (repeat' split) <;> omega), gi rfl (by unfold loOf; (repeat' split) <;> omega), gi rfl (by unfold hiOf; (repeat' split) <;> omega), rfl, trivial⟩ (fun _ h => h)
         ·refine TC.skip (TQ.block_normal ?_)
          exact TQ.join1 ⟨rfl, rfl, gi rfl (by unfold kOf; (repeat' split) <;> omega), gi rfl (by unfold loOf; (repeat' split) <;> omega), gi rfl (by unfold hiOf; (repeat' split) <;> omega), rfl, trivial⟩ (fun _ h => h)
        ·refine TC.skip (TQ.then (TC.seq (TC.region (TL.mv rfl rfl (TL.opP rfl (op_eql rfl rfl) (TL.nil (TQ.then ?_)))))))
         refine TC.sp rfl (fun c9 => ?_) (fun c9 => ?_)
         ·refine TC.region (TL.as rfl rfl (TL.nil (TQ.block_normal ?_)))
          exact TQ.join1 ⟨rfl, rfl, gi rfl (by unfold kOf; (repeat' split) <;> omega), gi rfl (by unfold loOf; (repeat' split) <;> omega), gi rfl (by unfold hiOf; (repeat' split) <;> omega), rfl, trivial⟩ (fun _ h => h)
         ·refine TC.skip (TQ.block_normal ?_)
          exact TQ.join1 ⟨rfl, rfl, gi rfl (by unfold kOf; (repeat' split) <;> omega), gi rfl (by unfold loOf; (repeat' split) <;> omega), gi rfl (by unfold hiOf; (repeat' split) <;> omega), rfl, trivial⟩ (fun _ h => h)
       ·refine TC.seq (TC.region (TL.mv rfl rfl (TL.opP rfl (op_geq rfl rfl) (TL.opP rfl (op_move rfl) ?_))))
        refine TL.sp (fun c10 => ?_) (fun c10 => ?_)
        ·refine TL.gT rfl rfl (TL.mv rfl rfl (TL.gT rfl rfl (TL.opP rfl (op_leq rfl rfl) (TL.opP rfl (op_pickT rfl rfl) (TL.as rfl rfl (TL.nil (TQ.then ?_)))))))
         refine TC.sp rfl (fun c11 => ?_) (fun c11 => ?_)
         ·refine TC.seq (TC.region (TL.as rfl rfl (TL.nil (TQ.then (TC.seq (TC.seq (TC.region (TL.mv rfl rfl (TL.opP rfl (op_eql rfl rfl) (TL.nil (TQ.then ?_)))))))))))
          refine TC.sp rfl (fun c12 => ?_) (fun c12 => ?_)
          ·refine TC.region (TL.as rfl rfl (TL.nil (TQ.then (TC.seq (TC.region (TL.mv rfl rfl (TL.opP rfl (op_eql rfl rfl) (TL.nil (TQ.then ?_)))))))))
           refine TC.sp rfl (fun c13 => ?_) (fun c13 => ?_)
           ·refine TC.region (TL.as rfl rfl (TL.nil (TQ.block_normal ?_)))
            exact TQ.join1 ⟨rfl, rfl, gi rfl (by unfold kOf; (repeat' split) <;> omega), gi rfl (by unfold loOf; (repeat' split) <;> omega), gi rfl (by unfold hiOf; (repeat' split) <;> omega), rfl, trivial⟩ (fun _ h => h)
           ·refine TC.skip (TQ.block_normal ?_)
            exact TQ.join1 ⟨rfl, rfl, gi rfl (by unfold kOf; (repeat' split) <;> omega), gi rfl (by unfold loOf; (repeat' split) <;> omega), gi rfl (by unfold hiOf; (repeat' split) <;> omega), rfl, trivial⟩ (fun _ h => h)
          ·refine TC.skip (TQ.then (TC.seq (TC.region (TL.mv rfl rfl (TL.opP rfl (op_eql rfl rfl) (TL.nil (TQ.then ?_)))))))
           refine TC.sp rfl (fun c14 => ?_) (fun c14 => ?_)
           ·refine TC.region (TL.as rfl rfl (TL.nil (TQ.block_normal ?_)))
            exact TQ.join1 ⟨rfl, rfl, gi rfl (by unfold kOf; (repeat' split) <;> omega), gi rfl (by unfold loOf; (repeat' split) <;> omega), gi rfl (by unfold hiOf; (repeat' split) <;> omega), rfl, trivial⟩ (fun _ h => h)
           ·refine TC.skip (TQ.block_normal ?_)
            exact TQ.join1 ⟨rfl, rfl, gi rfl (by unfold kOf; (repeat' split) <;> omega), gi rfl (by unfold loOf; (repeat' split) <;> omega), gi rfl (by unfold hiOf; (repeat' split) <;> omega), rfl, trivial⟩ (fun _ h => h)
         ·refine TC.skip (TQ.block_normal ?_)
          exact TQ.join1 ⟨rfl, rfl, gi rfl (by unfold kOf; (repeat' split) <;> omega), gi rfl (by unfold loOf; (repeat' split) <;> omega), gi rfl (by unfold hiOf; (repeat' split) <;> omega), rfl, trivial⟩ (fun _ h => h)
        ·refine TL.gFf rfl rfl rfl (TL.gFf rfl rfl rfl (TL.opP rfl (op_pickF rfl rfl) (TL.as rfl rfl (TL.nil (TQ.then (TC.condF rfl (TC.skip (TQ.block_normal ?_))))))))
         exact TQ.join1 ⟨rfl, rfl, gi rfl (by unfold kOf; (repeat' split) <;> omega), gi rfl (by unfold loOf; (repeat' split) <;> omega), gi rfl (by unfold hiOf; (repeat' split) <;> omega), rfl, trivial⟩ (fun _ h => h)
      ·refine TL.gFf rfl rfl rfl (TL.gFf rfl rfl rfl (TL.opP rfl (op_pickF rfl rfl) (TL.as rfl rfl (TL.nil (TQ.then (TC.condF rfl (TC.seq (TC.region (TL.mv rfl rfl (TL.opP rfl (op_geq rfl rfl) (TL.opP rfl (op_move rfl) ?_)))))))))))
       refine TL.sp (fun c15 => ?_) (fun c15 => ?_)
       ·refine TL.gT rfl rfl (TL.mv rfl rfl (TL.gT rfl rfl (TL.opP rfl (op_leq rfl rfl) (TL.opP rfl (op_pickT rfl rfl) (TL.as rfl rfl (TL.nil (TQ.then ?_)))))))
        refine TC.sp rfl (fun c16 => ?_) (fun c16 => ?_)
        ·refine TC.seq (TC.region (TL.as rfl rfl (TL.nil (TQ.then (TC.seq (TC.seq (TC.region (TL.mv rfl rfl (TL.opP rfl (op_eql rfl rfl) (TL.nil (TQ.then ?_)))))))))))
         refine TC.sp rfl (fun c17 => ?_) (fun c17 => ?_)
         ·refine TC.region (TL.as rfl rfl (TL.nil (TQ.then (TC.seq (TC.region (TL.mv rfl rfl (TL.opP rfl (op_eql rfl rfl) (TL.nil (TQ.then ?_)))))))))
          refine TC.sp rfl (fun c18 => ?_) (fun c18 => ?_)
          ·refine TC.region (TL.as rfl rfl (TL.nil (TQ.block_normal ?_)))
           exact TQ.join1 ⟨rfl, rfl, gi rfl (by unfold kOf; (repeat' split) <;> omega), gi rfl (by unfold loOf; (repeat' split) <;> omega), gi rfl (by unfold hiOf; (repeat' split) <;> omega), rfl, trivial⟩ (fun _ h => h)
          ·refine TC.skip (TQ.block_normal ?_)
           exact TQ.join1 ⟨rfl, rfl, gi rfl (by unfold kOf; (repeat' split) <;> omega), gi rfl (by unfold loOf; (repeat' split) <;> omega), gi rfl (by unfold hiOf; (repeat' split) <;> omega), rfl, trivial⟩ (fun _ h => h)
         ·refine TC.skip (TQ.then (TC.seq (TC.region (TL.mv rfl rfl (TL.opP rfl (op_eql rfl rfl) (TL.nil (TQ.then ?_)))))))
          refine TC.sp rfl (fun c19 => ?_) (fun c19 => ?_)
          ·refine TC.region (TL.as rfl rfl (TL.nil (TQ.block_normal ?_)))
           exact TQ.join1 ⟨rfl, rfl, gi rfl (by unfold kOf; (repeat' split) <;> omega), gi rfl (by unfold loOf; (repeat' split) <;> omega), gi rfl (by unfold hiOf; (repeat' split) <;> omega), rfl, trivial⟩ (fun _ h => h)
          ·refine TC.skip (TQ.block_normal ?_)
           exact TQ.join1 ⟨rfl, rfl, gi rfl (by unfold kOf; (repeat' split) <;> omega), gi rfl (by unfold loOf; (repeat' split) <;> omega), gi rfl (by unfold hiOf; (repeat' split) <;> omega), rfl, trivial⟩ (fun _ h => h)
        ·refine TC.skip (TQ.block_normal ?_)
         exact TQ.join1 ⟨rfl, rfl, gi rfl (by unfold kOf; (repeat' split) <;> omega), gi rfl (by unfold loOf; (repeat' split) <;> omega), gi rfl (by unfold hiOf; (repeat' split) <;> omega), rfl, trivial⟩ (fun _ h => h)
       ·refine TL.gFf rfl rfl rfl (TL.gFf rfl rfl rfl (TL.opP rfl (op_pickF rfl rfl) (TL.as rfl rfl (TL.nil (TQ.then (TC.condF rfl (TC.skip (TQ.block_normal ?_))))))))
        exact TQ.join1 ⟨rfl, rfl, gi rfl (by unfold kOf; (repeat' split) <;> omega), gi rfl (by unfold loOf; (repeat' split) <;> omega), gi rfl (by unfold hiOf; (repeat' split) <;> omega), rfl, trivial⟩ (fun _ h => h)
    ·refine TL.gFf rfl rfl rfl (TL.gFf rfl rfl rfl (TL.opP rfl (op_pickF rfl rfl) (TL.as rfl rfl (TL.nil (TQ.then (TC.condF rfl (TC.seq (TC.region (TL.mv rfl rfl (TL.opP rfl (op_geq rfl rfl) (TL.opP rfl (op_move rfl) ?_)))))))))))
     refine TL.sp (fun c20 => ?_) (fun c20 => ?_)
     ·refine TL.gT rfl rfl (TL.mv rfl rfl (TL.gT rfl rfl (TL.opP rfl (op_leq rfl rfl) (TL.opP rfl (op_pickT rfl rfl) (TL.as rfl rfl (TL.nil (TQ.then ?_)))))))
      refine TC.sp rfl (fun c21 => ?_) (fun c21 => ?_)
      ·refine TC.seq (TC.region (TL.as rfl rfl (TL.nil (TQ.then (TC.seq (TC.seq (TC.region (TL.mv rfl rfl (TL.opP rfl (op_eql rfl rfl) (TL.nil (TQ.then ?_)))))))))))
       refine TC.sp rfl (fun c22 => ?_) (fun c22 => ?_)
       ·refine TC.region (TL.as rfl rfl (TL.nil (TQ.then (TC.seq (TC.region (TL.mv rfl rfl (TL.opP rfl (op_eql rfl rfl) (TL.nil (TQ.then ?_)))))))))
        refine TC.sp rfl (fun c23 => ?_) (fun c23 => ?_)
        ·refine TC.region (TL.as rfl rfl (TL.nil (TQ.block_normal ?_)))
         exact TQ.join1 ⟨rfl, rfl, gi rfl (by unfold kOf; (repeat' split) <;> omega), gi rfl (by unfold loOf; (repeat' split) <;> omega), gi rfl (by unfold hiOf; (repeat' split) <;> omega), rfl, trivial⟩ (fun _ h => h)
        ·refine TC.skip (TQ.block_normal ?_)
         exact TQ.join1 ⟨rfl, rfl, gi rfl (by unfold kOf; (repeat' split) <;> omega), gi rfl (by unfold loOf; (repeat' split) <;> omega), gi rfl (by unfold hiOf; (repeat' split) <;> omega), rfl, trivial⟩ (fun _ h => h)
       ·refine TC.skip (TQ.then (TC.seq (TC.region (TL.mv rfl rfl (TL.opP rfl (op_eql rfl rfl) (TL.nil (TQ.then ?_)))))))
        refine TC.sp rfl (fun c24 => ?_) (fun c24 => ?_)
        ·refine TC.region (TL.as rfl rfl (TL.nil (TQ.block_normal ?_)))
         exact TQ.join1 ⟨rfl, rfl, gi rfl (by unfold kOf; (repeat' split) <;> omega), gi rfl (by unfold loOf; (repeat' split) <;> omega), gi rfl (by unfold hiOf; (repeat' split) <;> omega), rfl, trivial⟩ (fun _ h => h)
        ·refine TC.skip (TQ.block_normal ?_)
         exact TQ.join1 ⟨rfl, rfl, gi rfl (by unfold kOf; (repeat' split) <;> omega), gi rfl (by unfold loOf; (repeat' split) <;> omega), gi rfl (by unfold hiOf; (repeat' split) <;> omega), rfl, trivial⟩ (fun _ h => h)
      ·refine TC.seq (TC.region (TL.mv rfl rfl (TL.opP rfl (op_geq rfl rfl) (TL.opP rfl (op_move rfl) ?_))))
       refine TL.sp (fun c25 => ?_) (fun c25 => ?_)
       ·refine TL.gT rfl rfl (TL.mv rfl rfl (TL.gT rfl rfl (TL.opP rfl (op_leq rfl rfl) (TL.opP rfl (op_pickT rfl rfl) (TL.as rfl rfl (TL.nil (TQ.then ?_)))))))
        refine TC.sp rfl (fun c26 => ?_) (fun c26 => ?_)
        ·refine TC.seq (TC.region (TL.as rfl rfl (TL.nil (TQ.then (TC.seq (TC.seq (TC.region (TL.mv rfl rfl (TL.opP rfl (op_eql rfl rfl) (TL.nil (TQ.then ?_)))))))))))
         refine TC.sp rfl (fun c27 => ?_) (fun c27 => ?_)
         ·refine TC.region (TL.as rfl rfl (TL.nil (TQ.then (TC.seq (TC.region (TL.mv rfl rfl (TL.opP rfl (op_eql rfl rfl) (TL.nil (TQ.then ?_)))))))))
          refine TC.sp rfl (fun c28 => ?_) (fun c28 => ?_)
          ·refine TC.region (TL.as rfl rfl (TL.nil (TQ.block_normal ?_)))
           exact TQ.join1 ⟨rfl, rfl, gi rfl (by unfold kOf; (repeat' split) <;> omega), gi rfl (by unfold loOf; (repeat' split) <;> omega), gi rfl (by unfold hiOf; (repeat' split) <;> omega), rfl, trivial⟩ (fun _ h => h)
          ·refine TC.skip (TQ.block_normal ?_)
           exact TQ.join1 ⟨rfl, rfl, gi rfl (by unfold kOf; (repeat' split) <;> omega), gi rfl (by unfold loOf; (repeat' split) <;> omega), gi rfl (by unfold hiOf; (repeat' split) <;> omega), rfl, trivial⟩ (fun _ h => h)
         ·refine TC.skip (TQ.then (TC.seq (TC.region (TL.mv rfl rfl (TL.opP rfl (op_eql rfl rfl) (TL.nil (TQ.then ?_)))))))
          refine TC.sp rfl (fun c29 => ?_) (fun c29 => ?_)
          ·refine TC.region (TL.as rfl rfl (TL.nil (TQ.block_normal ?_)))
           exact TQ.join1 ⟨rfl, rfl, gi rfl (by unfold kOf; (repeat' split) <;> omega), gi rfl (by unfold loOf; (repeat' split) <;> omega), gi rfl (by unfold hiOf; (repeat' split) <;> omega), rfl, trivial⟩ (fun _ h => h)
          ·refine TC.skip (TQ.block_normal ?_)
           exact TQ.join1 ⟨rfl, rfl, gi rfl (by unfold kOf; (repeat' split) <;> omega), gi rfl (by unfold loOf; (repeat' split) <;> omega), gi rfl (by unfold hiOf; (repeat' split) <;> omega), rfl, trivial⟩ (fun _ h => h)
        ·refine TC.skip (TQ.block_normal ?_)
         exact TQ.join1 ⟨rfl, rfl, gi rfl (by unfold kOf; (repeat' split) <;> omega), gi rfl (by unfold loOf; (repeat' split) <;> omega), gi rfl (by unfold hiOf; (repeat' split) <;> omega), rfl, trivial⟩ (fun _ h => h)
       ·refine TL.gFf rfl rfl rfl (TL.gFf rfl rfl rfl (TL.opP rfl (op_pickF rfl rfl) (TL.as rfl rfl (TL.nil (TQ.then (TC.condF rfl (TC.skip (TQ.block_normal ?_))))))))
        exact TQ.join1 ⟨rfl, rfl, gi rfl (by unfold kOf; (repeat' split) <;> omega), gi rfl (by unfold loOf; (repeat' split) <;> omega), gi rfl (by unfold hiOf; (repeat' split) <;> omega), rfl, trivial⟩ (fun _ h => h)
     ·refine TL.gFf rfl rfl rfl (TL.gFf rfl rfl rfl (TL.opP rfl (op_pickF rfl rfl) (TL.as rfl rfl (TL.nil (TQ.then (TC.condF rfl (TC.seq (TC.region (TL.mv rfl rfl (TL.opP rfl (op_geq rfl rfl) (TL.opP rfl (op_move rfl) ?_)))))))))))
      refine TL.sp (fun c30 => ?_) (fun c30 => ?_)
      ·refine TL.gT rfl rfl (TL.mv rfl rfl (TL.gT rfl rfl (TL.opP rfl (op_leq rfl rfl) (TL.opP rfl (op_pickT rfl rfl) (TL.as rfl rfl (TL.nil (TQ.then ?_)))))))
       refine TC.sp rfl (fun c31 => ?_) (fun c31 => ?_)
       ·refine TC.seq (TC.region (TL.as rfl rfl (TL.nil (TQ.then (TC.seq (TC.seq (TC.region (TL.mv rfl rfl (TL.opP rfl (op_eql rfl rfl) (TL.nil (TQ.then ?_)))))))))))
        refine TC.sp rfl (fun c32 => ?_) (fun c32 => ?_)
        ·refine TC.region (TL.as rfl rfl (TL.nil (TQ.then (TC.seq (TC.region (TL.mv rfl rfl (TL.opP rfl (op_eql rfl rfl) (TL.nil (TQ.then ?_)))))))))
         refine TC.sp rfl (fun c33 => ?_) (fun c33 => ?_)
         ·refine TC.region (TL.as rfl rfl (TL.nil (TQ.block_normal ?_)))
          exact TQ.join1 ⟨rfl, rfl, gi rfl (by unfold kOf; (repeat' split) <;> omega), gi rfl (by unfold loOf; (repeat' split) <;> omega), gi rfl (by unfold hiOf; (repeat' split) <;> omega), rfl, trivial⟩ (fun _ h => h)
         ·refine TC.skip (TQ.block_normal ?_)
          exact TQ.join1 ⟨rfl, rfl, gi rfl (by unfold kOf; (repeat' split) <;> omega), gi rfl (by unfold loOf; (repeat' split) <;> omega), gi rfl (by unfold hiOf; (repeat' split) <;> omega), rfl, trivial⟩ (fun _ h => h)
        ·refine TC.skip (TQ.then (TC.seq (TC.region (TL.mv rfl rfl (TL.opP rfl (op_eql rfl rfl) (TL.nil (TQ.then ?_)))))))
         refine TC.sp rfl (fun c34 => ?_) (fun c34 => ?_)
         ·refine TC.region (TL.as rfl rfl (TL.nil (TQ.block_normal ?_)))
          exact TQ.join1 ⟨rfl, rfl, gi rfl (by unfold kOf; (repeat' split) <;> omega), gi rfl (by unfold loOf; (repeat' split) <;> omega), gi rfl (by unfold hiOf; (repeat' split) <;> omega), rfl, trivial⟩ (fun _ h => h)
         ·refine TC.skip (TQ.block_normal ?_)
          exact TQ.join1 ⟨rfl, rfl, gi rfl (by unfold kOf; (repeat' split) <;> omega), gi rfl (by unfold loOf; (repeat' split) <;> omega), gi rfl (by unfold hiOf; (repeat' split) <;> omega), rfl, trivial⟩ (fun _ h => h)
       ·refine TC.skip (TQ.block_normal ?_)
        exact TQ.join1 ⟨rfl, rfl, gi rfl (by unfold kOf; (repeat' split) <;> omega), gi rfl (by unfold loOf; (repeat' split) <;> omega), gi rfl (by unfold hiOf; (repeat' split) <;> omega), rfl, trivial⟩ (fun _ h => h)
      ·refine TL.gFf rfl rfl rfl (TL.gFf rfl rfl rfl (TL.opP rfl (op_pickF rfl rfl) (TL.as rfl rfl (TL.nil (TQ.then (TC.condF rfl (TC.skip (TQ.block_normal ?_))))))))
       exact TQ.join1 ⟨rfl, rfl, gi rfl (by unfold kOf; (repeat' split) <;> omega), gi rfl (by unfold loOf; (repeat' split) <;> omega), gi rfl (by unfold hiOf; (repeat' split) <;> omega), rfl, trivial⟩ (fun _ h => h)
  ·refine TC.seq (TC.seq (TC.region (TL.mv rfl rfl (TL.opP rfl (op_eql rfl rfl) (TL.opP rfl (op_move rfl) ?_)))))
   refine TL.sp (fun c35 => ?_) (fun c35 => ?_)
   ·refine TL.gFt rfl rfl rfl (TL.gFt rfl rfl rfl (TL.gFt rfl rfl rfl (TL.gFt rfl rfl rfl (TL.opP rfl (op_pickT rfl rfl) (TL.nil (TQ.then (TC.condT rfl (TC.seq (TC.region (TL.as rfl rfl (TL.nil (TQ.then (TC.ret (TQ.then_ret (TQ.block_ret (TQ.loop_ret (TQ.block_ret (TQ.then_ret ?_))))))))))))))))))
    refine ret1 rfl rfl (fun w' hp => ?_)
    first
      | exact ⟨by rw [hI.bad hne (by rintro ⟨a1, a2, a3⟩; first | omega | exact okBad1 (by assumption) (a3 i hi1 (by omega)) | exact okBad2 (by assumption) (a3 i hi1 (by omega)))], hp.kp⟩
      | (obtain rfl : l = [] := by (cases l with | nil => rfl | cons x t => simp at c1)
         exact ⟨by rw [hI.stop], hp.kp⟩)
   ·refine TL.gT rfl rfl (TL.mv rfl rfl (TL.gT rfl rfl (TL.opV rfl (op_lenV rfl un_sl_uint8 rfl rd0) (TL.gT rfl rfl (TL.mv rfl rfl (TL.gT rfl rfl (TL.opP rfl (op_lss rfl rfl) (TL.opP rfl (op_pickF rfl rfl) (TL.nil (TQ.then ?_))))))))))
    refine TC.sp rfl (fun c36 => ?_) (fun c36 => ?_)
    ·refine TC.seq (TC.region (TL.as rfl rfl (TL.nil (TQ.then (TC.ret (TQ.then_ret (TQ.block_ret (TQ.loop_ret (TQ.block_ret (TQ.then_ret ?_))))))))))
     refine ret1 rfl rfl (fun w' hp => ?_)
     first
       | exact ⟨by rw [hI.bad hne (by rintro ⟨a1, a2, a3⟩; first | omega | exact okBad1 (by assumption) (a3 i hi1 (by omega)) | exact okBad2 (by assumption) (a3 i hi1 (by omega)))], hp.kp⟩
       | (obtain rfl : l = [] := by (cases l with | nil => rfl | cons x t => simp at c1)
          exact ⟨by rw [hI.stop], hp.kp⟩)
    ·refine TC.skip (TQ.then (TC.seq (TC.seq (TC.region (TL.as rfl rfl (TL.nil (TQ.then (TC.block (TC.loop (ι := Nat) (fun i => [(0, bv), (3, .int .i64 n), (4, .int .i64 ((kOf (by' l 0) : Nat) : Int)), (5, .int .u8 ((if i = 1 then loOf (by' l 0) else 128 : Nat) : Int)), (6, .int .u8 ((if i = 1 then hiOf (by' l 0) else 191 : Nat) : Int)), (8, .int .i64 (i : Int))]) (fun i => [.rd bv 1 l.length (l.map u8v)]) (fun i => 1 ≤ i ∧ i ≤ kOf (by' l 0) ∧ ∀ j, 1 ≤ j → j < i → okAt l j) (fun i => kOf (by' l 0) - i) (1) (⟨Nat.le_refl _, by omega, fun j a b => by omega⟩) ⟨rfl, rfl, rfl, rfl, rfl, rfl, trivial⟩ (fun _ h => h) ?_)))))))))
     rintro i ⟨hi1, hik, hij⟩
     refine TC.seq (TC.seq (TC.region (TL.mv rfl rfl (TL.mv rfl rfl (TL.opP rfl (op_lss rfl rfl) (TL.nil (TQ.then ?_)))))))
     refine TC.sp rfl (fun c37 => ?_) (fun c37 => ?_)
     ·refine TC.skip (TQ.then (TC.seq (TC.block (TC.seq (TC.seq (TC.region (TL.mv rfl rfl (TL.mv rfl rfl (TL.opV rfl (op_index tsl_uint8 rfl rd0 rfl (by omega) (by omega)) (TL.opV rfl (op_loadR ts_uint8 rfl rd0 (lkU8 (i := i) (by omega) (by omega))) (TL.mv rfl rfl (TL.opP rfl (op_lss rfl rfl) (TL.opP rfl (op_move rfl) ?_)))))))))))))
      refine TL.sp (fun c38 => ?_) (fun c38 => ?_)
      ·refine TL.gFt rfl rfl rfl (TL.gFt rfl rfl rfl (TL.gFt rfl rfl rfl (TL.gFt rfl rfl rfl (TL.gFt rfl rfl rfl (TL.gFt rfl rfl rfl (TL.opP rfl (op_pickT rfl rfl) (TL.nil (TQ.then (TC.condT rfl (TC.seq (TC.region (TL.as rfl rfl (TL.nil (TQ.then (TC.ret (TQ.then_ret (TQ.block_ret (TQ.then_ret (TQ.loop_ret (TQ.block_ret (TQ.then_ret (TQ.block_ret (TQ.loop_ret (TQ.block_ret (TQ.then_ret ?_)))))))))))))))))))))))))
       refine ret1 rfl rfl (fun w' hp => ?_)
       first
         | exact ⟨by rw [hI.bad hne (by rintro ⟨a1, a2, a3⟩; first | omega | exact okBad1 (by assumption) (a3 i hi1 (by omega)) | exact okBad2 (by assumption) (a3 i hi1 (by omega)))], hp.kp⟩
         | (obtain rfl : l = [] := by (cases l with | nil => rfl | cons x t => simp at c1)
            exact ⟨by rw [hI.stop], hp.kp⟩)
      ·refine TL.gT rfl rfl (TL.mv rfl rfl (TL.gT rfl rfl (TL.mv rfl rfl (TL.gT rfl rfl (TL.opV rfl (op_index tsl_uint8 rfl rd0 rfl (by omega) (by omega)) (TL.gT rfl rfl (TL.opV rfl (op_loadR ts_uint8 rfl rd0 (lkU8 (i := i) (by omega) (by omega))) (TL.gT rfl rfl (TL.mv rfl rfl (TL.gT rfl rfl (TL.opP rfl (op_gtr rfl rfl) (TL.opP rfl (op_pickF rfl rfl) (TL.nil (TQ.then ?_))))))))))))))
       refine TC.sp rfl (fun c39 => ?_) (fun c39 => ?_)
       ·refine TC.seq (TC.region (TL.as rfl rfl (TL.nil (TQ.then (TC.ret (TQ.then_ret (TQ.block_ret (TQ.then_ret (TQ.loop_ret (TQ.block_ret (TQ.then_ret (TQ.block_ret (TQ.loop_ret (TQ.block_ret (TQ.then_ret ?_)))))))))))))))
        refine ret1 rfl rfl (fun w' hp => ?_)
        first
          | exact ⟨by rw [hI.bad hne (by rintro ⟨a1, a2, a3⟩; first | omega | exact okBad1 (by assumption) (a3 i hi1 (by omega)) | exact okBad2 (by assumption) (a3 i hi1 (by omega)))], hp.kp⟩
          | (obtain rfl : l = [] := by (cases l with | nil => rfl | cons x t => simp at c1)
             exact ⟨by rw [hI.stop], hp.kp⟩)
       ·refine TC.skip (TQ.then (TC.seq (TC.region (TL.as rfl rfl (TL.nil (TQ.then (TC.region (TL.as rfl rfl (TL.nil (TQ.block_normal (TQ.then (TC.region (TL.mv rfl rfl (TL.opP rfl (op_add rfl rfl rfl (by omega) (by omega)) (TL.as rfl rfl (TL.nil ?_))))))))))))))))
        exact TQ.round (i + 1) (⟨by omega, by omega, okAt_succ hij (okAt_of (by assumption) (by assumption))⟩) (by omega) ⟨rfl, rfl, rfl, gi rfl (by rw [if_neg (by omega)]; rfl), gi rfl (by rw [if_neg (by omega)]; rfl), rfl, trivial⟩ (fun _ h => h)
     ·have hok : stepOk l := ⟨by omega, by omega, fun j a b => hij j a (by omega)⟩
      refine TC.exit (TQ.then_exit (TQ.loop_exit (TQ.block_hit (TQ.then (TC.seq (TC.region (TL.mv rfl rfl (TL.mv rfl rfl (TL.opV rfl (op_cut (kOf (by' l 0)) l.length tsl_uint8 rfl rd0 (vlo := (some _)) (vhi := none) rfl rfl (.inr ⟨_, _, rfl, by omega⟩) (.inl ⟨rfl, rfl⟩) (by omega) (by omega)) (TL.as rfl rfl (TL.hp (fun _ h => rd_dropF h (kOf (by' l 0)) (by omega)) (TL.nil (TQ.then (TC.region (TL.mv rfl rfl (TL.opP rfl (op_add rfl rfl rfl (by omega) (by omega)) (TL.as rfl rfl (TL.nil (TQ.block_normal ?_)))))))))))))))))))
      exact TQ.round (l.drop (kOf (by' l 0)), n + 1, Value.cut bv (kOf (by' l 0)) l.length 1) (hI.step hne hok) (by show (l.drop _).length < l.length; rw [List.length_drop]; have := hok.1; omega) ⟨rfl, rfl, trivial⟩ (fun _ h => h)
 ·refine TC.exit (TQ.then_exit (TQ.loop_exit (TQ.block_hit (TQ.then (TC.seq (TC.region (TL.mv rfl rfl (TL.as rfl rfl (TL.nil (TQ.then (TC.ret ?_)))))))))))
  refine ret1 rfl rfl (fun w' hp => ?_)
  first
    | exact ⟨by rw [hI.bad hne (by rintro ⟨a1, a2, a3⟩; first | omega | exact okBad1 (by assumption) (a3 i hi1 (by omega)) | exact okBad2 (by assumption) (a3 i hi1 (by omega)))], hp.kp⟩
    | (obtain rfl : l = [] := by (cases l with | nil => rfl | cons x t => simp at c1)
       exact ⟨by rw [hI.stop], hp.kp⟩)

theorem geq_runes (s : ByteArray) : decide (0 ≤ runesF s.data.toList) = valid s := by
  rcases runesF_cases s with ⟨h, e⟩ | ⟨h, e⟩ <;> rw [e, h] <;> simp
theorem one1 {v : Value} (h : v.oneCell' = true) : ∀ u ∈ [v], u.oneCell' = true := fun u hu => by rw [List.mem_singleton.1 hu]; exact h
theorem xrunes_x (s : ByteArray) (hs : s.size ≤ 4398046511104) :
    CallX Tryd.prog 83 [.string s] S w0 (L) (fun u L' => ∃ v', u = .tuple #[v', .bool (valid s)] ∧ L' = .row v' 21 1 (dec s).length ((dec s).map (Value.int .i32)) :: L) := by
 intro w hp
 refine calls_start Tryd.func83 rfl rfl rfl (hp) ?_
 refine TC.seq (TC.region (TL.as rfl rfl (TL.as rfl rfl (TL.nil (TQ.then (TC.seq (TC.region (TL.as rfl rfl (TL.nil (TQ.then (TC.seq (TC.seq (TC.region (TL.opP rfl (op_move rfl) ?_))))))))))))))
 refine TL.opX rfl (OpX.range un_string rfl) ?_; rintro _ _ ⟨g8, rfl, rfl⟩
 refine TL.nil (TQ.then (TC.block (TC.hp (fun _ h => new_nil 21 1 h) ?_)))
 refine TC.loop (ι := Nat × List Int × Value) (fun (pos, out, ov) => [(0, .string s), (4, ov), (8, .pointer (some ⟨g8, 0, none⟩))]) (fun (pos, out, ov) => .blk g8 (.stringIter s pos) :: .row ov 21 1 (out).length ((out).map (Value.int .i32)) :: L) (fun (pos, out, ov) => out ++ decFrom s pos = dec s) (fun (pos, out, ov) => (decFrom s pos).length) ((0, [], .slice none 0 0)) ((by show [] ++ decFrom s 0 = dec s; rw [decFrom_zero]; rfl)) ⟨rfl, rfl, rfl, trivial⟩ (fun _ h => h.pick1) ?_
 rintro ⟨pos, out, ov⟩ (hI : out ++ decFrom s pos = dec s)
 have hol : out.length ≤ s.size := by have h1 := dec_len s; rw [← hI, List.length_append] at h1; omega
 show TC _ _ _ _ [(0, .string s), (4, ov), (8, .pointer (some ⟨g8, 0, none⟩))] _ _ (.blk g8 (.stringIter s pos) :: .row ov 21 1 (out).length ((out).map (Value.int .i32)) :: L)
 refine TC.seq (TC.region ?_)
 refine TL.opX rfl (OpX.next rfl) ?_; rintro _ _ (⟨hn1, rfl, rfl⟩ | ⟨hn1, rfl, rfl⟩)
 ·skip
  have hst := decFrom_step hn1
  have hc : (out ++ [((Utf8.decode s pos).1 : Int)]) ++ decFrom s (pos + (Utf8.decode s pos).2) = dec s := by rw [← hI, hst]; simp
  have hm : (decFrom s (pos + (Utf8.decode s pos).2)).length < (decFrom s pos).length := by rw [hst]; simp
  refine TL.opP rfl (op_extract rfl rfl) (TL.nil (TQ.then (TC.seq (TC.condT rfl (TC.skip (TQ.then (TC.block (TC.seq (TC.region (TL.opP rfl (op_extract rfl rfl) (TL.as rfl rfl (TL.nil (TQ.then (TC.region (TL.mv rfl rfl (TL.opP rfl (op_move rfl) ?_))))))))))))))))
  refine TL.opX rfl (OpX.buildSlice (ps := #[(0, _)]) rfl (bs_int32_1 _)) ?_; rintro _ _ ⟨g14, rfl, rfl⟩
  refine TL.hp (fun _ h => blk_row (k := 1) (m := 1) h rfl (by decide)) (TL.hp (fun _ h => h.pick2) ?_)
  refine TL.opX rfl (OpX.append (bytes := 4) tsl_int32 (by decide) (by decide) rfl rw1 (one1 rfl) (by omega) (zs := (out ++ [((Utf8.decode s pos).1 : Int)]).map (Value.int .i32)) (by simp)) ?_; rintro v1 _ rfl
  refine TL.know (fun _ h => row1 h) (fun o1 => (TL.hp (fun _ h => row_lenM h) (TL.as rfl rfl (TL.nil (TQ.block_normal ?_)))))
  exact TQ.round (_, _, v1) (hc) (hm) ⟨rfl, rfl, rfl, trivial⟩ (fun _ h => h.drop1.pick1)
 ·skip
  have hz : out = dec s := by rw [← hI, decFrom_end hn1, List.append_nil]
  refine TL.opP rfl (op_extract rfl rfl) (TL.nil (TQ.then (TC.seq (TC.condF rfl (TC.exit (TQ.then_exit (TQ.loop_exit (TQ.block_hit (TQ.then (TC.seq (TC.region (TL.mv rfl rfl (TL.opP rfl (op_move rfl) ?_)))))))))))))
  refine TL.opX rfl (OpX.bytes un_string tsl_uint8 un_uint8 rfl (by simp only [maxLen]; omega)) ?_; rintro v2 _ rfl
  refine TL.know (fun _ h => rd1' h) (fun o2 => ?_)
  refine TL.callq rfl en_96 rfl (fun w2 hp => runes_calls s.data.toList _ w2 (by rw [size_len]; exact rd0 _ _ _ hp)) ?_
  refine TL.opP rfl (op_geq rfl rfl) (TL.as rfl rfl (TL.as rfl rfl (TL.nil (TQ.then (TC.ret ?_)))))
  refine ret2 rfl rfl rfl (fun w' hp => ?_)
  exact ⟨_, _, rfl, ⟨_, by rw [geq_runes s], by rw [hz]⟩, (hp.drop1.tail)⟩

end Go.SK
