/- Walks: layer 11, the program's lines. -/
import Derived.Test.YtpomdenbgdgbhaaDoorME
import Derived.Test.YtpomdenbgdgbhaaDoorMF
import Derived.Test.YtpomdenbgdgbhaaDoorMJ
import Derived.Test.YtpomdenbgdgbhaaDoorK8
import Derived.Test.YtpomdenbgdgbhaaDoorSh
import Derived.Laws.Bits64
set_option linter.unusedVariables false
set_option linter.unusedSimpArgs false
set_option maxRecDepth 100000
namespace Go.SK
open Go Go.RowKit Go.Proofs
section
variable {P : Program} {n : Nat} {l : FrL} {dst : Option Tmp} {ty : TypeId} {pos : String} {af : Array Edge} {gd : Option (Nat × Bool)}
theorem op_eqPtr {x : Operand} {t t' : TypeId} {A : Option Addr} {b : Bool} (hx : evO l x = some (.pointer A)) (hq : ∀ w : World, (binOp .eql t (.pointer A) (.pointer none)).run P w = .ok (.bool b) w) :
    OpP P n l ⟨dst, .binOp .eql t x (.const (.pointer none)) t', ty, pos, af, gd⟩ (.bool b) := fun q w ha => by
  have hg : (eqGuard .eql t x (.const (.pointer none)) (.pointer A) (.pointer none)).run P w = .ok () w := by simp [eqGuard]
  have hc : q.eval (.const (.pointer none)) = .pointer none := rfl
  simp only [execOp, ha.eval hx, hc, Sem.run_bind, hg, Result.andThen_ok, hq w, Sem.run_pure]
theorem op_half {x y : Operand} {t t' : TypeId} {k : IntKind} {a : Int} (hx : evO l x = some (.int k a)) (hy : evO l y = some (.int k 2)) (h0 : 0 ≤ a) (h1 : k.wrap (a / 2) = a / 2) :
    OpP P n l ⟨dst, .binOp .quo t x y t', ty, pos, af, gd⟩ (.int k (a / 2)) := fun q w ha => by
  simp [execOp, ha.eval hx, ha.eval hy, eqGuard, binOp, Op.intDiv, Int.tdiv_eq_ediv_of_nonneg h0, h1]
end
variable {S : Nat → Prop} {w0 : World} {F L : List Res}
abbrev nv (n : Nat) : Value := .int .i64 (n : Int)
theorem lidx_eqo (o : Option Addr) (w : World) : (binOp .eql 31 (.pointer o) (.pointer none)).run Tryd.prog w = .ok (.bool (decide (o = none))) w := by cases o <;> kernel_rfl
theorem ints_cut {v : Value} {m : Nat} {ns : List Int} {kd : IntKind} (h : Rdb L v 1 m (ns.map (Value.int kd))) (lo hi : Nat) (h1 : lo ≤ hi) (h2 : hi ≤ m) : Rdb L (Value.cut v lo hi 1) 1 (hi - lo) (((ns.drop lo).take (hi - lo)).map (Value.int kd)) := by
  have := h.cut lo hi h1 h2
  rw [Nat.mul_one, Nat.mul_one, ← List.map_drop, ← List.map_take] at this
  exact this
theorem ldead_x (tv bv : Value) (mk : Bool) (g : Nat) :
    CallX Tryd.prog 65 [.pointer (some ⟨g, 0, none⟩)] S w0 (.blk g (.cells [tv, bv, .bool mk].toArray 58 (0, 0)) :: F) (fun u L' => u = .bool (!mk) ∧ L' = .blk g (.cells [tv, bv, .bool mk].toArray 58 (0, 0)) :: F) := by
 intro w hp
 refine calls_start Tryd.func65 rfl rfl rfl (hp) ?_
 refine TC.seq (TC.region (TL.opP rfl (op_assign rfl) (TL.nil (TQ.then (TC.seq (TC.region (TL.opP rfl (op_move rfl) (TL.opP rfl (op_eqPtr rfl (lidx_eqo _)) (TL.opP rfl (op_move rfl) (TL.gT rfl rfl (TL.opP rfl (op_move rfl) (TL.gT rfl rfl (TL.opP rfl (op_nilCheck rfl) (TL.gT rfl rfl (TL.opP rfl (op_field fld_lines_Index_made rfl) (TL.gT rfl rfl (TL.opV rfl (op_load ts_bool rfl m0 rfl) (TL.gT rfl rfl (TL.opP rfl (op_not rfl rfl) (TL.opP rfl (by first | exact op_pickT rfl rfl | exact op_pickF rfl rfl) (TL.opP rfl (op_assign rfl) (TL.nil (TQ.then (TC.ret ?_))))))))))))))))))))))))
 refine ret1 rfl rfl (fun w' hp => ?_)
 exact ⟨_, _, rfl, ⟨rfl, rfl⟩, (hp)⟩

theorem llen_x (l : List Int) (tv bv : Value) (g : Nat) (hxt : Rdb F tv 1 l.length (l.map (Value.int .i32))) (hxb : Rdb F bv 1 (begs l).length ((begs l).map nv))  :
    CallX Tryd.prog 37 [.pointer (some ⟨g, 0, none⟩)] S w0 (.blk g (.cells [tv, bv, .bool true].toArray 58 (0, 0)) :: F) (fun u L' => u = .int .i64 ((begs l).length : Int) ∧ L' = .blk g (.cells [tv, bv, .bool true].toArray 58 (0, 0)) :: F) := by
 intro w hp
 have hxtl := hxt.cons.lenLe hp
 have hxbl := hxb.cons.lenLe hp
 refine calls_start Tryd.func37 rfl rfl rfl (hp) ?_
 refine TC.seq (TC.region (TL.opP rfl (op_assign rfl) (TL.nil (TQ.then (TC.seq (TC.seq (TC.region (TL.opP rfl (op_move rfl) ?_))))))))
 refine TL.opX rfl (OpX.callX en_65 rfl (ldead_x _ _ true _)) ?_; rintro _ _ ⟨rfl, rfl⟩
 refine TL.nil (TQ.then ?_)
 first | refine TC.condD rfl (fun c1 => ?_) (fun c1 => ?_) | refine TC.condB rfl (fun c1 => ?_) (fun c1 => ?_)
 ·exact absurd c1 (by decide)
 ·refine TC.skip (TQ.then (TC.seq (TC.region (TL.opP rfl (op_move rfl) (TL.opP rfl (op_nilCheck rfl) (TL.opP rfl (op_field fld_lines_Index_begin rfl) (TL.opV rfl (op_load ts_sl_int rfl m0 rfl) (TL.opV rfl (op_lenV rfl un_sl_int rfl hxb.cons) (TL.opP rfl (op_assign rfl) (TL.nil (TQ.then (TC.ret ?_))))))))))))
  refine ret1 rfl rfl (fun w' hp => ?_)
  exact ⟨_, _, rfl, ⟨rfl, rfl⟩, (hp)⟩

theorem lsize_x (l : List Int) (tv bv : Value) (g : Nat) (hxt : Rdb F tv 1 l.length (l.map (Value.int .i32))) (hxb : Rdb F bv 1 (begs l).length ((begs l).map nv))  :
    CallX Tryd.prog 28 [.pointer (some ⟨g, 0, none⟩)] S w0 (.blk g (.cells [tv, bv, .bool true].toArray 58 (0, 0)) :: F) (fun u L' => u = .int .i64 (l.length : Int) ∧ L' = .blk g (.cells [tv, bv, .bool true].toArray 58 (0, 0)) :: F) := by
 intro w hp
 have hxtl := hxt.cons.lenLe hp
 have hxbl := hxb.cons.lenLe hp
 refine calls_start Tryd.func28 rfl rfl rfl (hp) ?_
 refine TC.seq (TC.region (TL.opP rfl (op_assign rfl) (TL.nil (TQ.then (TC.seq (TC.seq (TC.region (TL.opP rfl (op_move rfl) ?_))))))))
 refine TL.opX rfl (OpX.callX en_65 rfl (ldead_x _ _ true _)) ?_; rintro _ _ ⟨rfl, rfl⟩
 refine TL.nil (TQ.then ?_)
 first | refine TC.condD rfl (fun c1 => ?_) (fun c1 => ?_) | refine TC.condB rfl (fun c1 => ?_) (fun c1 => ?_)
 ·exact absurd c1 (by decide)
 ·refine TC.skip (TQ.then (TC.seq (TC.region (TL.opP rfl (op_move rfl) (TL.opP rfl (op_nilCheck rfl) (TL.opP rfl (op_field fld_lines_Index_text rfl) (TL.opV rfl (op_load ts_sl_int32 rfl m0 rfl) (TL.opV rfl (op_lenV rfl un_sl_int32 rfl hxt.cons) (TL.opP rfl (op_assign rfl) (TL.nil (TQ.then (TC.ret ?_))))))))))))
  refine ret1 rfl rfl (fun w' hp => ?_)
  exact ⟨_, _, rfl, ⟨rfl, rfl⟩, (hp)⟩

theorem lends_x (l : List Int) (tv bv : Value) (g : Nat) (hxt : Rdb F tv 1 l.length (l.map (Value.int .i32))) (hxb : Rdb F bv 1 (begs l).length ((begs l).map nv)) (k : Nat) (hk : k < (begs l).length) :
    CallX Tryd.prog 71 [.pointer (some ⟨g, 0, none⟩), .int .i64 (k : Int)] S w0 (.blk g (.cells [tv, bv, .bool true].toArray 58 (0, 0)) :: F) (fun u L' => u = .int .i64 (endOf l k : Int) ∧ L' = .blk g (.cells [tv, bv, .bool true].toArray 58 (0, 0)) :: F) := by
 intro w hp
 have hxtl := hxt.cons.lenLe hp
 have hxbl := hxb.cons.lenLe hp
 refine calls_start Tryd.func71 rfl rfl rfl (hp) ?_
 refine TC.seq (TC.region (TL.opP rfl (op_assign rfl) (TL.nil (TQ.then (TC.seq (TC.seq (TC.region (TL.opP rfl (op_move rfl) (TL.opP rfl (op_add rfl rfl rfl (by omega) (by omega)) (TL.opP rfl (op_move rfl) (TL.opP rfl (op_nilCheck rfl) (TL.opP rfl (op_field fld_lines_Index_begin rfl) (TL.opV rfl (op_load ts_sl_int rfl m0 rfl) (TL.opV rfl (op_lenV rfl un_sl_int rfl hxb.cons) (TL.opP rfl (op_lss rfl rfl) (TL.nil (TQ.then ?_)))))))))))))))))
 first | refine TC.condD rfl (fun c1 => ?_) (fun c1 => ?_) | refine TC.condB rfl (fun c1 => ?_) (fun c1 => ?_)
 ·have hk1 : k + 1 < (begs l).length := by omega
  have hlt := begs_lt (l := l) (show k < k + 1 by omega) hk1
  have hle := begs_le l _ (begs_get_mem hk1)
  have he : endOf l k = (begs l).getD (k + 1) 0 - 1 := if_pos hk1
  refine TC.seq (TC.region (TL.opP rfl (op_move rfl) (TL.opP rfl (op_nilCheck rfl) (TL.opP rfl (op_field fld_lines_Index_begin rfl) (TL.opV rfl (op_load ts_sl_int rfl m0 rfl) (TL.opP rfl (op_move rfl) (TL.opP rfl (op_add rfl rfl rfl (by omega) (by omega)) (TL.opV rfl (op_index tsl_int rfl hxb.cons rfl (by omega) (by omega)) (TL.opV rfl (op_loadR ts_int rfl hxb.cons (lkM (f := nv) (i := k + 1) (d := 0) (by omega) rfl (by omega))) (TL.opP rfl (op_sub rfl rfl rfl (by omega) (by omega)) (TL.opP rfl (op_assign rfl) (TL.nil (TQ.then (TC.ret (TQ.then_ret ?_)))))))))))))))
  refine ret1 rfl rfl (fun w' hp => ?_)
  first
    | exact ⟨_, _, rfl, ⟨ire (by rw [he2]), rfl⟩, (hp)⟩
    | exact ⟨_, _, rfl, ⟨ire (by rw [he]; omega), rfl⟩, (hp)⟩
 ·have he2 : endOf l k = l.length := if_neg (by omega)
  refine TC.skip (TQ.then (TC.seq (TC.region (TL.opP rfl (op_move rfl) (TL.opP rfl (op_nilCheck rfl) (TL.opP rfl (op_field fld_lines_Index_text rfl) (TL.opV rfl (op_load ts_sl_int32 rfl m0 rfl) (TL.opV rfl (op_lenV rfl un_sl_int32 rfl hxt.cons) (TL.opP rfl (op_assign rfl) (TL.nil (TQ.then (TC.ret ?_))))))))))))
  refine ret1 rfl rfl (fun w' hp => ?_)
  first
    | exact ⟨_, _, rfl, ⟨ire (by rw [he2]), rfl⟩, (hp)⟩
    | exact ⟨_, _, rfl, ⟨ire (by rw [he]; omega), rfl⟩, (hp)⟩

theorem lclass_calls (c : Int) (w : World) :
    Calls Tryd.prog 73 (List.toArray [.int .i32 c]) w fun e w' => e = .returned (.int .i64 (lcls c)) ∧ Kp NoB w w' := by
 refine calls_start Tryd.func73 rfl rfl rfl (Hp.init0 w) ?_
 refine TC.seq (TC.region (TL.opP rfl (op_assign rfl) (TL.nil (TQ.then (TC.seq (TC.block (TC.seq (TC.region (TL.opP rfl (op_move rfl) (TL.opP rfl (op_eql rfl rfl) (TL.opP rfl (op_move rfl) ?_)))))))))))
 first | refine TL.splitD (fun c1 => ?_) (fun c1 => ?_) | refine TL.splitB (fun c1 => ?_) (fun c1 => ?_)
 ·refine TL.gFt rfl rfl rfl (TL.gFt rfl rfl rfl (TL.opP rfl (op_pickT rfl rfl) (TL.opP rfl (op_move rfl) (TL.gFt rfl rfl rfl (TL.gFt rfl rfl rfl (TL.opP rfl (op_pickT rfl rfl) (TL.opP rfl (op_assign rfl) (TL.nil (TQ.then (TC.condT rfl (TC.seq (TC.region (TL.opP rfl (op_assign rfl) (TL.nil (TQ.then (TC.ret (TQ.block_ret (TQ.then_ret ?_))))))))))))))))))
  refine ret1 rfl rfl (fun w' hp => ?_)
  first
    | (exfalso; omega)
    | exact ⟨by rw [show lcls c = 0 from if_pos (by omega)], hp.kp⟩
    | exact ⟨by rw [show lcls c = 1 from (if_neg (by omega)).trans (if_pos (by omega))], hp.kp⟩
    | exact ⟨by rw [show lcls c = 2 from (if_neg (by omega)).trans (if_neg (by omega))], hp.kp⟩
 ·refine TL.gT rfl rfl (TL.opP rfl (op_move rfl) (TL.gT rfl rfl (TL.opP rfl (op_eql rfl rfl) (TL.opP rfl (op_pickF rfl rfl) (TL.opP rfl (op_move rfl) ?_)))))
  first | refine TL.splitD (fun c2 => ?_) (fun c2 => ?_) | refine TL.splitB (fun c2 => ?_) (fun c2 => ?_)
  ·refine TL.gFt rfl rfl rfl (TL.gFt rfl rfl rfl (TL.opP rfl (op_pickT rfl rfl) (TL.opP rfl (op_assign rfl) (TL.nil (TQ.then (TC.condT rfl (TC.seq (TC.region (TL.opP rfl (op_assign rfl) (TL.nil (TQ.then (TC.ret (TQ.block_ret (TQ.then_ret ?_))))))))))))))
   refine ret1 rfl rfl (fun w' hp => ?_)
   first
     | (exfalso; omega)
     | exact ⟨by rw [show lcls c = 0 from if_pos (by omega)], hp.kp⟩
     | exact ⟨by rw [show lcls c = 1 from (if_neg (by omega)).trans (if_pos (by omega))], hp.kp⟩
     | exact ⟨by rw [show lcls c = 2 from (if_neg (by omega)).trans (if_neg (by omega))], hp.kp⟩
  ·refine TL.gT rfl rfl (TL.opP rfl (op_move rfl) (TL.gT rfl rfl (TL.opP rfl (op_eql rfl rfl) (TL.opP rfl (op_pickF rfl rfl) (TL.opP rfl (op_assign rfl) (TL.nil (TQ.then ?_)))))))
   first | refine TC.condD rfl (fun c3 => ?_) (fun c3 => ?_) | refine TC.condB rfl (fun c3 => ?_) (fun c3 => ?_)
   ·refine TC.seq (TC.region (TL.opP rfl (op_assign rfl) (TL.nil (TQ.then (TC.ret (TQ.block_ret (TQ.then_ret ?_)))))))
    refine ret1 rfl rfl (fun w' hp => ?_)
    first
      | (exfalso; omega)
      | exact ⟨by rw [show lcls c = 0 from if_pos (by omega)], hp.kp⟩
      | exact ⟨by rw [show lcls c = 1 from (if_neg (by omega)).trans (if_pos (by omega))], hp.kp⟩
      | exact ⟨by rw [show lcls c = 2 from (if_neg (by omega)).trans (if_neg (by omega))], hp.kp⟩
   ·refine TC.seq (TC.region (TL.opP rfl (op_move rfl) (TL.opP rfl (op_geq rfl rfl) (TL.opP rfl (op_move rfl) ?_))))
    first | refine TL.splitD (fun c4 => ?_) (fun c4 => ?_) | refine TL.splitB (fun c4 => ?_) (fun c4 => ?_)
    ·refine TL.gT rfl rfl (TL.opP rfl (op_move rfl) (TL.gT rfl rfl (TL.opP rfl (op_leq rfl rfl) (TL.opP rfl (op_pickT rfl rfl) (TL.opP rfl (op_move rfl) ?_)))))
     first | refine TL.splitD (fun c5 => ?_) (fun c5 => ?_) | refine TL.splitB (fun c5 => ?_) (fun c5 => ?_)
     ·refine TL.gFt rfl rfl rfl (TL.gFt rfl rfl rfl (TL.gFt rfl rfl rfl (TL.gU rfl rfl rfl (TL.gU rfl rfl rfl (TL.gFt rfl rfl rfl (TL.opP rfl (op_pickT rfl rfl) (TL.opP rfl (op_move rfl) (TL.gFt rfl rfl rfl (TL.gFt rfl rfl rfl (TL.gFt rfl rfl rfl (TL.gU rfl rfl rfl (TL.gU rfl rfl rfl (TL.gFt rfl rfl rfl (TL.opP rfl (op_pickT rfl rfl) (TL.opP rfl (op_move rfl) (TL.gFt rfl rfl rfl (TL.gFt rfl rfl rfl (TL.opP rfl (op_pickT rfl rfl) (TL.opP rfl (op_move rfl) (TL.gFt rfl rfl rfl (TL.gFt rfl rfl rfl (TL.opP rfl (op_pickT rfl rfl) (TL.opP rfl (op_assign rfl) (TL.nil (TQ.then (TC.condT rfl (TC.seq (TC.region (TL.opP rfl (op_assign rfl) (TL.nil (TQ.then (TC.ret (TQ.block_ret (TQ.then_ret ?_))))))))))))))))))))))))))))))))))
      refine ret1 rfl rfl (fun w' hp => ?_)
      first
        | (exfalso; omega)
        | exact ⟨by rw [show lcls c = 0 from if_pos (by omega)], hp.kp⟩
        | exact ⟨by rw [show lcls c = 1 from (if_neg (by omega)).trans (if_pos (by omega))], hp.kp⟩
        | exact ⟨by rw [show lcls c = 2 from (if_neg (by omega)).trans (if_neg (by omega))], hp.kp⟩
     ·refine TL.gT rfl rfl (TL.opP rfl (op_move rfl) (TL.gT rfl rfl (TL.opP rfl (op_geq rfl rfl) (TL.gT rfl rfl (TL.opP rfl (op_move rfl) ?_)))))
      first | refine TL.splitD (fun c6 => ?_) (fun c6 => ?_) | refine TL.splitB (fun c6 => ?_) (fun c6 => ?_)
      ·refine TL.gT rfl rfl (TL.opP rfl (op_move rfl) (TL.gT rfl rfl (TL.opP rfl (op_leq rfl rfl) (TL.gT rfl rfl (TL.opP rfl (op_pickT rfl rfl) (TL.opP rfl (op_pickF rfl rfl) (TL.opP rfl (op_move rfl) ?_)))))))
       first | refine TL.splitD (fun c7 => ?_) (fun c7 => ?_) | refine TL.splitB (fun c7 => ?_) (fun c7 => ?_)
       ·refine TL.gFt rfl rfl rfl (TL.gFt rfl rfl rfl (TL.gFt rfl rfl rfl (TL.gU rfl rfl rfl (TL.gU rfl rfl rfl (TL.gFt rfl rfl rfl (TL.opP rfl (op_pickT rfl rfl) (TL.opP rfl (op_move rfl) (TL.gFt rfl rfl rfl (TL.gFt rfl rfl rfl (TL.opP rfl (op_pickT rfl rfl) (TL.opP rfl (op_move rfl) (TL.gFt rfl rfl rfl (TL.gFt rfl rfl rfl (TL.opP rfl (op_pickT rfl rfl) (TL.opP rfl (op_assign rfl) (TL.nil (TQ.then (TC.condT rfl (TC.seq (TC.region (TL.opP rfl (op_assign rfl) (TL.nil (TQ.then (TC.ret (TQ.block_ret (TQ.then_ret ?_))))))))))))))))))))))))))
        refine ret1 rfl rfl (fun w' hp => ?_)
        first
          | (exfalso; omega)
          | exact ⟨by rw [show lcls c = 0 from if_pos (by omega)], hp.kp⟩
          | exact ⟨by rw [show lcls c = 1 from (if_neg (by omega)).trans (if_pos (by omega))], hp.kp⟩
          | exact ⟨by rw [show lcls c = 2 from (if_neg (by omega)).trans (if_neg (by omega))], hp.kp⟩
       ·refine TL.gT rfl rfl (TL.opP rfl (op_move rfl) (TL.gT rfl rfl (TL.opP rfl (op_geq rfl rfl) (TL.gT rfl rfl (TL.opP rfl (op_move rfl) ?_)))))
        first | refine TL.splitD (fun c8 => ?_) (fun c8 => ?_) | refine TL.splitB (fun c8 => ?_) (fun c8 => ?_)
        ·refine TL.gT rfl rfl (TL.opP rfl (op_move rfl) (TL.gT rfl rfl (TL.opP rfl (op_leq rfl rfl) (TL.gT rfl rfl (TL.opP rfl (op_pickT rfl rfl) (TL.opP rfl (op_pickF rfl rfl) (TL.opP rfl (op_move rfl) ?_)))))))
         first | refine TL.splitD (fun c9 => ?_) (fun c9 => ?_) | refine TL.splitB (fun c9 => ?_) (fun c9 => ?_)
         ·refine TL.gFt rfl rfl rfl (TL.gFt rfl rfl rfl (TL.opP rfl (op_pickT rfl rfl) (TL.opP rfl (op_move rfl) (TL.gFt rfl rfl rfl (TL.gFt rfl rfl rfl (TL.opP rfl (op_pickT rfl rfl) (TL.opP rfl (op_assign rfl) (TL.nil (TQ.then (TC.condT rfl (TC.seq (TC.region (TL.opP rfl (op_assign rfl) (TL.nil (TQ.then (TC.ret (TQ.block_ret (TQ.then_ret ?_))))))))))))))))))
          refine ret1 rfl rfl (fun w' hp => ?_)
          first
            | (exfalso; omega)
            | exact ⟨by rw [show lcls c = 0 from if_pos (by omega)], hp.kp⟩
            | exact ⟨by rw [show lcls c = 1 from (if_neg (by omega)).trans (if_pos (by omega))], hp.kp⟩
            | exact ⟨by rw [show lcls c = 2 from (if_neg (by omega)).trans (if_neg (by omega))], hp.kp⟩
         ·refine TL.gT rfl rfl (TL.opP rfl (op_move rfl) (TL.gT rfl rfl (TL.opP rfl (op_eql rfl rfl) (TL.opP rfl (op_pickF rfl rfl) (TL.opP rfl (op_move rfl) ?_)))))
          first | refine TL.splitD (fun c10 => ?_) (fun c10 => ?_) | refine TL.splitB (fun c10 => ?_) (fun c10 => ?_)
          ·refine TL.gFt rfl rfl rfl (TL.gFt rfl rfl rfl (TL.opP rfl (op_pickT rfl rfl) (TL.opP rfl (op_assign rfl) (TL.nil (TQ.then (TC.condT rfl (TC.seq (TC.region (TL.opP rfl (op_assign rfl) (TL.nil (TQ.then (TC.ret (TQ.block_ret (TQ.then_ret ?_))))))))))))))
           refine ret1 rfl rfl (fun w' hp => ?_)
           first
             | (exfalso; omega)
             | exact ⟨by rw [show lcls c = 0 from if_pos (by omega)], hp.kp⟩
             | exact ⟨by rw [show lcls c = 1 from (if_neg (by omega)).trans (if_pos (by omega))], hp.kp⟩
             | exact ⟨by rw [show lcls c = 2 from (if_neg (by omega)).trans (if_neg (by omega))], hp.kp⟩
          ·refine TL.gT rfl rfl (TL.opP rfl (op_move rfl) (TL.gT rfl rfl (TL.opP rfl (op_gtr rfl rfl) (TL.opP rfl (op_pickF rfl rfl) (TL.opP rfl (op_assign rfl) (TL.nil (TQ.then ?_)))))))
           first | refine TC.condD rfl (fun c11 => ?_) (fun c11 => ?_) | refine TC.condB rfl (fun c11 => ?_) (fun c11 => ?_)
           ·refine TC.seq (TC.region (TL.opP rfl (op_assign rfl) (TL.nil (TQ.then (TC.ret (TQ.block_ret (TQ.then_ret ?_)))))))
            refine ret1 rfl rfl (fun w' hp => ?_)
            first
              | (exfalso; omega)
              | exact ⟨by rw [show lcls c = 0 from if_pos (by omega)], hp.kp⟩
              | exact ⟨by rw [show lcls c = 1 from (if_neg (by omega)).trans (if_pos (by omega))], hp.kp⟩
              | exact ⟨by rw [show lcls c = 2 from (if_neg (by omega)).trans (if_neg (by omega))], hp.kp⟩
           ·refine TC.skip (TQ.block_normal (TQ.then (TC.seq (TC.region (TL.opP rfl (op_assign rfl) (TL.nil (TQ.then (TC.ret ?_))))))))
            refine ret1 rfl rfl (fun w' hp => ?_)
            first
              | (exfalso; omega)
              | exact ⟨by rw [show lcls c = 0 from if_pos (by omega)], hp.kp⟩
              | exact ⟨by rw [show lcls c = 1 from (if_neg (by omega)).trans (if_pos (by omega))], hp.kp⟩
              | exact ⟨by rw [show lcls c = 2 from (if_neg (by omega)).trans (if_neg (by omega))], hp.kp⟩
        ·refine TL.gFf rfl rfl rfl (TL.gFf rfl rfl rfl (TL.gT rfl rfl (TL.opP rfl (op_pickF rfl rfl) (TL.opP rfl (op_pickF rfl rfl) (TL.opP rfl (op_move rfl) (TL.gT rfl rfl (TL.opP rfl (op_move rfl) (TL.gT rfl rfl (TL.opP rfl (op_eql rfl rfl) (TL.opP rfl (op_pickF rfl rfl) (TL.opP rfl (op_move rfl) ?_)))))))))))
         first | refine TL.splitD (fun c12 => ?_) (fun c12 => ?_) | refine TL.splitB (fun c12 => ?_) (fun c12 => ?_)
         ·refine TL.gFt rfl rfl rfl (TL.gFt rfl rfl rfl (TL.opP rfl (op_pickT rfl rfl) (TL.opP rfl (op_assign rfl) (TL.nil (TQ.then (TC.condT rfl (TC.seq (TC.region (TL.opP rfl (op_assign rfl) (TL.nil (TQ.then (TC.ret (TQ.block_ret (TQ.then_ret ?_))))))))))))))
          refine ret1 rfl rfl (fun w' hp => ?_)
          first
            | (exfalso; omega)
            | exact ⟨by rw [show lcls c = 0 from if_pos (by omega)], hp.kp⟩
            | exact ⟨by rw [show lcls c = 1 from (if_neg (by omega)).trans (if_pos (by omega))], hp.kp⟩
            | exact ⟨by rw [show lcls c = 2 from (if_neg (by omega)).trans (if_neg (by omega))], hp.kp⟩
         ·refine TL.gT rfl rfl (TL.opP rfl (op_move rfl) (TL.gT rfl rfl (TL.opP rfl (op_gtr rfl rfl) (TL.opP rfl (op_pickF rfl rfl) (TL.opP rfl (op_assign rfl) (TL.nil (TQ.then ?_)))))))
          first | refine TC.condD rfl (fun c13 => ?_) (fun c13 => ?_) | refine TC.condB rfl (fun c13 => ?_) (fun c13 => ?_)
          ·refine TC.seq (TC.region (TL.opP rfl (op_assign rfl) (TL.nil (TQ.then (TC.ret (TQ.block_ret (TQ.then_ret ?_)))))))
           refine ret1 rfl rfl (fun w' hp => ?_)
           first
             | (exfalso; omega)
             | exact ⟨by rw [show lcls c = 0 from if_pos (by omega)], hp.kp⟩
             | exact ⟨by rw [show lcls c = 1 from (if_neg (by omega)).trans (if_pos (by omega))], hp.kp⟩
             | exact ⟨by rw [show lcls c = 2 from (if_neg (by omega)).trans (if_neg (by omega))], hp.kp⟩
          ·refine TC.skip (TQ.block_normal (TQ.then (TC.seq (TC.region (TL.opP rfl (op_assign rfl) (TL.nil (TQ.then (TC.ret ?_))))))))
           refine ret1 rfl rfl (fun w' hp => ?_)
           first
             | (exfalso; omega)
             | exact ⟨by rw [show lcls c = 0 from if_pos (by omega)], hp.kp⟩
             | exact ⟨by rw [show lcls c = 1 from (if_neg (by omega)).trans (if_pos (by omega))], hp.kp⟩
             | exact ⟨by rw [show lcls c = 2 from (if_neg (by omega)).trans (if_neg (by omega))], hp.kp⟩
      ·refine TL.gFf rfl rfl rfl (TL.gFf rfl rfl rfl (TL.gT rfl rfl (TL.opP rfl (op_pickF rfl rfl) (TL.opP rfl (op_pickF rfl rfl) (TL.opP rfl (op_move rfl) (TL.gT rfl rfl (TL.opP rfl (op_move rfl) (TL.gT rfl rfl (TL.opP rfl (op_geq rfl rfl) (TL.gT rfl rfl (TL.opP rfl (op_move rfl) ?_)))))))))))
       first | refine TL.splitD (fun c14 => ?_) (fun c14 => ?_) | refine TL.splitB (fun c14 => ?_) (fun c14 => ?_)
       ·refine TL.gT rfl rfl (TL.opP rfl (op_move rfl) (TL.gT rfl rfl (TL.opP rfl (op_leq rfl rfl) (TL.gT rfl rfl (TL.opP rfl (op_pickT rfl rfl) (TL.opP rfl (op_pickF rfl rfl) (TL.opP rfl (op_move rfl) ?_)))))))
        first | refine TL.splitD (fun c15 => ?_) (fun c15 => ?_) | refine TL.splitB (fun c15 => ?_) (fun c15 => ?_)
        ·refine TL.gFt rfl rfl rfl (TL.gFt rfl rfl rfl (TL.opP rfl (op_pickT rfl rfl) (TL.opP rfl (op_move rfl) (TL.gFt rfl rfl rfl (TL.gFt rfl rfl rfl (TL.opP rfl (op_pickT rfl rfl) (TL.opP rfl (op_assign rfl) (TL.nil (TQ.then (TC.condT rfl (TC.seq (TC.region (TL.opP rfl (op_assign rfl) (TL.nil (TQ.then (TC.ret (TQ.block_ret (TQ.then_ret ?_))))))))))))))))))
         refine ret1 rfl rfl (fun w' hp => ?_)
         first
           | (exfalso; omega)
           | exact ⟨by rw [show lcls c = 0 from if_pos (by omega)], hp.kp⟩
           | exact ⟨by rw [show lcls c = 1 from (if_neg (by omega)).trans (if_pos (by omega))], hp.kp⟩
           | exact ⟨by rw [show lcls c = 2 from (if_neg (by omega)).trans (if_neg (by omega))], hp.kp⟩
        ·refine TL.gT rfl rfl (TL.opP rfl (op_move rfl) (TL.gT rfl rfl (TL.opP rfl (op_eql rfl rfl) (TL.opP rfl (op_pickF rfl rfl) (TL.opP rfl (op_move rfl) ?_)))))
         first | refine TL.splitD (fun c16 => ?_) (fun c16 => ?_) | refine TL.splitB (fun c16 => ?_) (fun c16 => ?_)
         ·refine TL.gFt rfl rfl rfl (TL.gFt rfl rfl rfl (TL.opP rfl (op_pickT rfl rfl) (TL.opP rfl (op_assign rfl) (TL.nil (TQ.then (TC.condT rfl (TC.seq (TC.region (TL.opP rfl (op_assign rfl) (TL.nil (TQ.then (TC.ret (TQ.block_ret (TQ.then_ret ?_))))))))))))))
          refine ret1 rfl rfl (fun w' hp => ?_)
          first
            | (exfalso; omega)
            | exact ⟨by rw [show lcls c = 0 from if_pos (by omega)], hp.kp⟩
            | exact ⟨by rw [show lcls c = 1 from (if_neg (by omega)).trans (if_pos (by omega))], hp.kp⟩
            | exact ⟨by rw [show lcls c = 2 from (if_neg (by omega)).trans (if_neg (by omega))], hp.kp⟩
         ·refine TL.gT rfl rfl (TL.opP rfl (op_move rfl) (TL.gT rfl rfl (TL.opP rfl (op_gtr rfl rfl) (TL.opP rfl (op_pickF rfl rfl) (TL.opP rfl (op_assign rfl) (TL.nil (TQ.then ?_)))))))
          first | refine TC.condD rfl (fun c17 => ?_) (fun c17 => ?_) | refine TC.condB rfl (fun c17 => ?_) (fun c17 => ?_)
          ·refine TC.seq (TC.region (TL.opP rfl (op_assign rfl) (TL.nil (TQ.then (TC.ret (TQ.block_ret (TQ.then_ret ?_)))))))
           refine ret1 rfl rfl (fun w' hp => ?_)
           first
             | (exfalso; omega)
             | exact ⟨by rw [show lcls c = 0 from if_pos (by omega)], hp.kp⟩
             | exact ⟨by rw [show lcls c = 1 from (if_neg (by omega)).trans (if_pos (by omega))], hp.kp⟩
             | exact ⟨by rw [show lcls c = 2 from (if_neg (by omega)).trans (if_neg (by omega))], hp.kp⟩
          ·refine TC.skip (TQ.block_normal (TQ.then (TC.seq (TC.region (TL.opP rfl (op_assign rfl) (TL.nil (TQ.then (TC.ret ?_))))))))
           refine ret1 rfl rfl (fun w' hp => ?_)
           first
             | (exfalso; omega)
             | exact ⟨by rw [show lcls c = 0 from if_pos (by omega)], hp.kp⟩
             | exact ⟨by rw [show lcls c = 1 from (if_neg (by omega)).trans (if_pos (by omega))], hp.kp⟩
             | exact ⟨by rw [show lcls c = 2 from (if_neg (by omega)).trans (if_neg (by omega))], hp.kp⟩
       ·refine TL.gFf rfl rfl rfl (TL.gFf rfl rfl rfl (TL.gT rfl rfl (TL.opP rfl (op_pickF rfl rfl) (TL.opP rfl (op_pickF rfl rfl) (TL.opP rfl (op_move rfl) (TL.gT rfl rfl (TL.opP rfl (op_move rfl) (TL.gT rfl rfl (TL.opP rfl (op_eql rfl rfl) (TL.opP rfl (op_pickF rfl rfl) (TL.opP rfl (op_move rfl) ?_)))))))))))
        first | refine TL.splitD (fun c18 => ?_) (fun c18 => ?_) | refine TL.splitB (fun c18 => ?_) (fun c18 => ?_)
        ·refine TL.gFt rfl rfl rfl (TL.gFt rfl rfl rfl (TL.opP rfl (op_pickT rfl rfl) (TL.opP rfl (op_assign rfl) (TL.nil (TQ.then (TC.condT rfl (TC.seq (TC.region (TL.opP rfl (op_assign rfl) (TL.nil (TQ.then (TC.ret (TQ.block_ret (TQ.then_ret ?_))))))))))))))
         refine ret1 rfl rfl (fun w' hp => ?_)
         first
           | (exfalso; omega)
           | exact ⟨by rw [show lcls c = 0 from if_pos (by omega)], hp.kp⟩
           | exact ⟨by rw [show lcls c = 1 from (if_neg (by omega)).trans (if_pos (by omega))], hp.kp⟩
           | exact ⟨by rw [show lcls c = 2 from (if_neg (by omega)).trans (if_neg (by omega))], hp.kp⟩
        ·refine TL.gT rfl rfl (TL.opP rfl (op_move rfl) (TL.gT rfl rfl (TL.opP rfl (op_gtr rfl rfl) (TL.opP rfl (op_pickF rfl rfl) (TL.opP rfl (op_assign rfl) (TL.nil (TQ.then ?_)))))))
         first | refine TC.condD rfl (fun c19 => ?_) (fun c19 => ?_) | refine TC.condB rfl (fun c19 => ?_) (fun c19 => ?_)
         ·refine TC.seq (TC.region (TL.opP rfl (op_assign rfl) (TL.nil (TQ.then (TC.ret (TQ.block_ret (TQ.then_ret ?_)))))))
          refine ret1 rfl rfl (fun w' hp => ?_)
          first
            | (exfalso; omega)
            | exact ⟨by rw [show lcls c = 0 from if_pos (by omega)], hp.kp⟩
            | exact ⟨by rw [show lcls c = 1 from (if_neg (by omega)).trans (if_pos (by omega))], hp.kp⟩
            | exact ⟨by rw [show lcls c = 2 from (if_neg (by omega)).trans (if_neg (by omega))], hp.kp⟩
         ·refine TC.skip (TQ.block_normal (TQ.then (TC.seq (TC.region (TL.opP rfl (op_assign rfl) (TL.nil (TQ.then (TC.ret ?_))))))))
          refine ret1 rfl rfl (fun w' hp => ?_)
          first
            | (exfalso; omega)
            | exact ⟨by rw [show lcls c = 0 from if_pos (by omega)], hp.kp⟩
            | exact ⟨by rw [show lcls c = 1 from (if_neg (by omega)).trans (if_pos (by omega))], hp.kp⟩
            | exact ⟨by rw [show lcls c = 2 from (if_neg (by omega)).trans (if_neg (by omega))], hp.kp⟩
    ·refine TL.gFf rfl rfl rfl (TL.gFf rfl rfl rfl (TL.opP rfl (op_pickF rfl rfl) (TL.opP rfl (op_move rfl) (TL.gT rfl rfl (TL.opP rfl (op_move rfl) (TL.gT rfl rfl (TL.opP rfl (op_geq rfl rfl) (TL.gT rfl rfl (TL.opP rfl (op_move rfl) ?_)))))))))
     first | refine TL.splitD (fun c20 => ?_) (fun c20 => ?_) | refine TL.splitB (fun c20 => ?_) (fun c20 => ?_)
     ·refine TL.gT rfl rfl (TL.opP rfl (op_move rfl) (TL.gT rfl rfl (TL.opP rfl (op_leq rfl rfl) (TL.gT rfl rfl (TL.opP rfl (op_pickT rfl rfl) (TL.opP rfl (op_pickF rfl rfl) (TL.opP rfl (op_move rfl) ?_)))))))
      first | refine TL.splitD (fun c21 => ?_) (fun c21 => ?_) | refine TL.splitB (fun c21 => ?_) (fun c21 => ?_)
      ·refine TL.gFt rfl rfl rfl (TL.gFt rfl rfl rfl (TL.gFt rfl rfl rfl (TL.gU rfl rfl rfl (TL.gU rfl rfl rfl (TL.gFt rfl rfl rfl (TL.opP rfl (op_pickT rfl rfl) (TL.opP rfl (op_move rfl) (TL.gFt rfl rfl rfl (TL.gFt rfl rfl rfl (TL.opP rfl (op_pickT rfl rfl) (TL.opP rfl (op_move rfl) (TL.gFt rfl rfl rfl (TL.gFt rfl rfl rfl (TL.opP rfl (op_pickT rfl rfl) (TL.opP rfl (op_assign rfl) (TL.nil (TQ.then (TC.condT rfl (TC.seq (TC.region (TL.opP rfl (op_assign rfl) (TL.nil (TQ.then (TC.ret (TQ.block_ret (TQ.then_ret ?_))))))))))))))))))))))))))
       refine ret1 rfl rfl (fun w' hp => ?_)
       first
         | (exfalso; omega)
         | exact ⟨by rw [show lcls c = 0 from if_pos (by omega)], hp.kp⟩
         | exact ⟨by rw [show lcls c = 1 from (if_neg (by omega)).trans (if_pos (by omega))], hp.kp⟩
         | exact ⟨by rw [show lcls c = 2 from (if_neg (by omega)).trans (if_neg (by omega))], hp.kp⟩
      ·refine TL.gT rfl rfl (TL.opP rfl (op_move rfl) (TL.gT rfl rfl (TL.opP rfl (op_geq rfl rfl) (TL.gT rfl rfl (TL.opP rfl (op_move rfl) ?_)))))
       first | refine TL.splitD (fun c22 => ?_) (fun c22 => ?_) | refine TL.splitB (fun c22 => ?_) (fun c22 => ?_)
       ·refine TL.gT rfl rfl (TL.opP rfl (op_move rfl) (TL.gT rfl rfl (TL.opP rfl (op_leq rfl rfl) (TL.gT rfl rfl (TL.opP rfl (op_pickT rfl rfl) (TL.opP rfl (op_pickF rfl rfl) (TL.opP rfl (op_move rfl) ?_)))))))
        first | refine TL.splitD (fun c23 => ?_) (fun c23 => ?_) | refine TL.splitB (fun c23 => ?_) (fun c23 => ?_)
        ·refine TL.gFt rfl rfl rfl (TL.gFt rfl rfl rfl (TL.opP rfl (op_pickT rfl rfl) (TL.opP rfl (op_move rfl) (TL.gFt rfl rfl rfl (TL.gFt rfl rfl rfl (TL.opP rfl (op_pickT rfl rfl) (TL.opP rfl (op_assign rfl) (TL.nil (TQ.then (TC.condT rfl (TC.seq (TC.region (TL.opP rfl (op_assign rfl) (TL.nil (TQ.then (TC.ret (TQ.block_ret (TQ.then_ret ?_))))))))))))))))))
         refine ret1 rfl rfl (fun w' hp => ?_)
         first
           | (exfalso; omega)
           | exact ⟨by rw [show lcls c = 0 from if_pos (by omega)], hp.kp⟩
           | exact ⟨by rw [show lcls c = 1 from (if_neg (by omega)).trans (if_pos (by omega))], hp.kp⟩
           | exact ⟨by rw [show lcls c = 2 from (if_neg (by omega)).trans (if_neg (by omega))], hp.kp⟩
        ·refine TL.gT rfl rfl (TL.opP rfl (op_move rfl) (TL.gT rfl rfl (TL.opP rfl (op_eql rfl rfl) (TL.opP rfl (op_pickF rfl rfl) (TL.opP rfl (op_move rfl) ?_)))))
         first | refine TL.splitD (fun c24 => ?_) (fun c24 => ?_) | refine TL.splitB (fun c24 => ?_) (fun c24 => ?_)
         ·refine TL.gFt rfl rfl rfl (TL.gFt rfl rfl rfl (TL.opP rfl (op_pickT rfl rfl) (TL.opP rfl (op_assign rfl) (TL.nil (TQ.then (TC.condT rfl (TC.seq (TC.region (TL.opP rfl (op_assign rfl) (TL.nil (TQ.then (TC.ret (TQ.block_ret (TQ.then_ret ?_))))))))))))))
          refine ret1 rfl rfl (fun w' hp => ?_)
          first
            | (exfalso; omega)
            | exact ⟨by rw [show lcls c = 0 from if_pos (by omega)], hp.kp⟩
            | exact ⟨by rw [show lcls c = 1 from (if_neg (by omega)).trans (if_pos (by omega))], hp.kp⟩
            | exact ⟨by rw [show lcls c = 2 from (if_neg (by omega)).trans (if_neg (by omega))], hp.kp⟩
         ·refine TL.gT rfl rfl (TL.opP rfl (op_move rfl) (TL.gT rfl rfl (TL.opP rfl (op_gtr rfl rfl) (TL.opP rfl (op_pickF rfl rfl) (TL.opP rfl (op_assign rfl) (TL.nil (TQ.then ?_)))))))
          first | refine TC.condD rfl (fun c25 => ?_) (fun c25 => ?_) | refine TC.condB rfl (fun c25 => ?_) (fun c25 => ?_)
          ·refine TC.seq (TC.region (TL.opP rfl (op_assign rfl) (TL.nil (TQ.then (TC.ret (TQ.block_ret (TQ.then_ret ?_)))))))
           refine ret1 rfl rfl (fun w' hp => ?_)
           first
             | (exfalso; omega)
             | exact ⟨by rw [show lcls c = 0 from if_pos (by omega)], hp.kp⟩
             | exact ⟨by rw [show lcls c = 1 from (if_neg (by omega)).trans (if_pos (by omega))], hp.kp⟩
             | exact ⟨by rw [show lcls c = 2 from (if_neg (by omega)).trans (if_neg (by omega))], hp.kp⟩
          ·refine TC.skip (TQ.block_normal (TQ.then (TC.seq (TC.region (TL.opP rfl (op_assign rfl) (TL.nil (TQ.then (TC.ret ?_))))))))
           refine ret1 rfl rfl (fun w' hp => ?_)
           first
             | (exfalso; omega)
             | exact ⟨by rw [show lcls c = 0 from if_pos (by omega)], hp.kp⟩
             | exact ⟨by rw [show lcls c = 1 from (if_neg (by omega)).trans (if_pos (by omega))], hp.kp⟩
             | exact ⟨by rw [show lcls c = 2 from (if_neg (by omega)).trans (if_neg (by omega))], hp.kp⟩
       ·refine TL.gFf rfl rfl rfl (TL.gFf rfl rfl rfl (TL.gT rfl rfl (TL.opP rfl (op_pickF rfl rfl) (TL.opP rfl (op_pickF rfl rfl) (TL.opP rfl (op_move rfl) (TL.gT rfl rfl (TL.opP rfl (op_move rfl) (TL.gT rfl rfl (TL.opP rfl (op_eql rfl rfl) (TL.opP rfl (op_pickF rfl rfl) (TL.opP rfl (op_move rfl) ?_)))))))))))
        first | refine TL.splitD (fun c26 => ?_) (fun c26 => ?_) | refine TL.splitB (fun c26 => ?_) (fun c26 => ?_)
        ·refine TL.gFt rfl rfl rfl (TL.gFt rfl rfl rfl (TL.opP rfl (op_pickT rfl rfl) (TL.opP rfl (op_assign rfl) (TL.nil (TQ.then (TC.condT rfl (TC.seq (TC.region (TL.opP rfl (op_assign rfl) (TL.nil (TQ.then (TC.ret (TQ.block_ret (TQ.then_ret ?_))))))))))))))
         refine ret1 rfl rfl (fun w' hp => ?_)
         first
           | (exfalso; omega)
           | exact ⟨by rw [show lcls c = 0 from if_pos (by omega)], hp.kp⟩
           | exact ⟨by rw [show lcls c = 1 from (if_neg (by omega)).trans (if_pos (by omega))], hp.kp⟩
           | exact ⟨by rw [show lcls c = 2 from (if_neg (by omega)).trans (if_neg (by omega))], hp.kp⟩
        ·refine TL.gT rfl rfl (TL.opP rfl (op_move rfl) (TL.gT rfl rfl (TL.opP rfl (op_gtr rfl rfl) (TL.opP rfl (op_pickF rfl rfl) (TL.opP rfl (op_assign rfl) (TL.nil (TQ.then ?_)))))))
         first | refine TC.condD rfl (fun c27 => ?_) (fun c27 => ?_) | refine TC.condB rfl (fun c27 => ?_) (fun c27 => ?_)
         ·refine TC.seq (TC.region (TL.opP rfl (op_assign rfl) (TL.nil (TQ.then (TC.ret (TQ.block_ret (TQ.then_ret ?_)))))))
          refine ret1 rfl rfl (fun w' hp => ?_)
          first
            | (exfalso; omega)
            | exact ⟨by rw [show lcls c = 0 from if_pos (by omega)], hp.kp⟩
            | exact ⟨by rw [show lcls c = 1 from (if_neg (by omega)).trans (if_pos (by omega))], hp.kp⟩
            | exact ⟨by rw [show lcls c = 2 from (if_neg (by omega)).trans (if_neg (by omega))], hp.kp⟩
         ·refine TC.skip (TQ.block_normal (TQ.then (TC.seq (TC.region (TL.opP rfl (op_assign rfl) (TL.nil (TQ.then (TC.ret ?_))))))))
          refine ret1 rfl rfl (fun w' hp => ?_)
          first
            | (exfalso; omega)
            | exact ⟨by rw [show lcls c = 0 from if_pos (by omega)], hp.kp⟩
            | exact ⟨by rw [show lcls c = 1 from (if_neg (by omega)).trans (if_pos (by omega))], hp.kp⟩
            | exact ⟨by rw [show lcls c = 2 from (if_neg (by omega)).trans (if_neg (by omega))], hp.kp⟩
     ·refine TL.gFf rfl rfl rfl (TL.gFf rfl rfl rfl (TL.gT rfl rfl (TL.opP rfl (op_pickF rfl rfl) (TL.opP rfl (op_pickF rfl rfl) (TL.opP rfl (op_move rfl) (TL.gT rfl rfl (TL.opP rfl (op_move rfl) (TL.gT rfl rfl (TL.opP rfl (op_geq rfl rfl) (TL.gT rfl rfl (TL.opP rfl (op_move rfl) ?_)))))))))))
      first | refine TL.splitD (fun c28 => ?_) (fun c28 => ?_) | refine TL.splitB (fun c28 => ?_) (fun c28 => ?_)
      ·refine TL.gT rfl rfl (TL.opP rfl (op_move rfl) (TL.gT rfl rfl (TL.opP rfl (op_leq rfl rfl) (TL.gT rfl rfl (TL.opP rfl (op_pickT rfl rfl) (TL.opP rfl (op_pickF rfl rfl) (TL.opP rfl (op_move rfl) ?_)))))))
       first | refine TL.splitD (fun c29 => ?_) (fun c29 => ?_) | refine TL.splitB (fun c29 => ?_) (fun c29 => ?_)
       ·refine TL.gFt rfl rfl rfl (TL.gFt rfl rfl rfl (TL.opP rfl (op_pickT rfl rfl) (TL.opP rfl (op_move rfl) (TL.gFt rfl rfl rfl (TL.gFt rfl rfl rfl (TL.opP rfl (op_pickT rfl rfl) (TL.opP rfl (op_assign rfl) (TL.nil (TQ.then (TC.condT rfl (TC.seq (TC.region (TL.opP rfl (op_assign rfl) (TL.nil (TQ.then (TC.ret (TQ.block_ret (TQ.then_ret ?_))))))))))))))))))
        refine ret1 rfl rfl (fun w' hp => ?_)
        first
          | (exfalso; omega)
          | exact ⟨by rw [show lcls c = 0 from if_pos (by omega)], hp.kp⟩
          | exact ⟨by rw [show lcls c = 1 from (if_neg (by omega)).trans (if_pos (by omega))], hp.kp⟩
          | exact ⟨by rw [show lcls c = 2 from (if_neg (by omega)).trans (if_neg (by omega))], hp.kp⟩
       ·refine TL.gT rfl rfl (TL.opP rfl (op_move rfl) (TL.gT rfl rfl (TL.opP rfl (op_eql rfl rfl) (TL.opP rfl (op_pickF rfl rfl) (TL.opP rfl (op_move rfl) ?_)))))
        first | refine TL.splitD (fun c30 => ?_) (fun c30 => ?_) | refine TL.splitB (fun c30 => ?_) (fun c30 => ?_)
        ·refine TL.gFt rfl rfl rfl (TL.gFt rfl rfl rfl (TL.opP rfl (op_pickT rfl rfl) (TL.opP rfl (op_assign rfl) (TL.nil (TQ.then (TC.condT rfl (TC.seq (TC.region (TL.opP rfl (op_assign rfl) (TL.nil (TQ.then (TC.ret (TQ.block_ret (TQ.then_ret ?_))))))))))))))
         refine ret1 rfl rfl (fun w' hp => ?_)
         first
           | (exfalso; omega)
           | exact ⟨by rw [show lcls c = 0 from if_pos (by omega)], hp.kp⟩
           | exact ⟨by rw [show lcls c = 1 from (if_neg (by omega)).trans (if_pos (by omega))], hp.kp⟩
           | exact ⟨by rw [show lcls c = 2 from (if_neg (by omega)).trans (if_neg (by omega))], hp.kp⟩
        ·refine TL.gT rfl rfl (TL.opP rfl (op_move rfl) (TL.gT rfl rfl (TL.opP rfl (op_gtr rfl rfl) (TL.opP rfl (op_pickF rfl rfl) (TL.opP rfl (op_assign rfl) (TL.nil (TQ.then ?_)))))))
         first | refine TC.condD rfl (fun c31 => ?_) (fun c31 => ?_) | refine TC.condB rfl (fun c31 => ?_) (fun c31 => ?_)
         ·refine TC.seq (TC.region (TL.opP rfl (op_assign rfl) (TL.nil (TQ.then (TC.ret (TQ.block_ret (TQ.then_ret ?_)))))))
          refine ret1 rfl rfl (fun w' hp => ?_)
          first
            | (exfalso; omega)
            | exact ⟨by rw [show lcls c = 0 from if_pos (by omega)], hp.kp⟩
            | exact ⟨by rw [show lcls c = 1 from (if_neg (by omega)).trans (if_pos (by omega))], hp.kp⟩
            | exact ⟨by rw [show lcls c = 2 from (if_neg (by omega)).trans (if_neg (by omega))], hp.kp⟩
         ·refine TC.skip (TQ.block_normal (TQ.then (TC.seq (TC.region (TL.opP rfl (op_assign rfl) (TL.nil (TQ.then (TC.ret ?_))))))))
          refine ret1 rfl rfl (fun w' hp => ?_)
          first
            | (exfalso; omega)
            | exact ⟨by rw [show lcls c = 0 from if_pos (by omega)], hp.kp⟩
            | exact ⟨by rw [show lcls c = 1 from (if_neg (by omega)).trans (if_pos (by omega))], hp.kp⟩
            | exact ⟨by rw [show lcls c = 2 from (if_neg (by omega)).trans (if_neg (by omega))], hp.kp⟩
      ·refine TL.gFf rfl rfl rfl (TL.gFf rfl rfl rfl (TL.gT rfl rfl (TL.opP rfl (op_pickF rfl rfl) (TL.opP rfl (op_pickF rfl rfl) (TL.opP rfl (op_move rfl) (TL.gT rfl rfl (TL.opP rfl (op_move rfl) (TL.gT rfl rfl (TL.opP rfl (op_eql rfl rfl) (TL.opP rfl (op_pickF rfl rfl) (TL.opP rfl (op_move rfl) ?_)))))))))))
       first | refine TL.splitD (fun c32 => ?_) (fun c32 => ?_) | refine TL.splitB (fun c32 => ?_) (fun c32 => ?_)
       ·refine TL.gFt rfl rfl rfl (TL.gFt rfl rfl rfl (TL.opP rfl (op_pickT rfl rfl) (TL.opP rfl (op_assign rfl) (TL.nil (TQ.then (TC.condT rfl (TC.seq (TC.region (TL.opP rfl (op_assign rfl) (TL.nil (TQ.then (TC.ret (TQ.block_ret (TQ.then_ret ?_))))))))))))))
        refine ret1 rfl rfl (fun w' hp => ?_)
        first
          | (exfalso; omega)
          | exact ⟨by rw [show lcls c = 0 from if_pos (by omega)], hp.kp⟩
          | exact ⟨by rw [show lcls c = 1 from (if_neg (by omega)).trans (if_pos (by omega))], hp.kp⟩
          | exact ⟨by rw [show lcls c = 2 from (if_neg (by omega)).trans (if_neg (by omega))], hp.kp⟩
       ·refine TL.gT rfl rfl (TL.opP rfl (op_move rfl) (TL.gT rfl rfl (TL.opP rfl (op_gtr rfl rfl) (TL.opP rfl (op_pickF rfl rfl) (TL.opP rfl (op_assign rfl) (TL.nil (TQ.then ?_)))))))
        first | refine TC.condD rfl (fun c33 => ?_) (fun c33 => ?_) | refine TC.condB rfl (fun c33 => ?_) (fun c33 => ?_)
        ·refine TC.seq (TC.region (TL.opP rfl (op_assign rfl) (TL.nil (TQ.then (TC.ret (TQ.block_ret (TQ.then_ret ?_)))))))
         refine ret1 rfl rfl (fun w' hp => ?_)
         first
           | (exfalso; omega)
           | exact ⟨by rw [show lcls c = 0 from if_pos (by omega)], hp.kp⟩
           | exact ⟨by rw [show lcls c = 1 from (if_neg (by omega)).trans (if_pos (by omega))], hp.kp⟩
           | exact ⟨by rw [show lcls c = 2 from (if_neg (by omega)).trans (if_neg (by omega))], hp.kp⟩
        ·refine TC.skip (TQ.block_normal (TQ.then (TC.seq (TC.region (TL.opP rfl (op_assign rfl) (TL.nil (TQ.then (TC.ret ?_))))))))
         refine ret1 rfl rfl (fun w' hp => ?_)
         first
           | (exfalso; omega)
           | exact ⟨by rw [show lcls c = 0 from if_pos (by omega)], hp.kp⟩
           | exact ⟨by rw [show lcls c = 1 from (if_neg (by omega)).trans (if_pos (by omega))], hp.kp⟩
           | exact ⟨by rw [show lcls c = 2 from (if_neg (by omega)).trans (if_neg (by omega))], hp.kp⟩

theorem lline_x (l : List Int) (tv bv : Value) (g : Nat) (hxt : Rdb F tv 1 l.length (l.map (Value.int .i32))) (hxb : Rdb F bv 1 (begs l).length ((begs l).map nv)) (k : Int) :
    CallX Tryd.prog 31 [.pointer (some ⟨g, 0, none⟩), .int .i64 k] S w0 (.blk g (.cells [tv, bv, .bool true].toArray 58 (0, 0)) :: F) (fun u L' => u = .tuple #[.string (lineF l k), .int .i64 (lineE l k)] ∧ L' = .blk g (.cells [tv, bv, .bool true].toArray 58 (0, 0)) :: F) := by
 intro w hp
 have hxtl := hxt.cons.lenLe hp
 have hxbl := hxb.cons.lenLe hp
 refine calls_start Tryd.func31 rfl rfl rfl (hp) ?_
 refine TC.seq (TC.region (TL.opP rfl (op_assign rfl) (TL.opP rfl (op_assign rfl) (TL.nil (TQ.then (TC.seq (TC.block (TC.seq (TC.region (TL.opP rfl (op_move rfl) ?_))))))))))
 refine TL.opX rfl (OpX.callX en_65 rfl (ldead_x _ _ true _)) ?_; rintro _ _ ⟨rfl, rfl⟩
 refine TL.opP rfl (op_assign rfl) (TL.nil (TQ.then ?_))
 first | refine TC.condD rfl (fun c1 => ?_) (fun c1 => ?_) | refine TC.condB rfl (fun c1 => ?_) (fun c1 => ?_)
 ·exact absurd c1 (by decide)
 ·refine TC.seq (TC.region (TL.opP rfl (op_move rfl) (TL.opP rfl (op_lss rfl rfl) (TL.opP rfl (op_move rfl) ?_))))
  first | refine TL.splitD (fun c2 => ?_) (fun c2 => ?_) | refine TL.splitB (fun c2 => ?_) (fun c2 => ?_)
  ·refine TL.gFt rfl rfl rfl (TL.gFt rfl rfl rfl (TL.gFt rfl rfl rfl (TL.gFt rfl rfl rfl (TL.gFt rfl rfl rfl (TL.gFt rfl rfl rfl (TL.gFt rfl rfl rfl (TL.opP rfl (op_pickT rfl rfl) (TL.opP rfl (op_assign rfl) (TL.nil (TQ.then (TC.condT rfl (TC.seq (TC.region (TL.opP rfl (op_assign rfl) (TL.opP rfl (op_assign rfl) (TL.nil (TQ.then (TC.ret (TQ.block_ret (TQ.then_ret ?_))))))))))))))))))))
   refine ret2 rfl rfl rfl (fun w' hp => ?_)
   first
     | (have hn : noLine l k := by unfold noLine; omega
        exact ⟨_, _, rfl, ⟨by rw [show lineF l k = _ from if_pos hn, show lineE l k = 1 from if_pos hn], rfl⟩, (hp)⟩)
     | exact ⟨_, _, rfl, ⟨by rw [show lineF l j = _ from if_neg hnl, show lineE l j = 0 from if_neg hnl], rfl⟩, (hp)⟩
  ·refine TL.gT rfl rfl (TL.opP rfl (op_move rfl) (TL.gT rfl rfl (TL.opP rfl (op_move rfl) (TL.gT rfl rfl (TL.opP rfl (op_nilCheck rfl) (TL.gT rfl rfl (TL.opP rfl (op_field fld_lines_Index_begin rfl) (TL.gT rfl rfl (TL.opV rfl (op_load ts_sl_int rfl m0 rfl) (TL.gT rfl rfl (TL.opV rfl (op_lenV rfl un_sl_int rfl hxb.cons) (TL.gT rfl rfl (TL.opP rfl (op_geq rfl rfl) (TL.opP rfl (op_pickF rfl rfl) (TL.opP rfl (op_assign rfl) (TL.nil (TQ.then ?_)))))))))))))))))
   first | refine TC.condD rfl (fun c3 => ?_) (fun c3 => ?_) | refine TC.condB rfl (fun c3 => ?_) (fun c3 => ?_)
   ·refine TC.seq (TC.region (TL.opP rfl (op_assign rfl) (TL.opP rfl (op_assign rfl) (TL.nil (TQ.then (TC.ret (TQ.block_ret (TQ.then_ret ?_))))))))
    refine ret2 rfl rfl rfl (fun w' hp => ?_)
    first
      | (have hn : noLine l k := by unfold noLine; omega
         exact ⟨_, _, rfl, ⟨by rw [show lineF l k = _ from if_pos hn, show lineE l k = 1 from if_pos hn], rfl⟩, (hp)⟩)
      | exact ⟨_, _, rfl, ⟨by rw [show lineF l j = _ from if_neg hnl, show lineE l j = 0 from if_neg hnl], rfl⟩, (hp)⟩
   ·have hnl : ¬ noLine l k := by unfold noLine; omega
    have hkk : (k.toNat : Int) = k := by omega
    have hbe := bg_en hnl
    have hkl : k.toNat < (begs l).length := by omega
    obtain ⟨j, rfl⟩ : ∃ j : Nat, k = j := ⟨k.toNat, hkk.symm⟩
    simp only [Int.toNat_natCast] at hkl
    have hbg : bg l (j : Int) = (begs l).getD j 0 := rfl
    have hen : en l (j : Int) = endOf l j := rfl
    refine TC.skip (TQ.block_normal (TQ.then (TC.seq (TC.draw [] (.cons (.p, 0) (.cons (.p, 1) (.cons (.p, 2) (.cons (.p, 4) (.cons (.p, 5) (.cons (.p, 6) (.cons (.p, 8) (.cons (.p, 11) (.cons (.p, 12) (.cons (.t, 3) (.cons (.t, 7) (.cons (.t, 9) (.cons (.t, 10) (.cons (.o, 13) (.cons (.t, 14) (.cons (.t, 15) (.cons (.p, 16) (.cons (.p, 17) (.nil))))))))))))))))))) mo (by kernel_rfl) (TR.p rfl rfl wt0 (op_move rfl) (TR.p rfl rfl wt0 (op_nilCheck rfl) (TR.p rfl rfl wt0 (op_field fld_lines_Index_text rfl) (TR.p rfl rfl wt0 (op_move rfl) (TR.p rfl rfl wt0 (op_nilCheck rfl) (TR.p rfl rfl wt0 (op_field fld_lines_Index_begin rfl) (TR.p rfl rfl wt0 (op_move rfl) (TR.p rfl rfl wt0 (op_move rfl) (TR.p rfl rfl wt0 (op_move rfl) ?_)))))))))))))
    refine TR.t rfl rfl wt0 (op_load ts_sl_int32 rfl m0 rfl) (fun _ h => h) (TR.t rfl rfl wt0 (op_load ts_sl_int rfl m0 rfl) (fun _ h => h) (TR.t rfl rfl wt0 (op_index tsl_int rfl hxb.cons rfl (by omega) (by omega)) (fun _ h => h) (TR.t rfl rfl wt0 (op_loadR ts_int rfl hxb.cons (lkM (f := nv) (i := j) (d := 0) (by omega) rfl (by omega))) (fun _ h => h) ?_)))
    refine TR.o rfl rfl wt0 (OpX.callX en_71 rfl (lends_x l _ _ _ hxt hxb j (by omega))) (by rintro _ _ ⟨rfl, rfl⟩; intro w h; exact h) ?_; rintro _ _ ⟨rfl, rfl⟩
    refine TR.t rfl rfl wt0 (op_cut (bg l j) (en l j) tsl_int32 rfl hxt.cons (vlo := (some _)) (vhi := (some _)) rfl rfl (.inr ⟨_, _, rfl, by omega⟩) (.inr ⟨_, _, rfl, by omega⟩) (by omega) (by omega)) (fun _ h => h) (TR.t rfl rfl wt0 (op_unrunes tsl_int32 un_int32 un_string rfl (ints_cut hxt.cons (bg l j) (en l j) hbe.1 hbe.2)) (fun _ h => h) (TR.p rfl rfl wt0 (op_assign rfl) (TR.p rfl rfl wt0 (op_assign rfl) (TR.nil (TQ.then (TC.ret ?_))))))
    refine ret2 rfl rfl rfl (fun w' hp => ?_)
    first
      | (have hn : noLine l k := by unfold noLine; omega
         exact ⟨_, _, rfl, ⟨by rw [show lineF l k = _ from if_pos hn, show lineE l k = 1 from if_pos hn], rfl⟩, (hp)⟩)
      | exact ⟨_, _, rfl, ⟨by rw [show lineF l j = _ from if_neg hnl, show lineE l j = 0 from if_neg hnl], rfl⟩, (hp)⟩

theorem lat_x (l : List Int) (tv bv : Value) (g : Nat) (hxt : Rdb F tv 1 l.length (l.map (Value.int .i32))) (hxb : Rdb F bv 1 (begs l).length ((begs l).map nv)) (k c : Int) :
    CallX Tryd.prog 30 [.pointer (some ⟨g, 0, none⟩), .int .i64 k, .int .i64 c] S w0 (.blk g (.cells [tv, bv, .bool true].toArray 58 (0, 0)) :: F) (fun u L' => u = .tuple #[.int .i64 (atF l k c), .int .i64 (atE l k c)] ∧ L' = .blk g (.cells [tv, bv, .bool true].toArray 58 (0, 0)) :: F) := by
 intro w hp
 have hxtl := hxt.cons.lenLe hp
 have hxbl := hxb.cons.lenLe hp
 refine calls_start Tryd.func30 rfl rfl rfl (hp) ?_
 refine TC.seq (TC.region (TL.opP rfl (op_assign rfl) (TL.opP rfl (op_assign rfl) (TL.nil (TQ.then (TC.seq (TC.block (TC.seq (TC.region (TL.opP rfl (op_move rfl) ?_))))))))))
 refine TL.opX rfl (OpX.callX en_65 rfl (ldead_x _ _ true _)) ?_; rintro _ _ ⟨rfl, rfl⟩
 refine TL.opP rfl (op_assign rfl) (TL.nil (TQ.then ?_))
 first | refine TC.condD rfl (fun c1 => ?_) (fun c1 => ?_) | refine TC.condB rfl (fun c1 => ?_) (fun c1 => ?_)
 ·exact absurd c1 (by decide)
 ·refine TC.seq (TC.region (TL.opP rfl (op_move rfl) (TL.opP rfl (op_lss rfl rfl) (TL.opP rfl (op_move rfl) ?_))))
  first | refine TL.splitD (fun c2 => ?_) (fun c2 => ?_) | refine TL.splitB (fun c2 => ?_) (fun c2 => ?_)
  ·refine TL.gFt rfl rfl rfl (TL.gFt rfl rfl rfl (TL.gFt rfl rfl rfl (TL.gFt rfl rfl rfl (TL.gFt rfl rfl rfl (TL.gFt rfl rfl rfl (TL.gFt rfl rfl rfl (TL.opP rfl (op_pickT rfl rfl) (TL.opP rfl (op_move rfl) (TL.gFt rfl rfl rfl (TL.gFt rfl rfl rfl (TL.opP rfl (op_pickT rfl rfl) (TL.opP rfl (op_assign rfl) (TL.nil (TQ.then (TC.condT rfl (TC.seq (TC.region (TL.opP rfl (op_assign rfl) (TL.opP rfl (op_assign rfl) (TL.nil (TQ.then (TC.ret (TQ.block_ret (TQ.then_ret ?_))))))))))))))))))))))))
   refine ret2 rfl rfl rfl (fun w' hp => ?_)
   first
     | (have hn : noLine l k ∨ c < 0 := by unfold noLine; omega
        exact ⟨_, _, rfl, ⟨by rw [show atF l k c = _ from if_pos hn, show atE l k c = 1 from if_pos hn], rfl⟩, (hp)⟩)
     | (have hn : ¬ (noLine l (j : Int) ∨ c < 0) := by rintro (a | a); exact hnl a; omega
        have h1 : (((begs l).getD j 0 : Nat) : Int) + minI c ((endOf l j : Int) - ((begs l).getD j 0 : Nat)) = atF l j c := by
          unfold atF; rw [if_neg hn, hbg, hen]; unfold minI; split <;> omega
        exact ⟨_, _, rfl, ⟨by (rw [← h1, show atE l j c = 0 from if_neg hn]; first | done | rfl), rfl⟩, (hp)⟩)
  ·refine TL.gT rfl rfl (TL.opP rfl (op_move rfl) (TL.gT rfl rfl (TL.opP rfl (op_move rfl) (TL.gT rfl rfl (TL.opP rfl (op_nilCheck rfl) (TL.gT rfl rfl (TL.opP rfl (op_field fld_lines_Index_begin rfl) (TL.gT rfl rfl (TL.opV rfl (op_load ts_sl_int rfl m0 rfl) (TL.gT rfl rfl (TL.opV rfl (op_lenV rfl un_sl_int rfl hxb.cons) (TL.gT rfl rfl (TL.opP rfl (op_geq rfl rfl) (TL.opP rfl (op_pickF rfl rfl) (TL.opP rfl (op_move rfl) ?_)))))))))))))))
   first | refine TL.splitD (fun c3 => ?_) (fun c3 => ?_) | refine TL.splitB (fun c3 => ?_) (fun c3 => ?_)
   ·refine TL.gFt rfl rfl rfl (TL.gFt rfl rfl rfl (TL.opP rfl (op_pickT rfl rfl) (TL.opP rfl (op_assign rfl) (TL.nil (TQ.then (TC.condT rfl (TC.seq (TC.region (TL.opP rfl (op_assign rfl) (TL.opP rfl (op_assign rfl) (TL.nil (TQ.then (TC.ret (TQ.block_ret (TQ.then_ret ?_)))))))))))))))
    refine ret2 rfl rfl rfl (fun w' hp => ?_)
    first
      | (have hn : noLine l k ∨ c < 0 := by unfold noLine; omega
         exact ⟨_, _, rfl, ⟨by rw [show atF l k c = _ from if_pos hn, show atE l k c = 1 from if_pos hn], rfl⟩, (hp)⟩)
      | (have hn : ¬ (noLine l (j : Int) ∨ c < 0) := by rintro (a | a); exact hnl a; omega
         have h1 : (((begs l).getD j 0 : Nat) : Int) + minI c ((endOf l j : Int) - ((begs l).getD j 0 : Nat)) = atF l j c := by
           unfold atF; rw [if_neg hn, hbg, hen]; unfold minI; split <;> omega
         exact ⟨_, _, rfl, ⟨by (rw [← h1, show atE l j c = 0 from if_neg hn]; first | done | rfl), rfl⟩, (hp)⟩)
   ·refine TL.gT rfl rfl (TL.opP rfl (op_move rfl) (TL.gT rfl rfl (TL.opP rfl (op_lss rfl rfl) (TL.opP rfl (op_pickF rfl rfl) (TL.opP rfl (op_assign rfl) (TL.nil (TQ.then ?_)))))))
    first | refine TC.condD rfl (fun c4 => ?_) (fun c4 => ?_) | refine TC.condB rfl (fun c4 => ?_) (fun c4 => ?_)
    ·refine TC.seq (TC.region (TL.opP rfl (op_assign rfl) (TL.opP rfl (op_assign rfl) (TL.nil (TQ.then (TC.ret (TQ.block_ret (TQ.then_ret ?_))))))))
     refine ret2 rfl rfl rfl (fun w' hp => ?_)
     first
       | (have hn : noLine l k ∨ c < 0 := by unfold noLine; omega
          exact ⟨_, _, rfl, ⟨by rw [show atF l k c = _ from if_pos hn, show atE l k c = 1 from if_pos hn], rfl⟩, (hp)⟩)
       | (have hn : ¬ (noLine l (j : Int) ∨ c < 0) := by rintro (a | a); exact hnl a; omega
          have h1 : (((begs l).getD j 0 : Nat) : Int) + minI c ((endOf l j : Int) - ((begs l).getD j 0 : Nat)) = atF l j c := by
            unfold atF; rw [if_neg hn, hbg, hen]; unfold minI; split <;> omega
          exact ⟨_, _, rfl, ⟨by (rw [← h1, show atE l j c = 0 from if_neg hn]; first | done | rfl), rfl⟩, (hp)⟩)
    ·have hnl : ¬ noLine l k := by unfold noLine; omega
     have hkk : (k.toNat : Int) = k := by omega
     have hbe := bg_en hnl
     have hkl : k.toNat < (begs l).length := by omega
     obtain ⟨j, rfl⟩ : ∃ j : Nat, k = j := ⟨k.toNat, hkk.symm⟩
     simp only [Int.toNat_natCast] at hkl
     have hbg : bg l (j : Int) = (begs l).getD j 0 := rfl
     have hen : en l (j : Int) = endOf l j := rfl
     have hmn := minI_le c ((endOf l j : Int) - ((begs l).getD j 0 : Nat))
     have hm0 : 0 ≤ minI c ((endOf l j : Int) - ((begs l).getD j 0 : Nat)) := by unfold minI; split <;> omega
     refine TC.skip (TQ.block_normal (TQ.then (TC.seq (TC.draw [] (.cons (.p, 0) (.cons (.p, 1) (.cons (.p, 2) (.cons (.p, 4) (.cons (.p, 7) (.cons (.p, 8) (.cons (.p, 9) (.cons (.p, 11) (.cons (.p, 12) (.cons (.p, 13) (.cons (.p, 15) (.cons (.t, 3) (.cons (.t, 5) (.cons (.t, 6) (.cons (.t, 14) (.cons (.t, 16) (.cons (.t, 17) (.cons (.o, 10) (.cons (.p, 18) (.cons (.p, 19) (.cons (.p, 20) (.cons (.p, 21) (.cons (.p, 22) (.nil)))))))))))))))))))))))) mo (by kernel_rfl) (TR.p rfl rfl wt0 (op_move rfl) (TR.p rfl rfl wt0 (op_nilCheck rfl) (TR.p rfl rfl wt0 (op_field fld_lines_Index_begin rfl) (TR.p rfl rfl wt0 (op_move rfl) (TR.p rfl rfl wt0 (op_move rfl) (TR.p rfl rfl wt0 (op_move rfl) (TR.p rfl rfl wt0 (op_move rfl) ?_)))))))))))
     refine TR.p rfl rfl wt0 (op_move rfl) (TR.p rfl rfl wt0 (op_nilCheck rfl) (TR.p rfl rfl wt0 (op_field fld_lines_Index_begin rfl) (TR.p rfl rfl wt0 (op_move rfl) (TR.t rfl rfl wt0 (op_load ts_sl_int rfl m0 rfl) (fun _ h => h) (TR.t rfl rfl wt0 (op_index tsl_int rfl hxb.cons rfl (by omega) (by omega)) (fun _ h => h) (TR.t rfl rfl wt0 (op_loadR ts_int rfl hxb.cons (lkM (f := nv) (i := j) (d := 0) (by omega) rfl (by omega))) (fun _ h => h) (TR.t rfl rfl wt0 (op_load ts_sl_int rfl m0 rfl) (fun _ h => h) (TR.t rfl rfl wt0 (op_index tsl_int rfl hxb.cons rfl (by omega) (by omega)) (fun _ h => h) (TR.t rfl rfl wt0 (op_loadR ts_int rfl hxb.cons (lkM (f := nv) (i := j) (d := 0) (by omega) rfl (by omega))) (fun _ h => h) ?_)))))))))
     refine TR.o rfl rfl wt0 (OpX.callX en_71 rfl (lends_x l _ _ _ hxt hxb j (by omega))) (by rintro _ _ ⟨rfl, rfl⟩; intro w h; exact h) ?_; rintro _ _ ⟨rfl, rfl⟩
     refine TR.p rfl rfl wt0 (op_sub rfl rfl rfl (by omega) (by omega)) (TR.p rfl rfl wt0 (op_min rfl) (TR.p rfl rfl wt0 (op_add rfl rfl rfl (by omega) (by omega)) (TR.p rfl rfl wt0 (op_assign rfl) (TR.p rfl rfl wt0 (op_assign rfl) (TR.nil (TQ.then (TC.ret ?_)))))))
     refine ret2 rfl rfl rfl (fun w' hp => ?_)
     first
       | (have hn : noLine l k ∨ c < 0 := by unfold noLine; omega
          exact ⟨_, _, rfl, ⟨by rw [show atF l k c = _ from if_pos hn, show atE l k c = 1 from if_pos hn], rfl⟩, (hp)⟩)
       | (have hn : ¬ (noLine l (j : Int) ∨ c < 0) := by rintro (a | a); exact hnl a; omega
          have h1 : (((begs l).getD j 0 : Nat) : Int) + minI c ((endOf l j : Int) - ((begs l).getD j 0 : Nat)) = atF l j c := by
            unfold atF; rw [if_neg hn, hbg, hen]; unfold minI; split <;> omega
          exact ⟨_, _, rfl, ⟨by (rw [← h1, show atE l j c = 0 from if_neg hn]; first | done | rfl), rfl⟩, (hp)⟩)

theorem lwhere_x (l : List Int) (tv bv : Value) (g : Nat) (hxt : Rdb F tv 1 l.length (l.map (Value.int .i32))) (hxb : Rdb F bv 1 (begs l).length ((begs l).map nv)) (i : Int) (hln : l.length ≤ 1048576) :
    CallX Tryd.prog 29 [.pointer (some ⟨g, 0, none⟩), .int .i64 i] S w0 (.blk g (.cells [tv, bv, .bool true].toArray 58 (0, 0)) :: F) (fun u L' => u = .tuple #[.int .i64 (whL l i), .int .i64 (whC l i), .int .i64 (whE l i)] ∧ L' = .blk g (.cells [tv, bv, .bool true].toArray 58 (0, 0)) :: F) := by
 intro w hp
 have hxtl := hxt.cons.lenLe hp
 have hxbl := hxb.cons.lenLe hp
 refine calls_start Tryd.func29 rfl rfl rfl (hp) ?_
 refine TC.seq (TC.region (TL.opP rfl (op_assign rfl) (TL.opP rfl (op_assign rfl) (TL.opP rfl (op_assign rfl) (TL.nil (TQ.then (TC.seq (TC.block (TC.seq (TC.region (TL.opP rfl (op_move rfl) ?_)))))))))))
 refine TL.opX rfl (OpX.callX en_65 rfl (ldead_x _ _ true _)) ?_; rintro _ _ ⟨rfl, rfl⟩
 refine TL.opP rfl (op_assign rfl) (TL.nil (TQ.then ?_))
 first | refine TC.condD rfl (fun c1 => ?_) (fun c1 => ?_) | refine TC.condB rfl (fun c1 => ?_) (fun c1 => ?_)
 ·exact absurd c1 (by decide)
 ·refine TC.seq (TC.region (TL.opP rfl (op_move rfl) (TL.opP rfl (op_lss rfl rfl) (TL.opP rfl (op_move rfl) ?_))))
  first | refine TL.splitD (fun c2 => ?_) (fun c2 => ?_) | refine TL.splitB (fun c2 => ?_) (fun c2 => ?_)
  ·refine TL.gFt rfl rfl rfl (TL.gFt rfl rfl rfl (TL.gFt rfl rfl rfl (TL.gFt rfl rfl rfl (TL.gFt rfl rfl rfl (TL.gFt rfl rfl rfl (TL.gFt rfl rfl rfl (TL.opP rfl (op_pickT rfl rfl) (TL.opP rfl (op_assign rfl) (TL.nil (TQ.then (TC.condT rfl (TC.seq (TC.region (TL.opP rfl (op_assign rfl) (TL.opP rfl (op_assign rfl) (TL.opP rfl (op_assign rfl) (TL.nil (TQ.then (TC.ret (TQ.block_ret (TQ.then_ret ?_)))))))))))))))))))))
   refine ret3 rfl rfl rfl rfl (fun w' hp => ?_)
   first
     | (have hn : noAt l i := by unfold noAt; omega
        exact ⟨_, _, rfl, ⟨by rw [show whL l i = 0 from if_pos hn, show whC l i = 0 from if_pos hn, show whE l i = 1 from if_pos hn], rfl⟩, (hp)⟩)
     | exact ⟨_, _, rfl, ⟨by (rw [show whL l i = _ from if_neg hni, show whC l i = _ from if_neg hni, show whE l i = 0 from if_neg hni, Int.toNat_natCast, ← e1, ← e2]; first | done | rfl), rfl⟩, (hp)⟩
  ·refine TL.gT rfl rfl (TL.opP rfl (op_move rfl) (TL.gT rfl rfl (TL.opP rfl (op_move rfl) (TL.gT rfl rfl (TL.opP rfl (op_nilCheck rfl) (TL.gT rfl rfl (TL.opP rfl (op_field fld_lines_Index_text rfl) (TL.gT rfl rfl (TL.opV rfl (op_load ts_sl_int32 rfl m0 rfl) (TL.gT rfl rfl (TL.opV rfl (op_lenV rfl un_sl_int32 rfl hxt.cons) (TL.gT rfl rfl (TL.opP rfl (op_gtr rfl rfl) (TL.opP rfl (op_pickF rfl rfl) (TL.opP rfl (op_assign rfl) (TL.nil (TQ.then ?_)))))))))))))))))
   first | refine TC.condD rfl (fun c3 => ?_) (fun c3 => ?_) | refine TC.condB rfl (fun c3 => ?_) (fun c3 => ?_)
   ·refine TC.seq (TC.region (TL.opP rfl (op_assign rfl) (TL.opP rfl (op_assign rfl) (TL.opP rfl (op_assign rfl) (TL.nil (TQ.then (TC.ret (TQ.block_ret (TQ.then_ret ?_)))))))))
    refine ret3 rfl rfl rfl rfl (fun w' hp => ?_)
    first
      | (have hn : noAt l i := by unfold noAt; omega
         exact ⟨_, _, rfl, ⟨by rw [show whL l i = 0 from if_pos hn, show whC l i = 0 from if_pos hn, show whE l i = 1 from if_pos hn], rfl⟩, (hp)⟩)
      | exact ⟨_, _, rfl, ⟨by (rw [show whL l i = _ from if_neg hni, show whC l i = _ from if_neg hni, show whE l i = 0 from if_neg hni, Int.toNat_natCast, ← e1, ← e2]; first | done | rfl), rfl⟩, (hp)⟩
   ·have hni : ¬ noAt l i := by unfold noAt; omega
    obtain ⟨i, rfl⟩ : ∃ j : Nat, i = j := ⟨i.toNat, by omega⟩
    have hbl := begs_len l
    refine TC.skip (TQ.block_normal (TQ.then (TC.seq (TC.draw [] (.cons (.p, 0) (.cons (.p, 1) (.cons (.p, 2) (.cons (.p, 5) (.cons (.t, 3) (.cons (.t, 4) (.cons (.p, 6) (.nil)))))))) mo (by kernel_rfl) (TR.p rfl rfl wt0 (op_move rfl) (TR.p rfl rfl wt0 (op_nilCheck rfl) (TR.p rfl rfl wt0 (op_field fld_lines_Index_begin rfl) (TR.p rfl rfl wt0 (op_assign rfl) (TR.t rfl rfl wt0 (op_load ts_sl_int rfl m0 rfl) (fun _ h => h) (TR.t rfl rfl wt0 (op_lenV rfl un_sl_int rfl hxb.cons) (fun _ h => h) (TR.p rfl rfl wt0 (op_assign rfl) (TR.nil (TQ.then (TC.seq (TC.block (TC.loop (ι := Nat × Nat) (fun (lo, hi) => [(0, .pointer (some ⟨g, 0, none⟩)), (1, .int .i64 (i : Int)), (7, .int .i64 (lo : Int)), (8, .int .i64 (hi : Int))]) (fun (lo, hi) => .blk g (.cells [tv, bv, .bool true].toArray 58 (0, 0)) :: F) (fun (lo, hi) => lo < hi ∧ hi ≤ (begs l).length ∧ (begs l).getD lo 0 ≤ i ∧ (hi = (begs l).length ∨ i < (begs l).getD hi 0)) (fun (lo, hi) => hi - lo) ((0, (begs l).length)) (⟨by omega, Nat.le_refl _, Nat.zero_le _, .inl rfl⟩) ⟨rfl, rfl, rfl, rfl, trivial⟩ (fun _ h => h) ?_))))))))))))))))
    rintro ⟨lo, hi⟩ ⟨h1, h2, h3, h4⟩
    show TC _ _ _ _ [(0, .pointer (some ⟨g, 0, none⟩)), (1, .int .i64 (i : Int)), (7, .int .i64 (lo : Int)), (8, .int .i64 (hi : Int))] _ _ (.blk g (.cells [tv, bv, .bool true].toArray 58 (0, 0)) :: F)
    refine TC.seq (TC.seq (TC.region (TL.opP rfl (op_move rfl) (TL.opP rfl (op_move rfl) (TL.opP rfl (op_sub rfl rfl rfl (by omega) (by omega)) (TL.opP rfl (op_gtr rfl rfl) (TL.nil (TQ.then ?_))))))))
    first | refine TC.condD rfl (fun c4 => ?_) (fun c4 => ?_) | refine TC.condB rfl (fun c4 => ?_) (fun c4 => ?_)
    ·obtain ⟨mid, hmid⟩ : ∃ mid : Nat, ((lo : Int) + hi) / 2 = mid := ⟨(lo + hi) / 2, by omega⟩
     have hm1 : lo < mid := by omega
     have hm2 : mid < hi := by omega
     refine TC.skip (TQ.then (TC.block (TC.seq (TC.region (TL.opP rfl (op_move rfl) (TL.opP rfl (op_move rfl) (TL.opP rfl (op_add rfl rfl rfl (by omega) (by omega)) ?_)))))))
     refine TL.opP rfl (op_half rfl rfl (by omega) (by rw [IntKind.wrap_i64]; omega)) ?_
     refine TL.opP rfl (op_assign rfl) (TL.nil (TQ.then (TC.seq (TC.region (TL.opP rfl (op_move rfl) (TL.opP rfl (op_nilCheck rfl) (TL.opP rfl (op_field fld_lines_Index_begin rfl) (TL.opV rfl (op_load ts_sl_int rfl m0 rfl) (TL.opP rfl (op_move rfl) (TL.opV rfl (op_index tsl_int rfl hxb.cons rfl (by omega) (by omega)) (TL.opV rfl (op_loadR ts_int rfl hxb.cons (lkM (f := nv) (i := mid) (d := 0) (by omega) rfl (by omega))) (TL.opP rfl (op_move rfl) (TL.opP rfl (op_leq rfl rfl) (TL.nil (TQ.then ?_)))))))))))))))
     first | refine TC.condD rfl (fun c5 => ?_) (fun c5 => ?_) | refine TC.condB rfl (fun c5 => ?_) (fun c5 => ?_)
     ·refine TC.region (TL.opP rfl (op_move rfl) (TL.opP rfl (op_assign rfl) (TL.nil (TQ.block_normal ?_))))
      exact TQ.round (mid, hi) (⟨by omega, by omega, by omega, h4⟩) ((by show hi - mid < hi - lo; omega)) ⟨rfl, rfl, gi rfl (by omega), gi rfl (by omega), trivial⟩ (fun _ h => h)
     ·refine TC.region (TL.opP rfl (op_move rfl) (TL.opP rfl (op_assign rfl) (TL.nil (TQ.block_normal ?_))))
      exact TQ.round (lo, mid) (⟨by omega, by omega, h3, .inr (by omega)⟩) ((by show mid - lo < hi - lo; omega)) ⟨rfl, rfl, gi rfl (by omega), gi rfl (by omega), trivial⟩ (fun _ h => h)
    ·have hlh : hi = lo + 1 := by omega
     subst hlh
     obtain ⟨e1, e2⟩ := lineAt_is (l := l) (at_ := i) (lo := lo) (by unfold noAt at hni; omega) (by omega) h3 (by omega)
     refine TC.exit (TQ.then_exit (TQ.loop_exit (TQ.block_hit (TQ.then (TC.seq (TC.draw [] (.cons (.p, 0) (.cons (.p, 1) (.cons (.p, 2) (.cons (.p, 3) (.cons (.p, 4) (.cons (.p, 6) (.cons (.p, 10) (.cons (.t, 5) (.cons (.t, 7) (.cons (.t, 8) (.cons (.p, 9) (.cons (.p, 11) (.cons (.p, 12) (.nil)))))))))))))) mo (by kernel_rfl) (TR.p rfl rfl wt0 (op_move rfl) (TR.p rfl rfl wt0 (op_move rfl) (TR.p rfl rfl wt0 (op_move rfl) (TR.p rfl rfl wt0 (op_nilCheck rfl) (TR.p rfl rfl wt0 (op_field fld_lines_Index_begin rfl) (TR.p rfl rfl wt0 (op_move rfl) (TR.p rfl rfl wt0 (op_assign rfl) (TR.t rfl rfl wt0 (op_load ts_sl_int rfl m0 rfl) (fun _ h => h) (TR.t rfl rfl wt0 (op_index tsl_int rfl hxb.cons rfl (by omega) (by omega)) (fun _ h => h) ?_)))))))))))))))
     refine TR.t rfl rfl wt0 (op_loadR ts_int rfl hxb.cons (lkM (f := nv) (i := lo) (d := 0) (by omega) rfl (by omega))) (fun _ h => h) (TR.p rfl rfl wt0 (op_sub rfl rfl rfl (by omega) (by omega)) (TR.p rfl rfl wt0 (op_assign rfl) (TR.p rfl rfl wt0 (op_assign rfl) (TR.nil (TQ.then (TC.ret ?_))))))
     refine ret3 rfl rfl rfl rfl (fun w' hp => ?_)
     first
       | (have hn : noAt l i := by unfold noAt; omega
          exact ⟨_, _, rfl, ⟨by rw [show whL l i = 0 from if_pos hn, show whC l i = 0 from if_pos hn, show whE l i = 1 from if_pos hn], rfl⟩, (hp)⟩)
       | exact ⟨_, _, rfl, ⟨by (rw [show whL l i = _ from if_neg hni, show whC l i = _ from if_neg hni, show whE l i = 0 from if_neg hni, Int.toNat_natCast, ← e1, ← e2]; first | done | rfl), rfl⟩, (hp)⟩

theorem lword_x (l : List Int) (tv bv : Value) (g : Nat) (hxt : Rdb F tv 1 l.length (l.map (Value.int .i32))) (hxb : Rdb F bv 1 (begs l).length ((begs l).map nv)) (i : Int) (hln : l.length ≤ 1048576) :
    CallX Tryd.prog 39 [.pointer (some ⟨g, 0, none⟩), .int .i64 i] S w0 (.blk g (.cells [tv, bv, .bool true].toArray 58 (0, 0)) :: F) (fun u L' => u = .tuple #[.int .i64 (woA l i), .int .i64 (woZ l i), .int .i64 (woE l i)] ∧ L' = .blk g (.cells [tv, bv, .bool true].toArray 58 (0, 0)) :: F) := by
 intro w hp
 have hxtl := hxt.cons.lenLe hp
 have hxbl := hxb.cons.lenLe hp
 refine calls_start Tryd.func39 rfl rfl rfl (hp) ?_
 refine TC.seq (TC.region (TL.opP rfl (op_assign rfl) (TL.opP rfl (op_assign rfl) (TL.opP rfl (op_assign rfl) (TL.nil (TQ.then (TC.seq (TC.block (TC.seq (TC.region (TL.opP rfl (op_move rfl) ?_)))))))))))
 refine TL.opX rfl (OpX.callX en_65 rfl (ldead_x _ _ true _)) ?_; rintro _ _ ⟨rfl, rfl⟩
 refine TL.opP rfl (op_assign rfl) (TL.nil (TQ.then ?_))
 first | refine TC.condD rfl (fun c1 => ?_) (fun c1 => ?_) | refine TC.condB rfl (fun c1 => ?_) (fun c1 => ?_)
 ·exact absurd c1 (by decide)
 ·refine TC.seq (TC.region (TL.opP rfl (op_move rfl) (TL.opP rfl (op_lss rfl rfl) (TL.opP rfl (op_move rfl) ?_))))
  first | refine TL.splitD (fun c2 => ?_) (fun c2 => ?_) | refine TL.splitB (fun c2 => ?_) (fun c2 => ?_)
  ·refine TL.gFt rfl rfl rfl (TL.gFt rfl rfl rfl (TL.gFt rfl rfl rfl (TL.gFt rfl rfl rfl (TL.gFt rfl rfl rfl (TL.gFt rfl rfl rfl (TL.gFt rfl rfl rfl (TL.opP rfl (op_pickT rfl rfl) (TL.opP rfl (op_assign rfl) (TL.nil (TQ.then (TC.condT rfl (TC.seq (TC.region (TL.opP rfl (op_assign rfl) (TL.opP rfl (op_assign rfl) (TL.opP rfl (op_assign rfl) (TL.nil (TQ.then (TC.ret (TQ.block_ret (TQ.then_ret ?_)))))))))))))))))))))
   refine ret3 rfl rfl rfl rfl (fun w' hp => ?_)
   first
     | (have hn : noPt l i := by unfold noPt; omega
        exact ⟨_, _, rfl, ⟨by rw [show woA l i = 0 from if_pos hn, show woZ l i = 0 from if_pos hn, show woE l i = 1 from if_pos hn], rfl⟩, (hp)⟩)
     | (have hz : (z : Int) = fwdN l (lcls (l.getD i 0)) i := by
          have h1 := fwd_step (l := l) (k := (lcls (l.getD i 0))) (i := i) hi rfl
          rw [if_pos rfl] at h1
          rw [h1, ← hf]
          first
            | (rw [hfs, if_neg c7]; done)
            | (obtain rfl : z = l.length := by omega
               rw [fwd_end])
        exact ⟨_, _, rfl, ⟨by (rw [show woA l i = _ from if_neg hni, show woZ l i = _ from if_neg hni, show woE l i = 0 from if_neg hni, hz]; first | done | rfl), rfl⟩, (hp)⟩)
  ·refine TL.gT rfl rfl (TL.opP rfl (op_move rfl) (TL.gT rfl rfl (TL.opP rfl (op_move rfl) (TL.gT rfl rfl (TL.opP rfl (op_nilCheck rfl) (TL.gT rfl rfl (TL.opP rfl (op_field fld_lines_Index_text rfl) (TL.gT rfl rfl (TL.opV rfl (op_load ts_sl_int32 rfl m0 rfl) (TL.gT rfl rfl (TL.opV rfl (op_lenV rfl un_sl_int32 rfl hxt.cons) (TL.gT rfl rfl (TL.opP rfl (op_geq rfl rfl) (TL.opP rfl (op_pickF rfl rfl) (TL.opP rfl (op_assign rfl) (TL.nil (TQ.then ?_)))))))))))))))))
   first | refine TC.condD rfl (fun c3 => ?_) (fun c3 => ?_) | refine TC.condB rfl (fun c3 => ?_) (fun c3 => ?_)
   ·refine TC.seq (TC.region (TL.opP rfl (op_assign rfl) (TL.opP rfl (op_assign rfl) (TL.opP rfl (op_assign rfl) (TL.nil (TQ.then (TC.ret (TQ.block_ret (TQ.then_ret ?_)))))))))
    refine ret3 rfl rfl rfl rfl (fun w' hp => ?_)
    first
      | (have hn : noPt l i := by unfold noPt; omega
         exact ⟨_, _, rfl, ⟨by rw [show woA l i = 0 from if_pos hn, show woZ l i = 0 from if_pos hn, show woE l i = 1 from if_pos hn], rfl⟩, (hp)⟩)
      | (have hz : (z : Int) = fwdN l (lcls (l.getD i 0)) i := by
           have h1 := fwd_step (l := l) (k := (lcls (l.getD i 0))) (i := i) hi rfl
           rw [if_pos rfl] at h1
           rw [h1, ← hf]
           first
             | (rw [hfs, if_neg c7]; done)
             | (obtain rfl : z = l.length := by omega
                rw [fwd_end])
         exact ⟨_, _, rfl, ⟨by (rw [show woA l i = _ from if_neg hni, show woZ l i = _ from if_neg hni, show woE l i = 0 from if_neg hni, hz]; first | done | rfl), rfl⟩, (hp)⟩)
   ·have hni : ¬ noPt l i := by unfold noPt; omega
    obtain ⟨i, rfl⟩ : ∃ j : Nat, i = j := ⟨i.toNat, by omega⟩
    have hi : i < l.length := by unfold noPt at hni; omega
    refine TC.skip (TQ.block_normal (TQ.then (TC.seq (TC.region (TL.opP rfl (op_move rfl) (TL.opP rfl (op_move rfl) (TL.opP rfl (op_add rfl rfl rfl (by omega) (by omega)) (TL.opP rfl (op_assign rfl) (TL.opP rfl (op_assign rfl) (TL.nil (TQ.then (TC.seq (TC.region (TL.opP rfl (op_move rfl) (TL.opP rfl (op_nilCheck rfl) (TL.opP rfl (op_field fld_lines_Index_text rfl) (TL.opV rfl (op_load ts_sl_int32 rfl m0 rfl) (TL.opP rfl (op_move rfl) (TL.opV rfl (op_index tsl_int32 rfl hxt.cons rfl (by omega) (by omega)) (TL.opV rfl (op_loadR ts_int32 rfl hxt.cons (lkM (i := i) (d := 0) (by omega) rfl (by omega))) (TL.callq rfl en_73 rfl (fun w2 hp => lclass_calls _ w2) (TL.opP rfl (op_assign rfl) (TL.nil (TQ.then ?_))))))))))))))))))))))))
    refine TC.join1 [(0, .pointer (some ⟨g, 0, none⟩)), (1, .int .i64 (i : Int)), (4, .int .i64 (backN l (lcls (l.getD i 0)) i : Int)), (5, .int .i64 (((i + 1 : Nat) : Int) : Int)), (7, .int .i64 (lcls (l.getD i 0)))] (.blk g (.cells [tv, bv, .bool true].toArray 58 (0, 0)) :: F) ?_ ?_
    ·refine TC.block (TC.loop (ι := Nat) (fun a => [(0, .pointer (some ⟨g, 0, none⟩)), (1, .int .i64 (i : Int)), (4, .int .i64 (a : Int)), (5, .int .i64 (((i + 1 : Nat) : Int) : Int)), (7, .int .i64 (lcls (l.getD i 0)))]) (fun a => .blk g (.cells [tv, bv, .bool true].toArray 58 (0, 0)) :: F) (fun a => a ≤ i ∧ backN l (lcls (l.getD i 0)) a = backN l (lcls (l.getD i 0)) i) (fun a => a) (i) (⟨Nat.le_refl _, rfl⟩) ⟨rfl, rfl, rfl, gi rfl (by omega), rfl, trivial⟩ (fun _ h => h) ?_)
     rintro a ⟨ha, hb⟩
     refine TC.seq (TC.seq (TC.region (TL.opP rfl (op_move rfl) (TL.opP rfl (op_gtr rfl rfl) (TL.opP rfl (op_move rfl) ?_)))))
     first | refine TL.splitD (fun c4 => ?_) (fun c4 => ?_) | refine TL.splitB (fun c4 => ?_) (fun c4 => ?_)
     ·obtain ⟨b, rfl⟩ : ∃ b, a = b + 1 := ⟨a - 1, by omega⟩
      have hbk := back_step (l := l) (k := (lcls (l.getD i 0))) (i := b) (by omega) rfl
      refine TL.gT rfl rfl (TL.opP rfl (op_move rfl) (TL.gT rfl rfl (TL.opP rfl (op_nilCheck rfl) (TL.gT rfl rfl (TL.opP rfl (op_field fld_lines_Index_text rfl) (TL.gT rfl rfl (TL.opV rfl (op_load ts_sl_int32 rfl m0 rfl) (TL.gT rfl rfl (TL.opP rfl (op_move rfl) (TL.gT rfl rfl (TL.opP rfl (op_sub rfl rfl rfl (by omega) (by omega)) (TL.gT rfl rfl (TL.opV rfl (op_index tsl_int32 rfl hxt.cons rfl (by omega) (by omega)) (TL.gT rfl rfl (TL.opV rfl (op_loadR ts_int32 rfl hxt.cons (lkM (i := b) (d := 0) (by omega) rfl (by omega))) (TL.gT rfl rfl (TL.callq rfl en_73 rfl (fun w2 hp => lclass_calls _ w2) (TL.gT rfl rfl (TL.opP rfl (op_move rfl) (TL.gT rfl rfl (TL.opP rfl (op_eql rfl rfl) (TL.opP rfl (op_pickT rfl rfl) ?_))))))))))))))))))))))
      refine TL.nil (TQ.then ?_)
      first | refine TC.condD rfl (fun c5 => ?_) (fun c5 => ?_) | refine TC.condB rfl (fun c5 => ?_) (fun c5 => ?_)
      ·refine TC.skip (TQ.then (TC.block (TC.region (TL.opP rfl (op_move rfl) (TL.opP rfl (op_sub rfl rfl rfl (by omega) (by omega)) (TL.opP rfl (op_assign rfl) (TL.nil (TQ.block_normal ?_))))))))
       exact TQ.round (b) (⟨by omega, by rw [← hb, hbk, if_pos c5]⟩) (by show b < b + 1; omega) ⟨rfl, rfl, gi rfl (by omega), rfl, rfl, trivial⟩ (fun _ h => h)
      ·refine TC.exit (TQ.then_exit (TQ.loop_exit (TQ.block_hit ?_)))
       exact TQ.join1 ⟨rfl, rfl, gi rfl (by first | (rw [← hb, hbk, if_neg c5]; done) | (obtain rfl : a = 0 := (by omega); exact congrArg (fun n : Nat => (n : Int)) ((back_zero l _).symm.trans hb))), rfl, rfl, trivial⟩ (fun _ h => h)
     ·refine TL.gFf rfl rfl rfl (TL.gFf rfl rfl rfl (TL.gFf rfl rfl rfl (TL.gFf rfl rfl rfl (TL.gFf rfl rfl rfl (TL.gFf rfl rfl rfl (TL.gFf rfl rfl rfl (TL.gFf rfl rfl rfl (TL.gFf rfl rfl rfl (TL.gFf rfl rfl rfl (TL.gFf rfl rfl rfl (TL.opP rfl (op_pickF rfl rfl) (TL.nil (TQ.then (TC.condF rfl (TC.exit (TQ.then_exit (TQ.loop_exit (TQ.block_hit ?_))))))))))))))))))
      exact TQ.join1 ⟨rfl, rfl, gi rfl (by first | (rw [← hb, hbk, if_neg c5]; done) | (obtain rfl : a = 0 := (by omega); exact congrArg (fun n : Nat => (n : Int)) ((back_zero l _).symm.trans hb))), rfl, rfl, trivial⟩ (fun _ h => h)
    ·refine TC.seq (TC.block (TC.loop (ι := Nat) (fun z => [(0, .pointer (some ⟨g, 0, none⟩)), (1, .int .i64 (i : Int)), (4, .int .i64 (backN l (lcls (l.getD i 0)) i : Int)), (5, .int .i64 (z : Int)), (7, .int .i64 (lcls (l.getD i 0)))]) (fun z => .blk g (.cells [tv, bv, .bool true].toArray 58 (0, 0)) :: F) (fun z => z ≤ l.length ∧ i + 1 ≤ z ∧ fwdN l (lcls (l.getD i 0)) z = fwdN l (lcls (l.getD i 0)) (i + 1)) (fun z => l.length - z) (i + 1) (⟨by omega, Nat.le_refl _, rfl⟩) ⟨rfl, rfl, rfl, rfl, rfl, trivial⟩ (fun _ h => h) ?_))
     rintro z ⟨hz, hz2, hf⟩
     refine TC.seq (TC.seq (TC.region (TL.opP rfl (op_move rfl) (TL.opP rfl (op_move rfl) (TL.opP rfl (op_nilCheck rfl) (TL.opP rfl (op_field fld_lines_Index_text rfl) (TL.opV rfl (op_load ts_sl_int32 rfl m0 rfl) (TL.opV rfl (op_lenV rfl un_sl_int32 rfl hxt.cons) (TL.opP rfl (op_lss rfl rfl) (TL.opP rfl (op_move rfl) ?_))))))))))
     first | refine TL.splitD (fun c6 => ?_) (fun c6 => ?_) | refine TL.splitB (fun c6 => ?_) (fun c6 => ?_)
     ·have hfs := fwd_step (l := l) (k := (lcls (l.getD i 0))) (i := z) (by omega) rfl
      refine TL.gT rfl rfl (TL.opP rfl (op_move rfl) (TL.gT rfl rfl (TL.opP rfl (op_nilCheck rfl) (TL.gT rfl rfl (TL.opP rfl (op_field fld_lines_Index_text rfl) (TL.gT rfl rfl (TL.opV rfl (op_load ts_sl_int32 rfl m0 rfl) (TL.gT rfl rfl (TL.opP rfl (op_move rfl) (TL.gT rfl rfl (TL.opV rfl (op_index tsl_int32 rfl hxt.cons rfl (by omega) (by omega)) (TL.gT rfl rfl (TL.opV rfl (op_loadR ts_int32 rfl hxt.cons (lkM (i := z) (d := 0) (by omega) rfl (by omega))) (TL.gT rfl rfl (TL.callq rfl en_73 rfl (fun w2 hp => lclass_calls _ w2) (TL.gT rfl rfl (TL.opP rfl (op_move rfl) (TL.gT rfl rfl (TL.opP rfl (op_eql rfl rfl) (TL.opP rfl (op_pickT rfl rfl) (TL.nil (TQ.then ?_))))))))))))))))))))))
      first | refine TC.condD rfl (fun c7 => ?_) (fun c7 => ?_) | refine TC.condB rfl (fun c7 => ?_) (fun c7 => ?_)
      ·refine TC.skip (TQ.then (TC.block (TC.region (TL.opP rfl (op_move rfl) (TL.opP rfl (op_add rfl rfl rfl (by omega) (by omega)) (TL.opP rfl (op_assign rfl) (TL.nil (TQ.block_normal ?_))))))))
       exact TQ.round (z + 1) (⟨by omega, by omega, by rw [← hf, hfs, if_pos c7]⟩) (by show l.length - (z + 1) < l.length - z; omega) ⟨rfl, rfl, rfl, rfl, rfl, trivial⟩ (fun _ h => h)
      ·refine TC.exit (TQ.then_exit (TQ.loop_exit (TQ.block_hit (TQ.then (TC.seq (TC.region (TL.opP rfl (op_move rfl) (TL.opP rfl (op_move rfl) (TL.opP rfl (op_assign rfl) (TL.opP rfl (op_assign rfl) (TL.opP rfl (op_assign rfl) (TL.nil (TQ.then (TC.ret ?_))))))))))))))
       refine ret3 rfl rfl rfl rfl (fun w' hp => ?_)
       first
         | (have hn : noPt l i := by unfold noPt; omega
            exact ⟨_, _, rfl, ⟨by rw [show woA l i = 0 from if_pos hn, show woZ l i = 0 from if_pos hn, show woE l i = 1 from if_pos hn], rfl⟩, (hp)⟩)
         | (have hz : (z : Int) = fwdN l (lcls (l.getD i 0)) i := by
              have h1 := fwd_step (l := l) (k := (lcls (l.getD i 0))) (i := i) hi rfl
              rw [if_pos rfl] at h1
              rw [h1, ← hf]
              first
                | (rw [hfs, if_neg c7]; done)
                | (obtain rfl : z = l.length := by omega
                   rw [fwd_end])
            exact ⟨_, _, rfl, ⟨by (rw [show woA l i = _ from if_neg hni, show woZ l i = _ from if_neg hni, show woE l i = 0 from if_neg hni, hz]; first | done | rfl), rfl⟩, (hp)⟩)
     ·refine TL.gFf rfl rfl rfl (TL.gFf rfl rfl rfl (TL.gFf rfl rfl rfl (TL.gFf rfl rfl rfl (TL.gFf rfl rfl rfl (TL.gFf rfl rfl rfl (TL.gFf rfl rfl rfl (TL.gFf rfl rfl rfl (TL.gFf rfl rfl rfl (TL.gFf rfl rfl rfl (TL.opP rfl (op_pickF rfl rfl) (TL.nil (TQ.then (TC.condF rfl (TC.exit (TQ.then_exit (TQ.loop_exit (TQ.block_hit (TQ.then (TC.seq (TC.region (TL.opP rfl (op_move rfl) (TL.opP rfl (op_move rfl) (TL.opP rfl (op_assign rfl) (TL.opP rfl (op_assign rfl) (TL.opP rfl (op_assign rfl) (TL.nil (TQ.then (TC.ret ?_))))))))))))))))))))))))))))
      refine ret3 rfl rfl rfl rfl (fun w' hp => ?_)
      first
        | (have hn : noPt l i := by unfold noPt; omega
           exact ⟨_, _, rfl, ⟨by rw [show woA l i = 0 from if_pos hn, show woZ l i = 0 from if_pos hn, show woE l i = 1 from if_pos hn], rfl⟩, (hp)⟩)
        | (have hz : (z : Int) = fwdN l (lcls (l.getD i 0)) i := by
             have h1 := fwd_step (l := l) (k := (lcls (l.getD i 0))) (i := i) hi rfl
             rw [if_pos rfl] at h1
             rw [h1, ← hf]
             first
               | (rw [hfs, if_neg c7]; done)
               | (obtain rfl : z = l.length := by omega
                  rw [fwd_end])
           exact ⟨_, _, rfl, ⟨by (rw [show woA l i = _ from if_neg hni, show woZ l i = _ from if_neg hni, show woE l i = 0 from if_neg hni, hz]; first | done | rfl), rfl⟩, (hp)⟩)

end Go.SK
