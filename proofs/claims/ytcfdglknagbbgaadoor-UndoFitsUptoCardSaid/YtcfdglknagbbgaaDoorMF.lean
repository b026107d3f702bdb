/- Walks: the document's own answer: what fits, sizes, lists put together. Walks: the document's own answer: lists put together. -/
import Derived.Test.YtcfdglknagbbgaaDoorME
import Derived.Test.YtcfdglknagbbgaaDoorMC
set_option linter.unusedVariables false
set_option linter.unusedSimpArgs false
set_option maxRecDepth 100000
namespace Go.SK
open Go Go.RowKit Go.Proofs
variable {S : Nat → Prop} {w0 : World} {F L : List Res}






end Go.SK

set_option linter.unusedVariables false
set_option linter.unusedSimpArgs false
set_option maxRecDepth 100000
namespace Go.SK
open Go Go.RowKit Go.Proofs
variable {S : Nat → Prop} {w0 : World} {F L : List Res}
theorem op_pneq {n : Nat} {l : FrL} {dst : Option Tmp} {x y : Operand} {ty t' : TypeId} {pos : String} {af : Array Edge} {gd : Option (Nat × Bool)} {p q : Part} (hx : evO l x = some (.agg p.cs.toArray)) (hy : evO l y = some (.agg q.cs.toArray)) :
    OpP Tryd.prog n l ⟨dst, .binOp .neq 50 x y t', ty, pos, af, gd⟩ (.bool (decide (p ≠ q))) := fun a w ha => by
  have hg : (eqGuard .neq 50 x y (.agg p.cs.toArray) (.agg q.cs.toArray)).run Tryd.prog w = .ok () w := by kernel_rfl
  have h1 : (Op.equal 50 (.agg p.cs.toArray) (.agg q.cs.toArray)).run Tryd.prog w = .ok ((p.kind == q.kind) && ((p.n == q.n) && (p.text.toList == q.text.toList))) w := by
    have hf : (Tryd.prog.fieldsOf 50).toList = [⟨"Kind", 3, 0, false, "", "", 0⟩, ⟨"N", 3, 1, false, "", "", 8⟩, ⟨"Text", 9, 2, false, "", "", 16⟩] := by kernel_rfl
    unfold Op.equal
    rw [show Op.maxDepth = (Op.maxDepth - 2) + 1 + 1 from by decide]
    rw [run_equalIn_struct w _ 50 _ _ (by kernel_rfl) (by kernel_rfl), hf]
    have p1 : (part 3 p.cs.toArray 0).run Tryd.prog w = .ok (.int .i64 p.kind) w := by kernel_rfl
    have p2 : (part 3 p.cs.toArray 1).run Tryd.prog w = .ok (.int .i64 p.n) w := by kernel_rfl
    have p3 : (part 9 p.cs.toArray 2).run Tryd.prog w = .ok (.string p.text) w := by kernel_rfl
    have q1 : (part 3 q.cs.toArray 0).run Tryd.prog w = .ok (.int .i64 q.kind) w := by kernel_rfl
    have q2 : (part 3 q.cs.toArray 1).run Tryd.prog w = .ok (.int .i64 q.n) w := by kernel_rfl
    have q3 : (part 9 q.cs.toArray 2).run Tryd.prog w = .ok (.string q.text) w := by kernel_rfl
    have i1 := fun a b => run_equalIn_int (P := Tryd.prog) w (Op.maxDepth - 2) 3 .i64 .i64 a b un_int
    have i2 := fun a b => run_equalIn_string (P := Tryd.prog) w (Op.maxDepth - 2) 9 a b un_string
    simp only [Op.eqFields, ne_eq, String.reduceEq, not_false_eq_true, if_true, Sem.run_bind, p1, p2, p3, q1, q2, q3, Result.andThen_ok, i1, i2]
    cases h1 : (p.kind == q.kind) <;> cases h2 : (p.n == q.n) <;> cases h3 : (p.text.toList == q.text.toList) <;> simp [Sem.run_pure, i1, i2, h1, h2, h3, p1, p2, p3, q1, q2, q3]
  have h2 : (!((p.kind == q.kind) && ((p.n == q.n) && (p.text.toList == q.text.toList)))) = decide (p ≠ q) := by
    rw [str_eq]
    cases p; cases q
    simp only [ne_eq, Part.mk.injEq, decide_not, Bool.not_eq_not]
    rw [Bool.eq_iff_iff]
    simp
  simp only [execOp, ha.eval hx, ha.eval hy, Sem.run_bind, hg, Result.andThen_ok, binOp, h1, Sem.run_pure, h2]





theorem rsame_calls (a b : List Part) (va vb : Value) (w : World) (ha : RdRow w va 3 a.length (encs a)) (hb : RdRow w vb 3 b.length (encs b)) :
    Calls Tryd.prog 17 (List.toArray [va, vb]) w fun e w' => e = .returned (.bool (decide (a = b))) ∧ Kp NoB w w' := by
 have hlen : a.length ≤ 9223372036854775807 := by obtain ⟨_, A, c, _, h1, h2, _⟩ := ha; simp only [maxLen] at h2; omega
 refine calls_start Tryd.func17 rfl rfl rfl (Hp.i2 (r := .rd va 3 a.length (encs a)) (s := .rd vb 3 b.length (encs b)) ha hb) ?_
 refine TC.seq (TC.region (TL.opP rfl (op_assign rfl) (TL.nil (TQ.then (TC.seq (TC.seq (TC.region (TL.opP rfl (op_move rfl) (TL.opV rfl (op_lenV rfl un_sl_api_Part rfl rd0) (TL.opP rfl (op_move rfl) (TL.opV rfl (op_lenV rfl un_sl_api_Part rfl rd1) (TL.opP rfl (op_neq rfl rfl) (TL.nil (TQ.then ?_))))))))))))))
 first | refine TC.condD rfl (fun c1 => ?_) (fun c1 => ?_) | refine TC.condB rfl (fun c1 => ?_) (fun c1 => ?_)
 ·refine TC.seq (TC.region (TL.opP rfl (op_assign rfl) (TL.nil (TQ.then (TC.ret (TQ.then_ret ?_))))))
  refine ret1 rfl rfl (fun w' hp => ?_)
  first
    | exact ⟨by rw [decide_eq_false (by rintro rfl; omega)], hp.kp⟩
    | exact ⟨by rw [decide_eq_false (by rintro rfl; exact c3 (hpa.symm.trans hpb))], hp.kp⟩
    | exact ⟨by rw [decide_eq_true (take_eq_all htk (by omega) (by omega))], hp.kp⟩
 ·refine TC.skip (TQ.then (TC.seq (TC.seq (TC.region (TL.opP rfl (op_move rfl) (TL.opV rfl (op_lenV rfl un_sl_api_Part rfl rd0) (TL.opP rfl (op_move rfl) (TL.nil (TQ.then (TC.block (TC.loop (ι := Nat) (fun k => [(0, va), (1, vb), (12, .int .i64 (a.length : Int)), (13, .int .i64 (k : Int))]) (fun k => [.rd va 3 a.length (encs a), .rd vb 3 b.length (encs b)]) (fun k => k ≤ a.length ∧ a.take k = b.take k) (fun k => a.length - k) (0) (⟨Nat.zero_le _, rfl⟩) ⟨rfl, rfl, rfl, rfl, trivial⟩ (fun _ h => h) ?_)))))))))))
  rintro k ⟨hk, htk⟩
  refine TC.seq (TC.region (TL.opP rfl (op_lss rfl rfl) (TL.nil (TQ.then (TC.seq ?_)))))
  first | refine TC.condD rfl (fun c2 => ?_) (fun c2 => ?_) | refine TC.condB rfl (fun c2 => ?_) (fun c2 => ?_)
  ·have hka : k < a.length := by omega
   have hkb : k < b.length := by omega
   obtain ⟨p, hpa⟩ : ∃ p, a.getD k default = p := ⟨_, rfl⟩
   obtain ⟨q, hpb⟩ : ∃ q, b.getD k default = q := ⟨_, rfl⟩
   refine TC.skip (TQ.then (TC.seq (TC.block (TC.seq (TC.region (TL.opP rfl (op_move rfl) (TL.opP rfl (op_assign rfl) (TL.nil (TQ.then (TC.seq (TC.draw [] (.cons (.p, 0) (.cons (.p, 1) (.cons (.p, 4) (.cons (.p, 5) (.cons (.t, 2) (.cons (.t, 3) (.cons (.t, 6) (.cons (.t, 7) (.cons (.p, 8) (.nil)))))))))) mo (by kernel_rfl) (TR.p rfl rfl wt0 (op_move rfl) (TR.p rfl rfl wt0 (op_move rfl) (TR.p rfl rfl wt0 (op_move rfl) (TR.p rfl rfl wt0 (op_move rfl) (TR.t rfl rfl wt0 (op_index tsl_api_Part rfl rd0 rfl (by omega) (by omega)) (fun _ h => h) (TR.t rfl rfl wt0 (op_loadRS tst_api_Part rfl rd0 (cs := p.cs) rfl (lkS hka hpa) (by decide)) (fun _ h => h) (TR.t rfl rfl wt0 (op_index tsl_api_Part rfl rd1 rfl (by omega) (by omega)) (fun _ h => h) ?_))))))))))))))))))
   refine TR.t rfl rfl wt0 (op_loadRS tst_api_Part rfl rd1 (cs := q.cs) rfl (lkS hkb hpb) (by decide)) (fun _ h => h) (TR.p rfl rfl wt0 (op_pneq rfl rfl) (TR.nil (TQ.then ?_)))
   first | refine TC.condD rfl (fun c3 => ?_) (fun c3 => ?_) | refine TC.condB rfl (fun c3 => ?_) (fun c3 => ?_)
   ·refine TC.seq (TC.region (TL.opP rfl (op_assign rfl) (TL.nil (TQ.then (TC.ret (TQ.block_ret (TQ.then_ret (TQ.loop_ret (TQ.block_ret (TQ.then_ret ?_))))))))))
    refine ret1 rfl rfl (fun w' hp => ?_)
    first
      | exact ⟨by rw [decide_eq_false (by rintro rfl; omega)], hp.kp⟩
      | exact ⟨by rw [decide_eq_false (by rintro rfl; exact c3 (hpa.symm.trans hpb))], hp.kp⟩
      | exact ⟨by rw [decide_eq_true (take_eq_all htk (by omega) (by omega))], hp.kp⟩
   ·refine TC.skip (TQ.block_normal (TQ.then (TC.region (TL.opP rfl (op_add rfl rfl rfl (by omega) (by omega)) (TL.opP rfl (op_move rfl) (TL.nil ?_))))))
    exact TQ.round (k + 1) (⟨by omega, by rw [take_getD hka hpa, take_getD hkb hpb, htk]; congr 1; simpa using c3⟩) (by omega) ⟨rfl, rfl, rfl, rfl, trivial⟩ (fun _ h => h)
  ·refine TC.exit (TQ.then_exit (TQ.loop_exit (TQ.block_hit (TQ.then (TC.seq (TC.region (TL.opP rfl (op_assign rfl) (TL.nil (TQ.then (TC.ret ?_))))))))))
   refine ret1 rfl rfl (fun w' hp => ?_)
   first
     | exact ⟨by rw [decide_eq_false (by rintro rfl; omega)], hp.kp⟩
     | exact ⟨by rw [decide_eq_false (by rintro rfl; exact c3 (hpa.symm.trans hpb))], hp.kp⟩
     | exact ⟨by rw [decide_eq_true (take_eq_all htk (by omega) (by omega))], hp.kp⟩

end Go.SK
