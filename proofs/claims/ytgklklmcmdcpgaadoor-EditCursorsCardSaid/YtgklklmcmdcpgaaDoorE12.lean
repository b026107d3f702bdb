/- Plain words joined: the words and the contracts, for the laws of several edits. -/
import Derived.Test.YtgklklmcmdcpgaaDoorE11
import Derived.Test.YtgklklmcmdcpgaaDoorP19
import Derived.ChangeKeysEq
import Derived.Laws.Bits64
set_option linter.unusedVariables false
set_option linter.unusedSimpArgs false
set_option maxRecDepth 100000
namespace Go.SK
open Go Go.RowKit Go.Proofs
theorem Hp.i4 {w : World} {r s t u : Res} (h : r.holds w) (h' : s.holds w) (h'' : t.holds w) (h3 : u.holds w) (n : ¬ r.rw := by exact fun x => x) (n' : ¬ s.rw := by exact fun x => x) (n'' : ¬ t.rw := by exact fun x => x) (n3 : ¬ u.rw := by exact fun x => x) : Hp NoB w w [r, s, t, u] := Hp.init w [r, s, t, u]
  (by intro x hx; rcases List.mem_cons.1 hx with rfl | hx; exact h; rcases List.mem_cons.1 hx with rfl | hx; exact h'; rcases List.mem_cons.1 hx with rfl | hx; exact h''; rw [List.mem_singleton] at hx; subst hx; exact h3)
  (by intro x hx; rcases List.mem_cons.1 hx with rfl | hx; exact n; rcases List.mem_cons.1 hx with rfl | hx; exact n'; rcases List.mem_cons.1 hx with rfl | hx; exact n''; rw [List.mem_singleton] at hx; subst hx; exact n3)
theorem op_rem {P : Program} {n : Nat} {l : FrL} {dst : Option Tmp} {x y : Operand} {ty t t' : TypeId} {pos : String} {af : Array Edge} {gd : Option (Nat × Bool)} {k : IntKind} {a b : Int} (hx : evO l x = some (.int k a)) (hy : evO l y = some (.int k b)) (h0 : 0 ≤ a) (h1 : 0 < b) :
    OpP P n l ⟨dst, .binOp .rem t x y t', ty, pos, af, gd⟩ (.int k (a % b)) := fun q w ha => by
  simp [execOp, ha.eval hx, ha.eval hy, eqGuard, binOp, Op.intDiv, if_neg (show ¬ b = 0 by omega), Int.tmod_eq_emod_of_nonneg h0]
abbrev modI (i n : Int) : Int := IntKind.i64.wrap (IntKind.u64.wrap i % IntKind.u64.wrap (n + 1))
theorem modI_pos {n : Int} (h : 0 ≤ n) (h1 : n ≤ 1099511627776) (i : Int) : 0 ≤ IntKind.u64.wrap i ∧ 0 < IntKind.u64.wrap (n + 1) := by
  rw [IntKind.wrap_u64, IntKind.wrap_u64]; omega
theorem modI_in {n : Int} (h : 0 ≤ n) (h1 : n ≤ 1099511627776) (i : Int) : 0 ≤ modI i n ∧ modI i n ≤ n := by
  have e : IntKind.u64.wrap (n + 1) = n + 1 := by rw [IntKind.wrap_u64]; omega
  have h2 := Int.emod_nonneg (IntKind.u64.wrap i) (show n + 1 ≠ 0 by omega)
  have h3 := Int.emod_lt_of_pos (IntKind.u64.wrap i) (show 0 < n + 1 by omega)
  unfold modI
  rw [e, IntKind.wrap_i64]
  generalize IntKind.u64.wrap i % (n + 1) = z at *
  omega
theorem bl_ar2_int_01 (a b : Int) : ∀ w, (Instr.build 57 #[(0, .int .i64 a), (1, .int .i64 b)]).run Tryd.prog w = .ok (.agg #[.int .i64 a, .int .i64 b]) w := by intro w; kernel_rfl
theorem op_aindex {n : Nat} {l : FrL} {dst : Option Tmp} {x : Operand} {ty : TypeId} {pos : String} {af : Array Edge} {gd : Option (Nat × Bool)} {a b : Int} (hx : evO l x = some (.agg #[.int .i64 a, .int .i64 b])) :
    OpP Tryd.prog n l ⟨dst, .index 57 x (.const (.int .i64 1)), ty, pos, af, gd⟩ (.int .i64 b) := fun q w ha => by
  have h1 : (Instr.index 57 (.agg #[.int .i64 a, .int .i64 b]) (.int .i64 1)).run Tryd.prog w = .ok (.int .i64 b) w := by kernel_rfl
  have h2 := ha.eval (x := .const (.int .i64 1)) rfl
  simp only [execOp, ha.eval hx, h2, Sem.run_bind, h1, Result.andThen_ok, Sem.run_pure]
theorem op_aeq {n : Nat} {l : FrL} {dst : Option Tmp} {x y : Operand} {ty t' : TypeId} {pos : String} {af : Array Edge} {gd : Option (Nat × Bool)} {a b c d : Int} (hx : evO l x = some (.agg #[.int .i64 a, .int .i64 b])) (hy : evO l y = some (.agg #[.int .i64 c, .int .i64 d])) :
    OpP Tryd.prog n l ⟨dst, .binOp .eql 57 x y t', ty, pos, af, gd⟩ (.bool (decide ((a, b) = (c, d)))) := fun q w ha => by
  have hg : (eqGuard .eql 57 x y (.agg #[.int .i64 a, .int .i64 b]) (.agg #[.int .i64 c, .int .i64 d])).run Tryd.prog w = .ok () w := by kernel_rfl
  have h1 : (Op.equal 57 (.agg #[.int .i64 a, .int .i64 b]) (.agg #[.int .i64 c, .int .i64 d])).run Tryd.prog w = .ok ((a == c) && (b == d)) w := by
    unfold Op.equal
    rw [show Op.maxDepth = (Op.maxDepth - 2) + 1 + 1 from by decide]
    have hu : Tryd.prog.underlying 57 = some (.array 2 3) := by kernel_rfl
    obtain ⟨i, hi⟩ := Option.isSome_iff_exists.1 (show (Tryd.prog.info? 3).isSome = true by kernel_rfl)
    have hc : Tryd.prog.cellsOf 3 = 1 := by kernel_rfl
    rw [run_equalIn_array w _ _ _ hu hi, hc]
    have p1 : (part 3 #[.int .i64 a, .int .i64 b] (0 * 1)).run Tryd.prog w = .ok (.int .i64 a) w := by kernel_rfl
    have p2 : (part 3 #[.int .i64 a, .int .i64 b] (1 * 1)).run Tryd.prog w = .ok (.int .i64 b) w := by kernel_rfl
    have q1 : (part 3 #[.int .i64 c, .int .i64 d] (0 * 1)).run Tryd.prog w = .ok (.int .i64 c) w := by kernel_rfl
    have q2 : (part 3 #[.int .i64 c, .int .i64 d] (1 * 1)).run Tryd.prog w = .ok (.int .i64 d) w := by kernel_rfl
    have i1 := fun a b => run_equalIn_int (P := Tryd.prog) w (Op.maxDepth - 2) 3 .i64 .i64 a b un_int
    have hr : List.range 2 = [0, 1] := by decide
    rw [hr]
    simp only [Op.eqItems, Sem.run_bind, p1, p2, q1, q2, Result.andThen_ok, i1, if_true]
    rw [Nat.mul_one] at p2 q2
    cases h1 : (a == c) <;> cases h2 : (b == d) <;> simp [Sem.run_pure, i1, p2, q2, h1, h2]
  have h2 : ((a == c) && (b == d)) = decide ((a, b) = (c, d)) := by
    rw [Bool.eq_iff_iff]; simp
  simp only [execOp, ha.eval hx, ha.eval hy, Sem.run_bind, hg, Result.andThen_ok, binOp, h1, Sem.run_pure, h2]
theorem weightOf_calls (e : List Part) (v : Value) (hl : e.length ≤ 1048576) (w : World) (hT : Tabs w) (hs : ∀ p ∈ e, p.text.size < 9223372036854775807) (hv : RdRow w v 3 e.length (encs e)) :
    Calls Tryd.prog 49 (List.toArray [v]) w fun e' w' => e' = .returned (.agg #[.int .i64 (weightF e).1, .int .i64 (weightF e).2]) ∧ Kp NoB w w' := by
  have hlen : e.length ≤ 9223372036854775807 := by obtain ⟨_, A, c, _, h1, h2, _⟩ := hv; simp only [maxLen] at h2; omega
  refine calls_start Tryd.func49 rfl rfl rfl (Hp.i1 (r := .rd v 3 e.length (encs e)) hv) ?_
  refine TC.seq ?_
  refine TC.region ?_   -- region 0 law.go:229
  refine TL.opX rfl (OpX.alloc tz_ar2_int rfl) ?_; rintro _ _ ⟨g2, rfl, rfl⟩
  refine TL.nil ?_
  refine TQ.then ?_
  refine TC.seq ?_
  refine TC.region ?_   -- region 1 law.go:230
  refine TL.opP rfl (op_move rfl) ?_
  refine TL.callq rfl en_30 rfl (fun w2 hp => weight_calls e v hl w2 (hT.kp hp.kp) hs (rd1 _ _ _ hp)) ?_
  refine TL.opP rfl (op_move rfl) ?_
  refine TL.opP rfl (op_extract rfl rfl) ?_
  refine TL.opP rfl (op_extract rfl rfl) ?_
  refine TL.opP rfl (op_assign rfl) ?_
  refine TL.opP rfl (op_assign rfl) ?_
  refine TL.nil ?_
  refine TQ.then ?_
  refine TC.seq ?_
  refine TC.region ?_   -- region 2 law.go:231
  refine TL.opP rfl (op_move rfl) ?_
  refine TL.opP rfl (op_move rfl) ?_
  refine TL.opP rfl (op_build (ps := #[(0, _), (1, _)]) rfl (bl_ar2_int_01 _ _)) ?_
  refine TL.opX0 (OpX.storeS tst_ar2_int rfl rfl rfl rfl rfl (List.all_eq_true.1 rfl)) ?_; rintro _ _ rfl
  refine TL.nil ?_
  refine TQ.then ?_
  refine TC.ret ?_
  refine retc tst_ar2_int rfl rfl m0 rfl (fun w' hp => ?_)
  exact ⟨rfl, hp.kp⟩

end Go.SK
