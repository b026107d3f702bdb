/- Words for the laws of layer 11. -/
import Derived.Test.YtpomdenbgdgbhaaDoorE56
import Derived.Laws.Bits64
set_option linter.unusedVariables false
set_option linter.unusedSimpArgs false
set_option maxRecDepth 100000
namespace Go.SK
open Go Go.RowKit Go.Proofs
variable {S : Nat → Prop} {w0 : World} {F L : List Res}
theorem op_rem {P : Program} {n : Nat} {l : FrL} {dst : Option Tmp} {x y : Operand} {ty t t' : TypeId} {pos : String} {af : Array Edge} {gd : Option (Nat × Bool)} {k : IntKind} {a b : Int} (hx : evO l x = some (.int k a)) (hy : evO l y = some (.int k b)) (h0 : 0 ≤ a) (h1 : 0 < b) :
    OpP P n l ⟨dst, .binOp .rem t x y t', ty, pos, af, gd⟩ (.int k (a % b)) := fun q w ha => by
  simp [execOp, ha.eval hx, ha.eval hy, eqGuard, binOp, Op.intDiv, if_neg (show ¬ b = 0 by omega), Int.tmod_eq_emod_of_nonneg h0]
theorem op_bneq {P : Program} {n : Nat} {l : FrL} {dst : Option Tmp} {t t' : TypeId} {ty : TypeId} {pos : String} {af : Array Edge} {gd : Option (Nat × Bool)} {x y : Operand} {a b : Bool} (ht : P.underlying t = some .bool) (hx : evO l x = some (.bool a)) (hy : evO l y = some (.bool b)) :
    OpP P n l ⟨dst, .binOp .neq t x y t', ty, pos, af, gd⟩ (.bool (decide (¬ a = b))) := fun q w ha => by
  have h1 : (Op.equal t (.bool a) (.bool b)).run P w = .ok (a == b) w := by
    unfold Op.equal
    rw [show Op.maxDepth = (Op.maxDepth - 1) + 1 from by decide]
    exact run_equalIn_bool' w _ t a b ht
  have h2 : (!(a == b)) = decide (¬ a = b) := by cases a <;> cases b <;> rfl
  simp only [execOp, ha.eval hx, ha.eval hy, Sem.run_bind, eqGuard, binOp]
  simp [h1, h2]
theorem OpX.ofV {P : Program} {n : Nat} {l : FrL} {o : Oper} {v : Value} (h : OpV P n l S w0 L o v) : OpX P n l S w0 L o (fun u L' => u = v ∧ L' = L) := .of_run fun a w ha hp => ⟨v, w, L, h a w ha hp, ⟨rfl, rfl⟩, hp⟩
theorem yidx_eqo (o : Option Addr) (w : World) : (binOp .eql 25 (.pointer o) (.pointer none)).run Tryd.prog w = .ok (.bool (decide (o = none))) w := by cases o <;> kernel_rfl
theorem u64_pos (a : Int) : 0 ≤ IntKind.u64.wrap a := by rw [IntKind.wrap_u64]; omega
abbrev modI (a : Int) (n : Nat) : Int := IntKind.i64.wrap (IntKind.u64.wrap a % IntKind.u64.wrap ((n : Int) + 1))
theorem mod_pos {n : Nat} (h : n ≤ 1048576) : 0 < IntKind.u64.wrap ((n : Int) + 1) := by rw [IntKind.wrap_u64]; omega
theorem mod_nat (a : Int) {n : Nat} (h : n ≤ 65536) : ∃ m : Nat, modI a n = m ∧ m ≤ n := by
  have e : IntKind.u64.wrap ((n : Int) + 1) = (n : Int) + 1 := by rw [IntKind.wrap_u64]; omega
  have h2 := Int.emod_nonneg (IntKind.u64.wrap a) (show (n : Int) + 1 ≠ 0 by omega)
  have h3 := Int.emod_lt_of_pos (IntKind.u64.wrap a) (show 0 < (n : Int) + 1 by omega)
  unfold modI
  rw [e, IntKind.wrap_i64]
  generalize IntKind.u64.wrap a % ((n : Int) + 1) = z at *
  exact ⟨z.toNat, by omega, by omega⟩
end Go.SK
