/- Walks: what the laws of histories lean on: one split for every boolean, acts that came in. -/
import Derived.Test.YtcfdglknagbbgaaDoorE49
import Derived.Test.YtcfdglknagbbgaaDoorP61
set_option linter.unusedVariables false
set_option linter.unusedSimpArgs false
set_option maxRecDepth 100000
namespace Go.SK
open Go Go.RowKit Go.Proofs
class BIs (b : Bool) (p q : outParam Prop) : Prop where
  t : b = true → p
  f : b = false → q
instance (priority := low) {b : Bool} : BIs b (b = true) (b = false) := ⟨id, id⟩
instance {p : Prop} [Decidable p] : BIs (decide p) p (¬ p) := ⟨of_decide_eq_true, of_decide_eq_false⟩
instance {p : Prop} [Decidable p] : BIs (!decide p) (¬ p) p := ⟨fun h => of_decide_eq_false (by simpa using h), fun h => of_decide_eq_true (by simpa using h)⟩
section
variable {P : Program} {Q : Exit → Act → World → Prop} {n : Nat} {l : FrL} {S : Nat → Prop} {w0 : World} {L LS : List Res} {ops : Array Oper} {rest : List Oper} {ord : Od} {t : Nat} {b : Bool} {p q : Prop} [BIs b p q]
theorem TL.sp (ht : p → TL P ops Q rest n ((t, .bool true) :: l) S w0 L) (hf : q → TL P ops Q rest n ((t, .bool false) :: l) S w0 L) : TL P ops Q rest n ((t, .bool b) :: l) S w0 L := by
  cases b with
  | true => exact ht (BIs.t (q := q) rfl)
  | false => exact hf (BIs.f (p := p) rfl)
theorem TR.sp (ht : p → TR P ops Q LS ord n ((t, .bool true) :: l) S w0 L) (hf : q → TR P ops Q LS ord n ((t, .bool false) :: l) S w0 L) : TR P ops Q LS ord n ((t, .bool b) :: l) S w0 L := by
  cases b with
  | true => exact ht (BIs.t (q := q) rfl)
  | false => exact hf (BIs.f (p := p) rfl)
theorem TC.sp {x y : Code} (hc : evO l (.tmp t) = some (.bool b)) (ht : p → TC P x Q n ((t, .bool true) :: l) S w0 L) (hf : q → TC P y Q n ((t, .bool false) :: l) S w0 L) : TC P (.cond (.tmp t) x y) Q n l S w0 L :=
  TC.condB hc (fun h => ht (BIs.t (q := q) h)) (fun h => hf (BIs.f (p := p) h))
end
variable {S : Nat → Prop} {w0 : World} {F L : List Res}
theorem op_rem {P : Program} {n : Nat} {l : FrL} {dst : Option Tmp} {x y : Operand} {ty t t' : TypeId} {pos : String} {af : Array Edge} {gd : Option (Nat × Bool)} {k : IntKind} {a b : Int} (hx : evO l x = some (.int k a)) (hy : evO l y = some (.int k b)) (h0 : 0 ≤ a) (h1 : 0 < b) :
    OpP P n l ⟨dst, .binOp .rem t x y t', ty, pos, af, gd⟩ (.int k (a % b)) := fun q w ha => by
  simp [execOp, ha.eval hx, ha.eval hy, eqGuard, binOp, Op.intDiv, if_neg (show ¬ b = 0 by omega), Int.tmod_eq_emod_of_nonneg h0]
theorem op_and {P : Program} {n : Nat} {l : FrL} {dst : Option Tmp} {x y : Operand} {ty t t' : TypeId} {pos : String} {af : Array Edge} {gd : Option (Nat × Bool)} {k : IntKind} {a b : Int} (hx : evO l x = some (.int k a)) (hy : evO l y = some (.int k b)) :
    OpP P n l ⟨dst, .binOp .and t x y t', ty, pos, af, gd⟩ (.int k (k.wrap (BitVec.ofInt k.bits a &&& BitVec.ofInt k.bits b).toNat)) := fun q w ha => by
  simp [execOp, ha.eval hx, ha.eval hy, eqGuard, binOp, Op.intBits]
theorem u64_pos (a : Int) : 0 ≤ IntKind.u64.wrap a := by rw [IntKind.wrap_u64]; omega
def dcol (l : List DoE) : List Ent := l.map fun d => (d.v, d.e.length, encs d.e)
theorem dcol_holds {W : World} {l : List DoE} (h : ∀ d ∈ l, EditIn W d.v d.e) : (col 3 (dcol l)).holds W := fun x hx => by
  obtain ⟨d, hd, rfl⟩ := List.mem_map.1 hx
  exact (h d hd).rd
theorem dcol_mem {l : List DoE} {d : DoE} (h : d ∈ l) : ((d.v, d.e.length, encs d.e) : Ent) ∈ dcol l := List.mem_map.2 ⟨d, h, rfl⟩
theorem do_one {d : DoE} : ∀ u ∈ [Value.int .i64 d.op, .int .i64 d.n, d.v], u.oneCell' = true := fun u hu => by
  simp only [List.mem_cons, List.not_mem_nil, or_false] at hu
  rcases hu with rfl | rfl | rfl
  · rfl
  · rfl
  · exact d.h
theorem bs_sealskinlaw17_Do_1 (d : DoE) : ∀ w : World, (Instr.buildSlice 22 1 #[(0, .agg #[.int .i64 d.op, .int .i64 d.n, d.v])]).run Tryd.prog w = .ok (.slice (some ⟨w.heap.size, 0, none⟩) 1 1) (w.alloc (.cells (encs [d]).toArray 26 (0, 0))) := by
  intro w
  obtain ⟨a, b, v, e, h⟩ := d
  cases v <;> first | (cases h; done) | kernel_rfl
theorem bs_sealskinlaw17_Do_2 (d c : DoE) : ∀ w : World, (Instr.buildSlice 22 2 #[(0, .agg #[.int .i64 d.op, .int .i64 d.n, d.v]), (1, .agg #[.int .i64 c.op, .int .i64 c.n, c.v])]).run Tryd.prog w = .ok (.slice (some ⟨w.heap.size, 0, none⟩) 2 2) (w.alloc (.cells (encs [d, c]).toArray 26 (0, 0))) := by
  intro w
  obtain ⟨a, b, v, e, h⟩ := d
  obtain ⟨a', b', v', e', h'⟩ := c
  cases v <;> first | (cases h; done) | (cases v' <;> first | (cases h'; done) | kernel_rfl)
/-- How many bytes all acts' texts have. -/
def dsum : List DoE → Nat
  | [] => 0
  | d :: r => bsum d.e + dsum r
theorem dsum_drop {l : List DoE} {i : Nat} {d : DoE} (h : i < l.length) (hd : l.getD i default = d) : dsum (l.drop i) = bsum d.e + dsum (l.drop (i + 1)) := by
  rw [List.drop_eq_getElem_cons h]
  rw [List.getD_eq_getElem?_getD, List.getElem?_eq_getElem h] at hd
  simp only [Option.getD_some] at hd
  rw [hd]; rfl
end Go.SK
