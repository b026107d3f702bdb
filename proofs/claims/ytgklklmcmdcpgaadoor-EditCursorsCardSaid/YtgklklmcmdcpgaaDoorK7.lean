/- Going over a string's code points. -/
import Derived.Test.YtgklklmcmdcpgaaDoorK6
import Derived.Laws.RangeAny
set_option linter.unusedVariables false
set_option linter.unusedSimpArgs false
set_option maxRecDepth 100000
namespace Go.SK
open Go Go.RowKit
theorem validGo_fuel : ∀ (n m : Nat) (l : List UInt8), l.length ≤ n → l.length ≤ m → Lib.validGoD n l = Lib.validGoD m l
  | 0, m, l, h, _ => by
    have : l = [] := List.length_eq_zero_iff.1 (by omega)
    subst this; cases m <;> simp [Lib.validGoD]
  | n + 1, 0, l, _, h => by
    have : l = [] := List.length_eq_zero_iff.1 (by omega)
    subst this; simp [Lib.validGoD]
  | n + 1, m + 1, l, h, h' => by
    unfold Lib.validGoD
    split
    · rfl
    · split
      · rfl
      · have := Lib.decodeL_width l
        exact validGo_fuel n m _ (by rw [List.length_drop]; omega) (by rw [List.length_drop]; omega)
theorem decsGo_fuel : ∀ (n m : Nat) (l : List UInt8), l.length ≤ n → l.length ≤ m → decsGo n l = decsGo m l
  | 0, m, l, h, _ => by
    have : l = [] := List.length_eq_zero_iff.1 (by omega)
    subst this; cases m <;> simp [decsGo]
  | n + 1, 0, l, _, h => by
    have : l = [] := List.length_eq_zero_iff.1 (by omega)
    subst this; simp [decsGo]
  | n + 1, m + 1, l, h, h' => by
    unfold decsGo
    split
    · rfl
    · have := Lib.decodeL_width l
      rw [decsGo_fuel n m _ (by rw [List.length_drop]; omega) (by rw [List.length_drop]; omega)]
theorem decsL_step {l : List UInt8} (h : l ≠ []) : decsL l = ((Lib.decodeL l).1 : Int) :: decsL (l.drop (Lib.decodeL l).2) := by
  obtain ⟨b, t, rfl⟩ := List.exists_cons_of_ne_nil h
  have hw := Lib.decodeL_width (b :: t)
  unfold decsL
  rw [List.length_cons, decsGo, if_neg h]
  congr 1
  exact decsGo_fuel _ _ _ (by rw [List.length_drop, List.length_cons]; omega) (Nat.le_refl _)
theorem validD_step {l : List UInt8} (h : l ≠ []) : Lib.validD l = if (Lib.decodeL l).1 = 65533 ∧ (Lib.decodeL l).2 = 1 then false else Lib.validD (l.drop (Lib.decodeL l).2) := by
  obtain ⟨b, t, rfl⟩ := List.exists_cons_of_ne_nil h
  have hw := Lib.decodeL_width (b :: t)
  unfold Lib.validD
  rw [List.length_cons, Lib.validGoD, if_neg h]
  split
  · rfl
  · exact validGo_fuel _ _ _ (by rw [List.length_drop, List.length_cons]; omega) (Nat.le_refl _)
/-- The code points of a string from a place on. -/
def decFrom (s : ByteArray) (pos : Nat) : List Int := decsL (s.data.toList.drop pos)
theorem decFrom_zero (s : ByteArray) : decFrom s 0 = dec s := by unfold decFrom dec; rw [List.drop_zero]
theorem decFrom_step {s : ByteArray} {pos : Nat} (h : pos < s.size) : decFrom s pos = ((Utf8.decode s pos).1 : Int) :: decFrom s (pos + (Utf8.decode s pos).2) := by
  have hl := size_len s
  have hne : s.data.toList.drop pos ≠ [] := by intro e; have := congrArg List.length e; rw [List.length_drop, List.length_nil] at this; omega
  unfold decFrom
  rw [decsL_step hne, Lib.decodeL_drop, List.drop_drop]
theorem decFrom_end {s : ByteArray} {pos : Nat} (h : ¬ pos < s.size) : decFrom s pos = [] := by
  have hl := size_len s
  unfold decFrom
  rw [List.drop_eq_nil_of_le (by omega)]; rfl
section
variable {P : Program} {n : Nat} {l : FrL} {S : Nat → Prop} {w0 : World} {L : List Res} {dst : Option Tmp} {ty : TypeId} {pos' : String} {af : Array Edge} {gd : Option (Nat × Bool)} {x : Operand}
theorem OpX.range {t : TypeId} {s : ByteArray} (ht : P.underlying t = some .string) (hx : evO l x = some (.string s)) :
    OpX P n l S w0 L ⟨dst, .range t x, ty, pos', af, gd⟩ (fun v L' => ∃ g, v = .pointer (some ⟨g, 0, none⟩) ∧ L' = .blk g (.stringIter s 0) :: L) := .of_run fun a w ha hp => by
  refine ⟨_, w.iter s 0, _, ?_, ⟨w.heap.size, rfl, rfl⟩, hp.new (Kp.iter w s 0) (World.iter_heap w s 0) (fun g hg => by cases hg; exact Nat.le_refl _)⟩
  simp [execOp, ha.eval hx, run_range_string w t s ht]
theorem OpX.next {g : Nat} {s : ByteArray} {pos : Nat} (hx : evO l x = some (.pointer (some ⟨g, 0, none⟩))) :
    OpX P n l S w0 (.blk g (.stringIter s pos) :: L) ⟨dst, .next x true, ty, pos', af, gd⟩ (fun v L' => (pos < s.size ∧ v = .tuple #[.bool true, .int .i64 pos, .int .i32 (Utf8.decode s pos).1] ∧ L' = .blk g (.stringIter s (pos + (Utf8.decode s pos).2)) :: L) ∨
      (¬ pos < s.size ∧ v = .tuple #[.bool false] ∧ L' = .blk g (.stringIter s pos) :: L)) := .of_run fun a w ha hp => by
  have hh : w.heap[g]? = some (.stringIter s pos) := hp.at_ _ (.head _)
  have hg : g < w.heap.size := by
    rcases Nat.lt_or_ge g w.heap.size with h | h
    · exact h
    · rw [Array.getElem?_eq_none h] at hh; cases hh
  by_cases h : pos < s.size
  · refine ⟨_, { w with heap := w.heap.setIfInBounds g (.stringIter s (pos + (Utf8.decode s pos).2)) }, _, ?_, .inl ⟨h, rfl, rfl⟩, hp.upd trivial ⟨rfl, rfl, rfl, by simp, fun k hk hn => ?_⟩ ?_ (fun q hq => .inl hq)⟩
    · simp only [execOp, ha.eval hx, Instr.next, getObj, setObj, Sem.run_bind, Sem.run, hh, Result.andThen, h, if_true]
      simp [goInt]
    · show (w.heap.setIfInBounds g _)[k]? = _
      rw [Array.getElem?_setIfInBounds_ne (fun e => hn e.symm)]
    · show (w.heap.setIfInBounds g _)[g]? = _
      rw [Array.getElem?_setIfInBounds_self_of_lt hg]
  · refine ⟨_, w, _, ?_, .inr ⟨h, rfl, rfl⟩, hp⟩
    simp only [execOp, ha.eval hx, Instr.next, getObj, setObj, Sem.run_bind, Sem.run, hh, Result.andThen, h, if_false]
    simp
end
end Go.SK
