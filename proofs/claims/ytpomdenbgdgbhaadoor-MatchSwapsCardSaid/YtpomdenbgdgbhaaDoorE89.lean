/- Layer 12: what the program and the document make of a pattern's text is alike. -/
import Derived.Test.YtpomdenbgdgbhaaDoorE88
set_option linter.unusedVariables false
set_option linter.unusedSimpArgs false
set_option maxRecDepth 100000
namespace Go.SK
open Go Go.RowKit Go.Proofs
variable {S : Nat → Prop} {w0 : World} {F L : List Res}
theorem xpat_eqo (o : Option Addr) (w : World) : (binOp .eql 69 (.pointer o) (.pointer none)).run Tryd.prog w = .ok (.bool (decide (o = none))) w := by cases o <;> kernel_rfl
theorem cmp_same {s : ByteArray} {rs rx : List Res} {v x : Value} {i e j f : Int} (h : CmpRes s rs v i e) (h' : XCmpRes s rx x j f) :
    i = j ∧ e = f ∧ ∃ A B : Option Addr, v = .pointer A ∧ x = .pointer B ∧ ((A = none ∧ B = none) ∨ ∃ a b lv lv2, ∃ g : Nat, A = some ⟨a, 0, none⟩ ∧ B = some ⟨b, 0, none⟩ ∧ Res.blk a (.cells [lv, .int .i64 (g : Int), .bool true].toArray 81 (0, 0)) ∈ rs ∧ Res.blk b (.cells [lv2, .int .i64 (g : Int)].toArray 78 (0, 0)) ∈ rx) := by
  unfold CmpRes at h
  unfold XCmpRes at h'
  cases hc : cmpF s with
  | err e' k =>
    rw [hc] at h h'
    obtain ⟨rfl, _, rfl, rfl⟩ := h
    obtain ⟨rfl, _, rfl, rfl⟩ := h'
    exact ⟨rfl, rfl, none, none, rfl, rfl, .inl ⟨rfl, rfl⟩⟩
  | ok t k g =>
    rw [hc] at h h'
    obtain ⟨rfl, rfl, a, lv, ms, rfl, ha, _⟩ := h
    obtain ⟨rfl, rfl, b, lv2, ks, rfl, hb, _⟩ := h'
    exact ⟨rfl, rfl, _, _, rfl, rfl, .inr ⟨a, b, lv, lv2, g, rfl, rfl, ha, hb⟩⟩
theorem nn_iff {A B : Option Addr} {R : Prop} (h : (A = none ∧ B = none) ∨ R) (hR : R → A ≠ none ∧ B ≠ none) : (decide (A = none) != decide (B = none)) = false := by
  rcases h with ⟨rfl, rfl⟩ | h
  · rfl
  · obtain ⟨a, b⟩ := hR h
    rw [decide_eq_false a, decide_eq_false b]; rfl
end Go.SK
