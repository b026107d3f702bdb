/- Plain words: what is light, and what is narrow. -/
import Derived.Test.YtgklklmcmdcpgaaDoorP7
set_option linter.unusedVariables false
set_option linter.unusedSimpArgs false
set_option maxRecDepth 100000
namespace Go.SK
open Go Go.RowKit
theorem lkP {e : List Part} {i k : Nat} {p : Part} {v : Value} (j : Nat) (h : i < e.length) (hp : e.getD i default = p) (hk : k = i * 3 + j) (hj : j < 3) (hv : p.cs[j]? = some v) : (encs e)[k]? = some v := by
  subst hk; subst hp
  exact (encs_get e i j h hj).trans hv
/-- What the laws' guard lets in: few parts. (One text alone may be long.) -/
def Light (e : List Part) : Prop := e.length ≤ 200
/-- The bytes of all texts, of each one at most 4096. -/
def tl : List Part → Int
  | [] => 0
  | p :: r => minI p.text.size 4096 + tl r
def lsum : List (Value × List Part) → Int
  | [] => 0
  | x :: r => tl x.2 + lsum r
theorem tl_append : ∀ (a b : List Part), tl (a ++ b) = tl a + tl b
  | [], b => by simp [tl]
  | p :: r, b => by simp only [List.cons_append, tl, tl_append r b]; omega
theorem lsum_append : ∀ (a b : List (Value × List Part)), lsum (a ++ b) = lsum a + lsum b
  | [], b => by simp [lsum]
  | p :: r, b => by simp only [List.cons_append, lsum, lsum_append r b]; omega
structure LInv (es : List (Value × List Part)) (k : Nat) (n : Int) : Prop where
  kle : k ≤ es.length
  n0 : 0 ≤ n
  n1 : n ≤ 8192
  ok : ∀ j, j < k → (es.getD j default).2.length ≤ 200
  sum : n ≤ 4096 → n = lsum (es.take k)
theorem LInv.start (es : List (Value × List Part)) : LInv es 0 0 := ⟨Nat.zero_le _, by omega, by omega, fun j h => by omega, fun _ => rfl⟩
structure LIn (e : List Part) (n0 : Int) (i : Nat) (n : Int) : Prop where
  ile : i ≤ e.length
  m0 : n0 ≤ n
  m1 : n ≤ 8192
  sum : n = n0 + tl (e.take i)
theorem LIn.start (e : List Part) {n : Int} (h : n ≤ 8192) : LIn e n 0 n := ⟨Nat.zero_le _, by omega, h, by simp [tl]⟩
theorem LIn.step {e : List Part} {n0 n : Int} {i : Nat} {p : Part} (h : LIn e n0 i n) (hi : i < e.length) (hp : e.getD i default = p) (hn : n ≤ 4096) : LIn e n0 (i + 1) (n + minI p.text.size 4096) := by
  have h1 := h.m0
  have hm := minI_le (p.text.size : Int) 4096
  have hm0 : 0 ≤ minI (p.text.size : Int) 4096 := by omega
  refine ⟨by omega, by omega, by omega, ?_⟩
  rw [take_getD hi hp, tl_append, h.sum]
  simp only [tl]; omega
theorem LInv.step {es : List (Value × List Part)} {k : Nat} {n0 n : Int} {i : Nat} (h : LInv es k n0) (hk : k < es.length) (hin : LIn (es.getD k default).2 n0 i n) (hl : (es.getD k default).2.length ≤ 200) (hi : n ≤ 4096 → (es.getD k default).2.length ≤ i) : LInv es (k + 1) n := by
  have h1 := h.n0; have h2 := hin.m0; have h3 := hin.m1
  refine ⟨by omega, by omega, h3, fun j hj => ?_, fun hn => ?_⟩
  · rcases Nat.lt_or_ge j k with hjk | hjk
    · exact h.ok j hjk
    · obtain rfl : j = k := by omega
      exact hl
  · have h4 := hin.sum
    rw [List.take_of_length_le (hi hn)] at h4
    rw [take_getD hk rfl, lsum_append, ← h.sum (by omega), h4]
    simp only [lsum]; omega
theorem LInv.stop {es : List (Value × List Part)} {k : Nat} {n : Int} (h : LInv es k n) (hk : ¬ k < es.length) (hn : n ≤ 4096) : (∀ x ∈ es, Light x.2) ∧ lsum es ≤ 4096 := ⟨fun x hx => by
  obtain ⟨j, hj, rfl⟩ := List.mem_iff_getElem.1 hx
  have := h.ok j (by omega)
  rw [List.getD_eq_getElem?_getD, List.getElem?_eq_getElem hj] at this
  exact this, by
  have := h.sum hn
  rw [List.take_of_length_le (by omega)] at this
  omega⟩
def Narrow (e : List Part) : Prop := sizeE e = 0 → (sizeF e).1 ≤ 400 ∧ (sizeF e).2 ≤ 400
theorem narrow_step {es : List (Value × List Part)} {k : Nat} {x : Value × List Part} (h : ∀ j, j < k → Narrow (es.getD j default).2) (hx : es.getD k default = x) (hn : Narrow x.2) : ∀ j, j < k + 1 → Narrow (es.getD j default).2 := fun j hj => by
  rcases Nat.lt_or_ge j k with h1 | h1
  · exact h j h1
  · obtain rfl : j = k := by omega
    rw [hx]; exact hn
theorem narrow_all {es : List (Value × List Part)} {k : Nat} (h : ∀ j, j < k → Narrow (es.getD j default).2) (hk : ¬ k < es.length) : ∀ x ∈ es, Narrow x.2 := fun x hx => by
  obtain ⟨j, hj, rfl⟩ := List.mem_iff_getElem.1 hx
  have := h j (by omega)
  rw [List.getD_eq_getElem?_getD, List.getElem?_eq_getElem hj] at this
  exact this
theorem getD_mem {α : Type} [Inhabited α] {l : List α} {k : Nat} {x : α} (h : k < l.length) (hx : l.getD k default = x) : x ∈ l := by
  rw [← hx, List.getD_eq_getElem?_getD, List.getElem?_eq_getElem h]; exact List.getElem_mem h
theorem lkV {es : List (Value × List Part)} {k i : Nat} {x : Value × List Part} (h : k < es.length) (hx : es.getD k default = x) (hi : i = k) : (es.map (·.1))[i]? = some x.1 := by
  subst hi
  rw [List.getElem?_map, List.getElem?_eq_getElem h]
  rw [List.getD_eq_getElem?_getD, List.getElem?_eq_getElem h] at hx
  simp at hx ⊢; rw [hx]
/-- A list of parts that came in. -/
structure EditIn (W : World) (v : Value) (e : List Part) : Prop where
  rd : RdRow W v 3 e.length (encs e)
  txt : ∀ q ∈ e, q.text.size ≤ 140737488351232
  len : e.length ≤ 4398046511104
theorem EditIn.small {W : World} {v : Value} {e : List Part} (h : EditIn W v e) : small e := fun p hp => by have := h.txt p hp; omega
section
variable {P : Program} {n : Nat} {l : FrL} {S : Nat → Prop} {w0 : World} {L : List Res} {dst : Option Tmp} {ty t' : TypeId} {pos : String} {af : Array Edge} {gd : Option (Nat × Bool)} {x : Operand}
/-- A slice held against nil. -/
theorem OpX.eqNil {t : TypeId} {v : Value} {sz m : Nat} {xs : List Value} (hx : evO l x = some v) (hr : Rdb L v sz m xs) (hq : ∀ (A : Option Addr) (c : Nat) (w : World), (binOp .eql t (.slice A m c) (.slice none 0 0)).run P w = .ok (.bool (decide (A = none))) w) :
    OpX P n l S w0 L ⟨dst, .binOp .eql t x (.const (.slice none 0 0)) t', ty, pos, af, gd⟩ (fun u L' => ∃ b, u = .bool b ∧ (b = true → m = 0) ∧ L' = L) := .of_run fun a w ha hp => by
  obtain ⟨hl, A, c, rfl, _, _, hA, _⟩ := hr S w0 w hp
  refine ⟨_, w, L, ?_, ⟨decide (A = none), rfl, fun hb => ?_, rfl⟩, hp⟩
  · have hg : (eqGuard .eql t x (.const (.slice none 0 0)) (.slice A m c) (.slice none 0 0)).run P w = .ok () w := by simp [eqGuard]
    have hc : a.eval (.const (.slice none 0 0)) = .slice none 0 0 := rfl
    simp only [execOp, ha.eval hx, hc, Sem.run_bind, hg, Result.andThen_ok, hq A c w, Sem.run_pure]
  · rcases Nat.eq_zero_or_pos m with h | h
    · exact h
    · obtain ⟨ad, h2⟩ := hA h
      rw [h2] at hb; simp at hb
theorem op_beql {t : TypeId} {x y : Operand} {a b : Bool} (ht : P.underlying t = some .bool) (hx : evO l x = some (.bool a)) (hy : evO l y = some (.bool b)) : OpP P n l ⟨dst, .binOp .eql t x y t', ty, pos, af, gd⟩ (.bool (decide (a = b))) := fun q w ha => by
  have h1 : (Op.equal t (.bool a) (.bool b)).run P w = .ok (a == b) w := by
    unfold Op.equal
    rw [show Op.maxDepth = (Op.maxDepth - 1) + 1 from by decide]
    exact run_equalIn_bool' w _ t a b ht
  have h2 : (a == b) = decide (a = b) := by cases a <;> cases b <;> rfl
  simp only [execOp, ha.eval hx, ha.eval hy, Sem.run_bind, eqGuard, binOp]
  simp [h1, h2]
end
end Go.SK
