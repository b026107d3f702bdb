/- Plain words for layer 3: parts, whether they fit, sizes. Plain words on edits: what is left of one, composition and transformation step by step. Plain words on edits: composition and transformation, step by step, as the program goes. Plain words on edits: transformation, step by step, as the program goes. Plain words on edits: inverse, one form, cursors, weights, step by step. Small words on lists and rows (as in P22; for texts that need no more of it). -/
import Derived.Test.YtpomdenbgdgbhaaDoorMB
import Derived.Lib.RuneCount
import Derived.Lib.ValidU
set_option linter.unusedVariables false
namespace Go.SK
structure Part where
  kind : Int
  n : Int
  text : ByteArray
  deriving DecidableEq
instance : Inhabited Part := ⟨⟨0, 0, ⟨#[]⟩⟩⟩
def Part.cs (p : Part) : List Value := [.int .i64 p.kind, .int .i64 p.n, .string p.text]
def Part.val (p : Part) : Value := .agg p.cs.toArray
instance : Enc Part := ⟨3, Part.cs, fun _ => rfl, by
  intro p u hu
  simp only [Part.cs, List.mem_cons, List.not_mem_nil, or_false] at hu
  rcases hu with rfl | rfl | rfl <;> rfl⟩


def fitsB (p : Part) : Bool :=
  if p.n < 1 then false else if 1099511627776 < p.n then false
  else if p.kind = 1 then decide (p.text = ⟨#[]⟩) else if p.kind = 3 then decide (p.text = ⟨#[]⟩)
  else if p.kind = 2 then (valid p.text && decide ((rcount p.text : Int) = p.n)) else false
def stopB (pv : Option Int) (p : Part) : Bool := !fitsB p || match pv with
  | none => false
  | some k => decide (k = p.kind) || (decide (k = 3) && decide (p.kind = 2))
def addF (p : Part) (f : Int) : Int := if p.kind = 2 then f else f + p.n
def addT (p : Part) (f : Int) : Int := if p.kind = 3 then f else f + p.n
def sizesGo : Option Int → List Part → Int → Int → Int × Int × Bool
  | _, [], f, t => (f, t, true)
  | pv, p :: r, f, t => if stopB pv p then (0, 0, false) else if 1099511627776 < addF p f ∨ 1099511627776 < addT p t then (0, 0, false) else sizesGo (some p.kind) r (addF p f) (addT p t)
def sizesF (e : List Part) : Int × Int × Bool := sizesGo none e 0 0
def prevAt (e : List Part) (k : Nat) : Option Int := if k = 0 then none else some (e.getD (k - 1) default).kind
theorem drop_getD {α : Type} [Inhabited α] {e : List α} {k : Nat} {p : α} (h : k < e.length) (hp : e.getD k default = p) : e.drop k = p :: e.drop (k + 1) := by
  rw [List.drop_eq_getElem_cons h]
  simp [List.getD_eq_getElem?_getD, List.getElem?_eq_getElem h] at hp
  rw [hp]
theorem fitsB_n {p : Part} (h : fitsB p = true) : 1 ≤ p.n ∧ p.n ≤ 1099511627776 := by
  unfold fitsB at h
  split at h
  · cases h
  · split at h
    · cases h
    · omega
theorem stopB_fits {pv : Option Int} {p : Part} (h : stopB pv p = false) : fitsB p = true := by
  unfold stopB at h
  simp at h
  exact h.1
/-! ### The maker: parts, the last one first -/
def keepP (n : Int) : Part := ⟨1, n, ⟨#[]⟩⟩
def dropP (n : Int) : Part := ⟨3, n, ⟨#[]⟩⟩
def putP (s : ByteArray) : Part := ⟨2, (rcount s : Int), s⟩
def Part.more (q p : Part) : Part := ⟨q.kind, q.n + p.n, q.text ++ p.text⟩
def addR : List Part → Part → List Part
  | r, p => if p.n = 0 then r else match r with
    | [] => [p]
    | q :: r' => if q.kind = p.kind then q.more p :: r' else if p.kind ≠ 2 ∨ q.kind ≠ 3 then p :: q :: r' else q :: addR r' p
def nsum : List Part → Int
  | [] => 0
  | q :: r => q.n + nsum r
def tsum : List Part → Nat
  | [] => 0
  | q :: r => q.text.size + tsum r
structure OneB (r : List Part) (p : Part) : Prop where
  pos : ∀ q ∈ r, 0 ≤ q.n
  p0 : 0 ≤ p.n
  n : nsum r + p.n ≤ 4611686018427387904
  t : tsum r + p.text.size ≤ 4611686018427387904
  len : r.length < 1099511627776
theorem nsum_pos : ∀ {r : List Part}, (∀ q ∈ r, 0 ≤ q.n) → 0 ≤ nsum r
  | [], _ => by simp [nsum]
  | q :: r, h => by have := h q (.head _); have := nsum_pos (fun x hx => h x (.tail _ hx)); simp only [nsum]; omega
theorem OneB.tail {q : Part} {r : List Part} {p : Part} (h : OneB (q :: r) p) : OneB r p := by
  have h0 := h.pos q (.head _); have h1 := h.n; have h2 := h.t; have h3 := h.len
  simp only [nsum, tsum, List.length_cons] at h1 h2 h3
  exact ⟨fun x hx => h.pos x (.tail _ hx), h.p0, by omega, by omega, by omega⟩
theorem OneB.head {q : Part} {r : List Part} {p : Part} (h : OneB (q :: r) p) : 0 ≤ q.n ∧ q.n + p.n ≤ 4611686018427387904 ∧ q.text.size + p.text.size ≤ 4611686018427387904 ∧ r.length + 1 < 1099511627776 := by
  have h0 := h.pos q (.head _); have h1 := h.n; have h2 := h.t; have h3 := h.len; have h4 := nsum_pos h.tail.pos
  simp only [nsum, tsum, List.length_cons] at h1 h2 h3
  exact ⟨h0, by omega, by omega, h3⟩
theorem addR_facts : ∀ (r : List Part) (p : Part), (∀ q ∈ r, 0 ≤ q.n) → 0 ≤ p.n → (∀ q ∈ addR r p, 0 ≤ q.n) ∧ nsum (addR r p) = nsum r + p.n ∧ tsum (addR r p) ≤ tsum r + p.text.size ∧ (addR r p).length ≤ r.length + 1
  | [], p, h, h0 => by
    unfold addR
    split
    · simp [nsum, tsum, *]
    · simp [nsum, tsum, h0]
  | q :: r, p, h, h0 => by
    have hq := h q (.head _)
    have hr := fun x hx => h x (List.Mem.tail q hx)
    unfold addR
    split
    · refine ⟨h, by omega, by omega, by omega⟩
    · simp only
      split
      · refine ⟨fun x hx => ?_, by simp only [nsum, Part.more]; omega, by simp only [tsum, Part.more, ByteArray.size_append]; omega, by simp⟩
        rcases List.mem_cons.1 hx with rfl | hx
        · simp only [Part.more]; omega
        · exact hr x hx
      · split
        · refine ⟨fun x hx => ?_, by simp only [nsum]; omega, by simp only [tsum]; omega, by simp⟩
          rcases List.mem_cons.1 hx with rfl | hx
          · exact h0
          · exact h x hx
        · obtain ⟨h1, h2, h3, h4⟩ := addR_facts r p hr h0
          refine ⟨fun x hx => ?_, by simp only [nsum]; omega, by simp only [tsum]; omega, by simp only [List.length_cons]; omega⟩
          rcases List.mem_cons.1 hx with rfl | hx
          · exact hq
          · exact h1 x hx
theorem encs_rev (q : Part) (r : List Part) : encs (q :: r).reverse = encs r.reverse ++ q.cs := by rw [List.reverse_cons, encs_append]; rfl
theorem encs3 (r : List Part) : (encs r).length = r.length * 3 := encs_length r
theorem lkR {q : Part} {r : List Part} {k : Nat} (j : Nat) {v : Value} (hk : k = r.length * 3 + j) (hv : q.cs[j]? = some v) : (encs (q :: r).reverse)[k]? = some v := by
  subst hk
  rw [encs_rev, List.getElem?_append_right (by rw [encs3, List.length_reverse]; omega), encs3, List.length_reverse, Nat.add_sub_cancel_left]
  exact hv
theorem lkRS {q : Part} {r : List Part} {k : Nat} (hk : k = r.length * 3) : ((encs (q :: r).reverse).drop k).take 3 = q.cs := by
  subst hk
  rw [encs_rev, List.drop_append_of_le_length (by rw [encs3, List.length_reverse]; exact Nat.le_refl _), List.drop_eq_nil_of_le (by rw [encs3, List.length_reverse]; exact Nat.le_refl _)]
  rfl
theorem stR {q q' : Part} {r : List Part} {k : Nat} (j : Nat) (u : Value) (hk : k = r.length * 3 + j) (hq : q.cs.take j ++ [u] ++ q.cs.drop (j + 1) = q'.cs) (hj : j < 3) : (encs (q :: r).reverse).take k ++ [u] ++ (encs (q :: r).reverse).drop (k + 1) = encs (q' :: r).reverse := by
  subst hk
  have hl : (encs r.reverse).length = r.length * 3 := by rw [encs3, List.length_reverse]
  rw [encs_rev, encs_rev, ← hq, List.take_append, List.drop_append, hl, List.take_of_length_le (by rw [hl]; omega), List.drop_eq_nil_of_le (by rw [hl]; omega), Nat.add_sub_cancel_left, show r.length * 3 + j + 1 - r.length * 3 = j + 1 by omega]
  simp
theorem takeR {S : Nat → Prop} {w0 w : World} {L : List Res} {v : Value} {e : TypeId} {q : Part} {r : List Part} (h : Hp S w0 w (.row v e 3 (q :: r).length (encs (q :: r).reverse) :: L)) : Hp S w0 w (.row (Value.cut v 0 r.length 3) e 3 r.length (encs r.reverse) :: L) := by
  have h1 := row_take h (m' := r.length) (by simp)
  rw [encs_rev, List.take_append_of_le_length (by rw [encs3, List.length_reverse]; exact Nat.le_refl _), List.take_of_length_le (by rw [encs3, List.length_reverse]; exact Nat.le_refl _)] at h1
  exact h1
theorem addR_zero {r : List Part} {p : Part} (h : p.n = 0) : addR r p = r := by unfold addR; rw [if_pos h]
theorem addR_nil {p : Part} (h : ¬ p.n = 0) : addR [] p = [p] := by unfold addR; rw [if_neg h]
theorem addR_more {q : Part} {r : List Part} {p : Part} (h : ¬ p.n = 0) (h1 : q.kind = p.kind) : addR (q :: r) p = q.more p :: r := by rw [addR, if_neg h]; simp only [if_pos h1]
theorem addR_push {q : Part} {r : List Part} {p : Part} (h : ¬ p.n = 0) (h1 : ¬ q.kind = p.kind) (h2 : p.kind ≠ 2 ∨ q.kind ≠ 3) : addR (q :: r) p = p :: q :: r := by rw [addR, if_neg h]; simp only [if_neg h1, if_pos h2]
theorem addR_deep {q : Part} {r : List Part} {p : Part} (h : ¬ p.n = 0) (h1 : ¬ q.kind = p.kind) (h2 : ¬ (p.kind ≠ 2 ∨ q.kind ≠ 3)) : addR (q :: r) p = q :: addR r p := by rw [addR, if_neg h]; simp only [if_neg h1, if_neg h2]
theorem encs_push (r : List Part) (p : Part) : encs r.reverse ++ encs [p] = encs (p :: r).reverse := by rw [encs_rev]; rfl
/-! ### Several parts, and what the functions answer -/
def addRs (r ps : List Part) : List Part := ps.foldl addR r
structure ManyB (r ps : List Part) : Prop where
  pos : ∀ q ∈ r, 0 ≤ q.n
  pos' : ∀ q ∈ ps, 0 ≤ q.n
  n : nsum r + nsum ps ≤ 4611686018427387904
  t : tsum r + tsum ps ≤ 4611686018427387904
  len : r.length + ps.length < 1099511627776
theorem addRs_cons (r : List Part) (p : Part) (ps : List Part) : addRs r (p :: ps) = addRs (addR r p) ps := rfl
theorem addRs_append (r ps qs : List Part) : addRs r (ps ++ qs) = addRs (addRs r ps) qs := by simp [addRs]
theorem take_getD {α : Type} [Inhabited α] {e : List α} {k : Nat} {p : α} (h : k < e.length) (hp : e.getD k default = p) : e.take (k + 1) = e.take k ++ [p] := by
  rw [List.take_succ_eq_append_getElem h]
  simp [List.getD_eq_getElem?_getD, List.getElem?_eq_getElem h] at hp
  rw [hp]
theorem addRs_take {r ps : List Part} {k : Nat} {p : Part} (h : k < ps.length) (hp : ps.getD k default = p) : addRs r (ps.take (k + 1)) = addR (addRs r (ps.take k)) p := by rw [take_getD h hp, addRs_append]; rfl
theorem addRs_facts : ∀ (ps r : List Part), (∀ q ∈ r, 0 ≤ q.n) → (∀ q ∈ ps, 0 ≤ q.n) → (∀ q ∈ addRs r ps, 0 ≤ q.n) ∧ nsum (addRs r ps) = nsum r + nsum ps ∧ tsum (addRs r ps) ≤ tsum r + tsum ps ∧ (addRs r ps).length ≤ r.length + ps.length
  | [], r, h, _ => ⟨h, by simp [addRs, nsum], by simp [addRs, tsum], by simp [addRs]⟩
  | p :: ps, r, h, h' => by
    obtain ⟨h1, h2, h3, h4⟩ := addR_facts r p h (h' p (.head _))
    obtain ⟨k1, k2, k3, k4⟩ := addRs_facts ps (addR r p) h1 (fun q hq => h' q (.tail _ hq))
    rw [addRs_cons]
    exact ⟨k1, by simp only [nsum]; omega, by simp only [tsum]; omega, by simp only [List.length_cons]; omega⟩
theorem nsum_append (a b : List Part) : nsum (a ++ b) = nsum a + nsum b := by induction a with | nil => simp [nsum] | cons p a ih => simp only [List.cons_append, nsum, ih]; omega
theorem tsum_append (a b : List Part) : tsum (a ++ b) = tsum a + tsum b := by induction a with | nil => simp [tsum] | cons p a ih => simp only [List.cons_append, tsum, ih]; omega
theorem ManyB.step {r ps : List Part} {k : Nat} {p : Part} (h : ManyB r ps) (hk : k < ps.length) (hp : ps.getD k default = p) : OneB (addRs r (ps.take k)) p := by
  have hs : ps = ps.take k ++ p :: ps.drop (k + 1) := by rw [← drop_getD hk hp, List.take_append_drop]
  have h1 : ∀ q ∈ ps.take k, 0 ≤ q.n := fun q hq => h.pos' q (List.mem_of_mem_take hq)
  have h2 : ∀ q ∈ ps.drop (k + 1), 0 ≤ q.n := fun q hq => h.pos' q (List.mem_of_mem_drop hq)
  obtain ⟨k1, k2, k3, k4⟩ := addRs_facts (ps.take k) r h.pos h1
  have hn := h.n; have ht := h.t; have hl := h.len
  rw [hs, nsum_append] at hn; rw [hs, tsum_append] at ht
  simp only [nsum, tsum] at hn ht
  have := nsum_pos h2
  rw [List.length_take] at k4
  refine ⟨k1, h.pos' p (by rw [hs]; simp), by omega, by omega, by omega⟩
def checkF (e : List Part) (n : Int) : Int := if (sizesF e).2.2 = false ∨ (sizesF e).1 ≠ n then 30 else 0
def sizeE (e : List Part) : Int := if (sizesF e).2.2 = true then 0 else 30
def replBad (n a k : Int) (s : ByteArray) : Prop := n < 0 ∨ 1099511627776 < n ∨ a < 0 ∨ n < a ∨ k < 0 ∨ n - a < k ∨ valid s = false ∨ 1099511627776 - n < (rcount s : Int)
instance (n a k : Int) (s : ByteArray) : Decidable (replBad n a k s) := by unfold replBad; infer_instance
def normF (l : List Part) : List Part := (addRs [] (l.filter fitsB)).reverse
theorem sizesGo_ok : ∀ (e : List Part) (pv : Option Int) (f t : Int), (sizesGo pv e f t).2.2 = true → ∀ p ∈ e, fitsB p = true
  | [], _, _, _, _ => by simp
  | p :: r, pv, f, t, h => by
    simp only [sizesGo] at h
    split at h
    · cases h
    · rename_i h1
      split at h
      · cases h
      · intro q hq
        rcases List.mem_cons.1 hq with rfl | hq
        · exact stopB_fits (by simpa using h1)
        · exact sizesGo_ok r _ _ _ h q hq
theorem sizesGo_bound : ∀ (e : List Part) (pv : Option Int) (f t : Int), 0 ≤ f → f ≤ 1099511627776 → 0 ≤ t → t ≤ 1099511627776 → 0 ≤ (sizesGo pv e f t).1 ∧ (sizesGo pv e f t).1 ≤ 1099511627776 ∧ 0 ≤ (sizesGo pv e f t).2.1 ∧ (sizesGo pv e f t).2.1 ≤ 1099511627776
  | [], _, f, t, h1, h2, h3, h4 => ⟨h1, h2, h3, h4⟩
  | p :: r, pv, f, t, h1, h2, h3, h4 => by
    simp only [sizesGo]
    split
    · simp
    · rename_i hs
      split
      · simp
      · have := fitsB_n (stopB_fits (pv := pv) (p := p) (by simpa using hs))
        exact sizesGo_bound r _ _ _ (by unfold addF; split <;> omega) (by omega) (by unfold addT; split <;> omega) (by omega)
theorem sizesF_bound (e : List Part) : 0 ≤ (sizesF e).1 ∧ (sizesF e).1 ≤ 1099511627776 ∧ 0 ≤ (sizesF e).2.1 ∧ (sizesF e).2.1 ≤ 1099511627776 := sizesGo_bound e _ 0 0 (by omega) (by omega) (by omega) (by omega)
/-! ### A walk over an edit: what is left of it, and the text of the first one -/
def loadT : List Part → List Int → List Int
  | p :: _, tx => if p.kind = 2 then dec p.text else tx
  | [], tx => tx
def kindL : List Part → Int
  | [] => 0
  | p :: _ => p.kind
def takeQ (p : Part) (tx : List Int) (n : Int) : Part := ⟨p.kind, n, if p.kind = 2 then enc (tx.take n.toNat) else p.text⟩
def takeL (p : Part) (l : List Part) (n : Int) : List Part := if p.n - n = 0 then l else ⟨p.kind, p.n - n, p.text⟩ :: l
def takeT (p : Part) (l : List Part) (tx : List Int) (n : Int) : List Int := if p.n - n = 0 then loadT l (if p.kind = 2 then tx.drop n.toNat else tx) else (if p.kind = 2 then tx.drop n.toNat else tx)
end Go.SK

set_option linter.unusedVariables false
set_option linter.unusedSimpArgs false
namespace Go.SK
open Go
def fromS : List Part → Int
  | [] => 0
  | p :: r => (if p.kind = 2 then 0 else p.n) + fromS r
def toS : List Part → Int
  | [] => 0
  | p :: r => (if p.kind = 3 then 0 else p.n) + toS r
def Fits (e : List Part) : Prop := ∀ p ∈ e, fitsB p = true
theorem Fits.tail {p : Part} {e : List Part} (h : Fits (p :: e)) : Fits e := fun q hq => h q (.tail _ hq)
theorem Fits.cons {p : Part} {e : List Part} (h : fitsB p = true) (h' : Fits e) : Fits (p :: e) := fun q hq => (List.mem_cons.1 hq).elim (fun x => x ▸ h) (h' q)
theorem fitsB_cases {p : Part} (h : fitsB p = true) : 1 ≤ p.n ∧ p.n ≤ 1099511627776 ∧ ((p.kind = 1 ∧ p.text = ⟨#[]⟩) ∨ (p.kind = 3 ∧ p.text = ⟨#[]⟩) ∨ (p.kind = 2 ∧ valid p.text = true ∧ ((dec p.text).length : Int) = p.n)) := by
  have hn := fitsB_n h
  refine ⟨hn.1, hn.2, ?_⟩
  unfold fitsB at h
  rw [if_neg (by omega), if_neg (by omega)] at h
  split at h
  · rename_i hk; exact .inl ⟨hk, by simpa using h⟩
  · split at h
    · rename_i hk; exact .inr (.inl ⟨hk, by simpa using h⟩)
    · split at h
      · rename_i hk
        simp only [Bool.and_eq_true, decide_eq_true_eq] at h
        refine .inr (.inr ⟨hk, h.1, ?_⟩)
        rw [← rcount_dec]; exact h.2
      · cases h
theorem fitsB_mk {p : Part} (h1 : 1 ≤ p.n) (h2 : p.n ≤ 1099511627776) (h : (p.kind = 1 ∧ p.text = ⟨#[]⟩) ∨ (p.kind = 3 ∧ p.text = ⟨#[]⟩) ∨ (p.kind = 2 ∧ valid p.text = true ∧ ((dec p.text).length : Int) = p.n)) : fitsB p = true := by
  unfold fitsB
  rw [if_neg (by omega), if_neg (by omega)]
  rcases h with ⟨hk, ht⟩ | ⟨hk, ht⟩ | ⟨hk, hv, hl⟩
  · rw [if_pos hk]; simp [ht]
  · rw [if_neg (by omega), if_pos hk]; simp [ht]
  · rw [if_neg (by omega), if_neg (by omega), if_pos hk]
    simp only [Bool.and_eq_true, decide_eq_true_eq]
    exact ⟨hv, by rw [rcount_dec]; exact hl⟩
theorem sizesGo_sum : ∀ (e : List Part) (pv : Option Int) (f t : Int), (sizesGo pv e f t).2.2 = true → (sizesGo pv e f t).1 = f + fromS e ∧ (sizesGo pv e f t).2.1 = t + toS e
  | [], _, f, t, _ => by simp [sizesGo, fromS, toS]
  | p :: r, pv, f, t, h => by
    simp only [sizesGo] at h ⊢
    split at h
    · cases h
    · split at h
      · cases h
      · rename_i h1 h2
        rw [if_neg h1, if_neg h2]
        obtain ⟨k1, k2⟩ := sizesGo_sum r _ _ _ h
        rw [k1, k2]
        simp only [addF, addT, fromS, toS]
        constructor <;> split <;> omega
theorem sizesF_sum {e : List Part} (h : (sizesF e).2.2 = true) : (sizesF e).1 = fromS e ∧ (sizesF e).2.1 = toS e ∧ Fits e := by
  have := sizesGo_sum e none 0 0 h
  exact ⟨by have := this.1; simpa [sizesF] using this, by have := this.2; simpa [sizesF] using this, sizesGo_ok e none 0 0 h⟩
theorem fromS_pos : ∀ {e : List Part}, Fits e → 0 ≤ fromS e ∧ 0 ≤ toS e ∧ nsum e ≤ fromS e + toS e ∧ 0 ≤ nsum e
  | [], _ => by simp [fromS, toS, nsum]
  | p :: r, h => by
    have h1 := fitsB_cases (h p (.head _))
    have h2 := fromS_pos h.tail
    simp only [fromS, toS, nsum]
    split <;> split <;> omega
/-! ### Apply -/
def apGo : List Part → List Int → List Int → List Int
  | [], _, out => out
  | p :: r, l, out => if p.kind = 1 then apGo r (l.drop p.n.toNat) (out ++ l.take p.n.toNat) else if p.kind = 3 then apGo r (l.drop p.n.toNat) out else apGo r l (out ++ dec p.text)
def applyBad (e : List Part) (s : ByteArray) : Prop := valid s = false ∨ checkF e (dec s).length ≠ 0
instance (e : List Part) (s : ByteArray) : Decidable (applyBad e s) := by unfold applyBad; infer_instance
def applyF (e : List Part) (s : ByteArray) : ByteArray := if applyBad e s then ⟨#[]⟩ else enc (apGo e (dec s) [])
def applyE (e : List Part) (s : ByteArray) : Int := if applyBad e s then 30 else 0
theorem checkF_ok {e : List Part} {n : Int} (h : checkF e n = 0) : (sizesF e).2.2 = true ∧ fromS e = n ∧ Fits e ∧ toS e ≤ 1099511627776 := by
  unfold checkF at h
  split at h
  · cases h
  · rename_i h1
    have h2 : (sizesF e).2.2 = true := by cases hh : (sizesF e).2.2 <;> simp_all
    have h3 := sizesF_sum h2
    have h4 := sizesF_bound e
    refine ⟨h2, by rw [← h3.1]; simpa [h2] using h1, h3.2.2, by rw [← h3.2.1]; exact h4.2.2.2⟩
/-! ### What is left of an edit -/
def takeP (p : Part) (n : Int) : Part := ⟨p.kind, n, if p.kind = 2 then enc ((dec p.text).take n.toNat) else p.text⟩
def leftP (p : Part) (n : Int) : Part := ⟨p.kind, p.n - n, if p.kind = 2 then enc ((dec p.text).drop n.toNat) else p.text⟩
def restP (p : Part) (l : List Part) (n : Int) : List Part := if p.n - n = 0 then l else leftP p n :: l
/-- What is in memory, of what is left of an edit. -/
def WS (l : List Part) (tx : List Int) : List Part → Prop
  | [] => l = []
  | p :: r => ∃ raw, l = ⟨p.kind, p.n, raw⟩ :: r ∧ (p.kind = 2 → tx = dec p.text) ∧ (p.kind ≠ 2 → raw = p.text) ∧ (raw.size ≤ 70368744177664)
theorem fits_size {p : Part} (h : fitsB p = true) : (p.text.size : Int) ≤ 4 * p.n := by
  obtain ⟨h1, h2, h3⟩ := fitsB_cases h
  rcases h3 with ⟨_, ht⟩ | ⟨_, ht⟩ | ⟨_, hv, hl⟩
  · rw [ht]; show ((0 : Nat) : Int) ≤ _; omega
  · rw [ht]; show ((0 : Nat) : Int) ≤ _; omega
  · have := (enc_size (dec p.text)).2
    rw [enc_dec hv] at this
    omega
theorem fits_sizeN {p : Part} (h : fitsB p = true) : p.text.size ≤ 4398046511104 := by have := fits_size h; have := fitsB_n h; omega
theorem WS.start {e : List Part} (tx : List Int) (h : Fits e) : WS e (loadT e tx) e := by
  cases e with
  | nil => rfl
  | cons p r => exact ⟨p.text, rfl, fun hk => by simp only [loadT, if_pos hk], fun _ => rfl, by have := fits_sizeN (h p (.head _)); omega⟩
theorem WS.kind {l : List Part} {tx : List Int} : ∀ {ps : List Part}, WS l tx ps → kindL l = kindL ps
  | [], h => by rw [show l = [] from h]
  | p :: r, ⟨raw, h, _⟩ => by rw [h]; rfl
/-- A step over what is in memory is a step over what it stands for. -/
theorem WS.step {l : List Part} {tx : List Int} {p : Part} {r : List Part} (h : WS l tx (p :: r)) (hf : Fits (p :: r)) {n : Int} (h1 : 1 ≤ n) (h2 : n ≤ p.n) :
    ∃ q, l = q :: r ∧ q.n = p.n ∧ (q.kind = 2 → n.toNat ≤ tx.length) ∧ takeQ q tx n = takeP p n ∧ WS (takeL q r n) (takeT q r tx n) (restP p r n) := by
  obtain ⟨raw, rfl, k1, k2, k3⟩ := h
  obtain ⟨c1, c2, c3⟩ := fitsB_cases (hf p (.head _))
  refine ⟨_, rfl, rfl, fun hk => ?_, ?_, ?_⟩
  · rw [k1 hk]
    rcases c3 with ⟨hk', _⟩ | ⟨hk', _⟩ | ⟨_, _, hl⟩
    · simp only at hk; omega
    · simp only at hk; omega
    · omega
  · simp only [takeQ, takeP, Part.mk.injEq, true_and]
    split
    · rename_i hk; rw [k1 hk]
    · rename_i hk; exact k2 hk
  · unfold takeL takeT restP
    simp only
    by_cases h0 : p.n - n = 0
    · rw [if_pos h0, if_pos h0, if_pos h0]
      exact WS.start _ hf.tail
    · rw [if_neg h0, if_neg h0, if_neg h0]
      refine ⟨raw, rfl, fun hk => ?_, fun hk => ?_, k3⟩
      · simp only [leftP] at hk ⊢
        rw [if_pos hk, if_pos hk, k1 hk]
        rcases c3 with ⟨hk', _⟩ | ⟨hk', _⟩ | ⟨_, hv, hl⟩
        · omega
        · omega
        · exact (dec_enc fun x hx => dec_scalar hv x (List.mem_of_mem_drop hx)).symm
      · simp only [leftP] at hk ⊢
        rw [if_neg hk]; exact k2 hk
end Go.SK

set_option linter.unusedVariables false
set_option linter.unusedSimpArgs false
namespace Go.SK
open Go
def minI (a b : Int) : Int := if b < a then b else a
def compGo : Nat → List Part → List Part → List Part
  | 0, _, _ => []
  | f + 1, xs, ys =>
    if kindL xs = 0 ∧ kindL ys = 0 then []
    else if kindL xs = 3 then (match xs with
      | x :: xs' => x :: compGo f xs' ys
      | [] => [])
    else if kindL ys = 2 then (match ys with
      | y :: ys' => y :: compGo f xs ys'
      | [] => [])
    else match xs, ys with
      | x :: xs', y :: ys' => (if y.kind = 1 then [takeP x (minI x.n y.n)] else if x.kind = 1 then [takeP y (minI x.n y.n)] else []) ++ compGo f (restP x xs' (minI x.n y.n)) (restP y ys' (minI x.n y.n))
      | _, _ => []
def trGo : Nat → List Part → List Part → List Part × List Part
  | 0, _, _ => ([], [])
  | f + 1, xs, ys =>
    if kindL xs = 0 ∧ kindL ys = 0 then ([], [])
    else if kindL xs = 2 then (match xs with
      | x :: xs' => (x :: (trGo f xs' ys).1, keepP x.n :: (trGo f xs' ys).2)
      | [] => ([], []))
    else if kindL ys = 2 then (match ys with
      | y :: ys' => (keepP y.n :: (trGo f xs ys').1, y :: (trGo f xs ys').2)
      | [] => ([], []))
    else match xs, ys with
      | x :: xs', y :: ys' => ((if y.kind = 1 then [takeP x (minI x.n y.n)] else []) ++ (trGo f (restP x xs' (minI x.n y.n)) (restP y ys' (minI x.n y.n))).1,
          (if x.kind = 1 then [takeP y (minI x.n y.n)] else []) ++ (trGo f (restP x xs' (minI x.n y.n)) (restP y ys' (minI x.n y.n))).2)
      | _, _ => ([], [])
theorem compGo_stop {f : Nat} {xs ys : List Part} (h : kindL xs = 0 ∧ kindL ys = 0) : compGo (f + 1) xs ys = [] := by unfold compGo; rw [if_pos h]
theorem WS.nil {l : List Part} {tx : List Int} {ps : List Part} (h : WS l tx ps) (hl : ps = []) : l = [] := by subst hl; exact h
/-- A maker's bounds. -/
structure MB (r : List Part) (n k : Int) : Prop where
  pos : ∀ q ∈ r, 0 ≤ q.n
  n : nsum r + n ≤ 17592186044416
  t : (tsum r : Int) ≤ 4 * nsum r
  len : (r.length : Int) + k ≤ 549755813888
theorem MB.many {r : List Part} {n k : Int} (h : MB r n k) {p : Part} (hp : fitsB p = true) (hn : p.n ≤ n) (hk : 1 ≤ k) : ManyB r [p] := by
  have h1 := fitsB_n hp; have h2 := fits_size hp; have h3 := h.n; have h4 := h.t; have h5 := h.len
  refine ⟨h.pos, fun q hq => by rw [List.mem_singleton] at hq; subst hq; omega, ?_, ?_, by simp only [List.length_singleton]; omega⟩
  · simp only [nsum]; omega
  · simp only [tsum]; omega
theorem MB.add {r : List Part} {n k n' k' : Int} (h : MB r n k) {p : Part} (hp : fitsB p = true) (hn : n' + p.n ≤ n) (hk : k' + 1 ≤ k) : MB (addRs r [p]) n' k' := by
  have h1 := fitsB_n hp; have h2 := fits_size hp; have h3 := h.n; have h4 := h.t; have h5 := h.len
  obtain ⟨a1, a2, a3, a4⟩ := addRs_facts [p] r h.pos (fun q hq => by rw [List.mem_singleton] at hq; subst hq; omega)
  simp only [nsum, tsum, List.length_singleton] at a2 a3 a4
  exact ⟨a1, by omega, by omega, by omega⟩
theorem MB.nil {n k : Int} (hn : n ≤ 17592186044416) (hk : k ≤ 549755813888) : MB [] n k := ⟨by simp, by simp only [nsum]; omega, by simp [tsum, nsum], by simp only [List.length_nil]; omega⟩
/-- What a take asks. -/
structure TakeOk (q : Part) (l : List Part) (tx : List Int) (n : Int) : Prop where
  n0 : 0 ≤ n
  n1 : n ≤ q.n
  n2 : q.n ≤ 1099511627776
  tx : q.kind = 2 → n.toNat ≤ tx.length
  hs : ∀ p ∈ l, p.text.size ≤ 70368744177664
theorem WS.take {l : List Part} {tx : List Int} {p : Part} {r : List Part} (h : WS l tx (p :: r)) (hf : Fits (p :: r)) {n : Int} (h1 : 1 ≤ n) (h2 : n ≤ p.n) :
    ∃ q, l = q :: r ∧ q.n = p.n ∧ q.kind = p.kind ∧ TakeOk q r tx n ∧ takeQ q tx n = takeP p n ∧ WS (takeL q r n) (takeT q r tx n) (restP p r n) := by
  obtain ⟨q, e1, e2, e3, e4, e5⟩ := h.step hf h1 h2
  have hn := fitsB_n (hf p (.head _))
  exact ⟨q, e1, e2, by have := congrArg Part.kind e4; simpa [takeQ, takeP] using this, ⟨by omega, by omega, by omega, e3, fun x hx => by have := fits_sizeN (hf.tail x hx); omega⟩, e4, e5⟩
structure CInv (R0 : List Part) (f : Nat) (xs ys r lx : List Part) (tx : List Int) (ly : List Part) (ty : List Int) : Prop where
  fx : Fits xs
  fy : Fits ys
  wx : WS lx tx xs
  wy : WS ly ty ys
  bal : toS xs = fromS ys
  mb : MB r (nsum xs + nsum ys) (xs.length + ys.length)
  fuel : xs.length + ys.length ≤ f
  go : addRs r (compGo f xs ys) = R0
section
variable {R0 : List Part} {f : Nat} {xs ys r lx : List Part} {tx : List Int} {ly : List Part} {ty : List Int}
theorem CInv.stop (h : CInv R0 f xs ys r lx tx ly ty) (h1 : kindL lx = 0) (h2 : kindL ly = 0) : r = R0 := by
  have hgo := h.go
  rw [h.wx.kind] at h1; rw [h.wy.kind] at h2
  cases f with
  | zero => exact hgo
  | succ f => rw [compGo_stop ⟨h1, h2⟩] at hgo; exact hgo
end
def compBad (a b : List Part) : Prop := (sizesF a).2.2 = false ∨ (sizesF b).2.2 = false ∨ (sizesF b).1 ≠ (sizesF a).2.1
instance (a b : List Part) : Decidable (compBad a b) := by unfold compBad; infer_instance
def compR (a b : List Part) : List Part := addRs [] (compGo (a.length + b.length) a b)
theorem nsum_bound {e : List Part} (h : (sizesF e).2.2 = true) : 0 ≤ nsum e ∧ nsum e ≤ 2199023255552 := by
  have h1 := sizesF_sum h; have h2 := sizesF_bound e; have h3 := fromS_pos h1.2.2
  omega
theorem CInv.start {a b : List Part} (h : ¬ compBad a b) (hl : a.length ≤ 137438953472) (hl' : b.length ≤ 137438953472) : CInv (compR a b) (a.length + b.length) a b [] a (loadT a []) b (loadT b []) := by
  unfold compBad at h
  have ha : (sizesF a).2.2 = true := by cases hh : (sizesF a).2.2 <;> simp_all
  have hb : (sizesF b).2.2 = true := by cases hh : (sizesF b).2.2 <;> simp_all
  have h1 := sizesF_sum ha; have h2 := sizesF_sum hb
  have n1 := nsum_bound ha; have n2 := nsum_bound hb
  exact ⟨h1.2.2, h2.2.2, WS.start _ h1.2.2, WS.start _ h2.2.2, by rw [← h1.2.1, ← h2.1]; exact (by simpa [ha, hb] using h : (sizesF b).1 = (sizesF a).2.1).symm, MB.nil (by omega) (by omega), Nat.le_refl _, rfl⟩
end Go.SK

set_option linter.unusedVariables false
set_option linter.unusedSimpArgs false
namespace Go.SK
open Go
theorem trGo_stop {f : Nat} {xs ys : List Part} (h : kindL xs = 0 ∧ kindL ys = 0) : trGo (f + 1) xs ys = ([], []) := by unfold trGo; rw [if_pos h]
structure TInv (R1 R2 : List Part) (f : Nat) (xs ys r o lx : List Part) (tx : List Int) (ly : List Part) (ty : List Int) : Prop where
  fx : Fits xs
  fy : Fits ys
  wx : WS lx tx xs
  wy : WS ly ty ys
  bal : fromS xs = fromS ys
  mb : MB r (nsum xs + nsum ys) (xs.length + ys.length)
  mo : MB o (nsum xs + nsum ys) (xs.length + ys.length)
  fuel : xs.length + ys.length ≤ f
  g1 : addRs r (trGo f xs ys).1 = R1
  g2 : addRs o (trGo f xs ys).2 = R2
section
variable {R1 R2 : List Part} {f : Nat} {xs ys r o lx : List Part} {tx : List Int} {ly : List Part} {ty : List Int}
theorem TInv.stop (h : TInv R1 R2 f xs ys r o lx tx ly ty) (h1 : kindL lx = 0) (h2 : kindL ly = 0) : r = R1 ∧ o = R2 := by
  have hg1 := h.g1; have hg2 := h.g2
  rw [h.wx.kind] at h1; rw [h.wy.kind] at h2
  cases f with
  | zero => exact ⟨hg1, hg2⟩
  | succ f => rw [trGo_stop ⟨h1, h2⟩] at hg1 hg2; exact ⟨hg1, hg2⟩
end
def trBad (a b : List Part) : Prop := (sizesF a).2.2 = false ∨ (sizesF b).2.2 = false ∨ (sizesF a).1 ≠ (sizesF b).1
instance (a b : List Part) : Decidable (trBad a b) := by unfold trBad; infer_instance
def trR1 (a b : List Part) : List Part := addRs [] (trGo (a.length + b.length) a b).1
def trR2 (a b : List Part) : List Part := addRs [] (trGo (a.length + b.length) a b).2
def trLong (a b : List Part) : Prop := (sizesF (trR1 a b).reverse).2.2 = false ∨ (sizesF (trR2 a b).reverse).2.2 = false
instance (a b : List Part) : Decidable (trLong a b) := by unfold trLong; infer_instance
theorem TInv.start {a b : List Part} (h : ¬ trBad a b) (hl : a.length ≤ 137438953472) (hl' : b.length ≤ 137438953472) : TInv (trR1 a b) (trR2 a b) (a.length + b.length) a b [] [] a (loadT a []) b (loadT b []) := by
  unfold trBad at h
  have ha : (sizesF a).2.2 = true := by cases hh : (sizesF a).2.2 <;> simp_all
  have hb : (sizesF b).2.2 = true := by cases hh : (sizesF b).2.2 <;> simp_all
  have h1 := sizesF_sum ha; have h2 := sizesF_sum hb
  have n1 := nsum_bound ha; have n2 := nsum_bound hb
  exact ⟨h1.2.2, h2.2.2, WS.start _ h1.2.2, WS.start _ h2.2.2, by rw [← h1.1, ← h2.1]; exact (by simpa [ha, hb] using h), MB.nil (by omega) (by omega), MB.nil (by omega) (by omega), Nat.le_refl _, rfl, rfl⟩
end Go.SK

set_option linter.unusedVariables false
set_option linter.unusedSimpArgs false
namespace Go.SK
open Go
theorem apply_bad {e : List Part} {s : ByteArray} (h : applyBad e s) : applyF e s = ⟨#[]⟩ ∧ applyE e s = 30 := ⟨if_pos h, if_pos h⟩
theorem apply_ok {e : List Part} {s : ByteArray} (h : ¬ applyBad e s) : applyF e s = enc (apGo e (dec s) []) ∧ applyE e s = 0 := ⟨if_neg h, if_neg h⟩
structure AInv (e : List Part) (k : Nat) (l out : List Int) (R0 : List Int) : Prop where
  kle : k ≤ e.length
  go : apGo (e.drop k) l out = R0
  from_ : fromS (e.drop k) = l.length
  to_ : (out.length : Int) + toS (e.drop k) ≤ 1099511627776
theorem ok_facts {e : List Part} {s : ByteArray} (h : ¬ applyBad e s) : valid s = true ∧ (sizesF e).2.2 = true ∧ fromS e = (dec s).length ∧ Fits e ∧ toS e ≤ 1099511627776 := by
  unfold applyBad at h
  have hv : valid s = true := by cases hh : valid s <;> simp_all
  have hc : checkF e (dec s).length = 0 := by simp [hv] at h; exact h
  exact ⟨hv, checkF_ok hc⟩
theorem AInv.start {e : List Part} {s : ByteArray} (h : ¬ applyBad e s) : AInv e 0 (dec s) [] (apGo e (dec s) []) := by
  obtain ⟨h1, h2, h3, h4, h5⟩ := ok_facts h
  exact ⟨Nat.zero_le _, rfl, h3, by simp; exact h5⟩
section
variable {e : List Part} {k : Nat} {l out R0 : List Int} {p : Part}
theorem AInv.stepK (h : AInv e k l out R0) (hf : Fits e) (hk : k < e.length) (hp : e.getD k default = p) (h1 : p.kind = 1) : p.n.toNat ≤ l.length ∧ 0 ≤ p.n ∧ AInv e (k + 1) (l.drop p.n.toNat) (out ++ l.take p.n.toNat) R0 := by
  have hd := drop_getD hk hp
  have h2 := h.go; have h3 := h.from_; have h4 := h.to_
  have hfd : Fits (e.drop k) := fun q hq => hf q (List.mem_of_mem_drop hq)
  rw [hd] at h2 h3 h4 hfd
  have h5 := fitsB_cases (hfd p (.head _)); have h6 := fromS_pos hfd.tail
  simp only [fromS, toS] at h3 h4
  rw [if_neg (by omega)] at h3 h4
  refine ⟨by omega, by omega, by omega, ?_, ?_, ?_⟩
  · rw [apGo, if_pos h1] at h2; exact h2
  · rw [List.length_drop]; omega
  · rw [List.length_append, List.length_take]; omega
theorem AInv.stepD (h : AInv e k l out R0) (hf : Fits e) (hk : k < e.length) (hp : e.getD k default = p) (h1 : ¬ p.kind = 1) (h3' : p.kind = 3) : p.n.toNat ≤ l.length ∧ 0 ≤ p.n ∧ AInv e (k + 1) (l.drop p.n.toNat) out R0 := by
  have hd := drop_getD hk hp
  have h2 := h.go; have h3 := h.from_; have h4 := h.to_
  have hfd : Fits (e.drop k) := fun q hq => hf q (List.mem_of_mem_drop hq)
  rw [hd] at h2 h3 h4 hfd
  have h5 := fitsB_cases (hfd p (.head _)); have h6 := fromS_pos hfd.tail
  simp only [fromS, toS] at h3 h4
  rw [if_neg (by omega)] at h3
  rw [if_pos h3'] at h4
  refine ⟨by omega, by omega, by omega, ?_, ?_, ?_⟩
  · rw [apGo, if_neg h1, if_pos h3'] at h2; exact h2
  · rw [List.length_drop]; omega
  · omega
theorem AInv.stepP (h : AInv e k l out R0) (hf : Fits e) (hk : k < e.length) (hp : e.getD k default = p) (h1 : ¬ p.kind = 1) (h3' : ¬ p.kind = 3) : (dec p.text).length ≤ 1099511627776 ∧ AInv e (k + 1) l (out ++ dec p.text) R0 := by
  have hd := drop_getD hk hp
  have h2 := h.go; have h3 := h.from_; have h4 := h.to_
  have hfd : Fits (e.drop k) := fun q hq => hf q (List.mem_of_mem_drop hq)
  rw [hd] at h2 h3 h4 hfd
  have h5 := fitsB_cases (hfd p (.head _)); have h6 := fromS_pos hfd.tail
  simp only [fromS, toS] at h3 h4
  have hk2 : p.kind = 2 := by omega
  have hl : ((dec p.text).length : Int) = p.n := by
    rcases h5.2.2 with ⟨x, _⟩ | ⟨x, _⟩ | ⟨_, _, x⟩
    · omega
    · omega
    · exact x
  rw [if_pos hk2] at h3
  rw [if_neg h3'] at h4
  refine ⟨by omega, by omega, ?_, by omega, ?_⟩
  · rw [apGo, if_neg h1, if_neg h3'] at h2; exact h2
  · rw [List.length_append]; omega
theorem AInv.stop (h : AInv e k l out R0) (hk : ¬ k < e.length) : out = R0 := by
  have h2 := h.go
  rw [List.drop_eq_nil_of_le (by omega)] at h2; exact h2
end
/-! ### Inverse -/
def invGo : List Part → List Int → List Part
  | [], _ => []
  | p :: r, l => if p.kind = 1 then p :: invGo r (l.drop p.n.toNat) else if p.kind = 3 then putP (enc (l.take p.n.toNat)) :: invGo r (l.drop p.n.toNat) else dropP p.n :: invGo r l
def invR (e : List Part) (s : ByteArray) : List Part := addRs [] (invGo e (dec s))
structure IInv (e : List Part) (k : Nat) (l : List Int) (r R0 : List Part) : Prop where
  kle : k ≤ e.length
  go : addRs r (invGo (e.drop k) l) = R0
  from_ : fromS (e.drop k) = l.length
  sc : ∀ x ∈ l, scalar x
  mb : MB r (nsum (e.drop k)) ((e.drop k).length)
theorem IInv.start {e : List Part} {s : ByteArray} (h : ¬ applyBad e s) (hl : e.length ≤ 137438953472) : IInv e 0 (dec s) [] (invR e s) := by
  obtain ⟨h1, h2, h3, h4, h5⟩ := ok_facts h
  have := nsum_bound h2
  exact ⟨Nat.zero_le _, rfl, h3, dec_scalar h1, MB.nil (by rw [List.drop_zero]; omega) (by rw [List.drop_zero]; omega)⟩
theorem drop_fits {n : Int} (h1 : 1 ≤ n) (h2 : n ≤ 1099511627776) : fitsB (dropP n) = true := fitsB_mk h1 h2 (.inr (.inl ⟨rfl, rfl⟩))
theorem put_fits {t : List Int} (h : ∀ x ∈ t, scalar x) (h1 : 1 ≤ t.length) (h2 : t.length ≤ 1099511627776) : fitsB (putP (enc t)) = true ∧ (putP (enc t)).n = t.length := by
  have hn : (putP (enc t)).n = t.length := by simp only [putP, rcount_dec, dec_enc h]
  exact ⟨fitsB_mk (by omega) (by omega) (.inr (.inr ⟨rfl, valid_enc h, by rw [hn]; simp only [putP, dec_enc h]⟩)), hn⟩
section
variable {e : List Part} {k : Nat} {l : List Int} {r R0 : List Part} {p : Part}
theorem IInv.stepK (h : IInv e k l r R0) (hf : Fits e) (hk : k < e.length) (hp : e.getD k default = p) (h1 : p.kind = 1) : p.n.toNat ≤ l.length ∧ 0 ≤ p.n ∧ ManyB r [p] ∧ IInv e (k + 1) (l.drop p.n.toNat) (addRs r [p]) R0 := by
  have hd := drop_getD hk hp
  have h2 := h.go; have h3 := h.from_; have h4 := h.mb
  have hfd : Fits (e.drop k) := fun q hq => hf q (List.mem_of_mem_drop hq)
  rw [hd] at h2 h3 h4 hfd
  have h5 := fitsB_cases (hfd p (.head _)); have h6 := fromS_pos hfd.tail
  simp only [fromS] at h3
  rw [if_neg (by omega)] at h3
  simp only [nsum, List.length_cons] at h4
  refine ⟨by omega, by omega, h4.many (hfd p (.head _)) (by omega) (by omega), by omega, ?_, ?_, fun x hx => h.sc x (List.mem_of_mem_drop hx), h4.add (hfd p (.head _)) (by omega) (by omega)⟩
  · rw [invGo, if_pos h1] at h2; exact h2
  · rw [List.length_drop]; omega
theorem IInv.stepD (h : IInv e k l r R0) (hf : Fits e) (hk : k < e.length) (hp : e.getD k default = p) (h1 : ¬ p.kind = 1) (h3' : p.kind = 3) : p.n.toNat ≤ l.length ∧ 0 ≤ p.n ∧ p.n ≤ 1099511627776 ∧ ManyB r [putP (enc (l.take p.n.toNat))] ∧ IInv e (k + 1) (l.drop p.n.toNat) (addRs r [putP (enc (l.take p.n.toNat))]) R0 := by
  have hd := drop_getD hk hp
  have h2 := h.go; have h3 := h.from_; have h4 := h.mb
  have hfd : Fits (e.drop k) := fun q hq => hf q (List.mem_of_mem_drop hq)
  rw [hd] at h2 h3 h4 hfd
  have h5 := fitsB_cases (hfd p (.head _)); have h6 := fromS_pos hfd.tail
  simp only [fromS] at h3
  rw [if_neg (by omega)] at h3
  simp only [nsum, List.length_cons] at h4
  have hpf := put_fits (t := l.take p.n.toNat) (fun x hx => h.sc x (List.mem_of_mem_take hx)) (by rw [List.length_take]; omega) (by rw [List.length_take]; omega)
  have hpn : (putP (enc (l.take p.n.toNat))).n = p.n := by rw [hpf.2, List.length_take]; omega
  refine ⟨by omega, by omega, by omega, h4.many hpf.1 (by omega) (by omega), by omega, ?_, ?_, fun x hx => h.sc x (List.mem_of_mem_drop hx), h4.add hpf.1 (by omega) (by omega)⟩
  · rw [invGo, if_neg h1, if_pos h3'] at h2; exact h2
  · rw [List.length_drop]; omega
theorem IInv.stepP (h : IInv e k l r R0) (hf : Fits e) (hk : k < e.length) (hp : e.getD k default = p) (h1 : ¬ p.kind = 1) (h3' : ¬ p.kind = 3) : ManyB r [dropP p.n] ∧ IInv e (k + 1) l (addRs r [dropP p.n]) R0 := by
  have hd := drop_getD hk hp
  have h2 := h.go; have h3 := h.from_; have h4 := h.mb
  have hfd : Fits (e.drop k) := fun q hq => hf q (List.mem_of_mem_drop hq)
  rw [hd] at h2 h3 h4 hfd
  have h5 := fitsB_cases (hfd p (.head _)); have h6 := fromS_pos hfd.tail
  have hk2 : p.kind = 2 := by omega
  simp only [fromS] at h3
  rw [if_pos hk2] at h3
  simp only [nsum, List.length_cons] at h4
  have hdf := drop_fits h5.1 h5.2.1
  have hdn : (dropP p.n).n = p.n := rfl
  refine ⟨h4.many hdf (by omega) (by omega), by omega, ?_, by omega, h.sc, h4.add hdf (by omega) (by omega)⟩
  rw [invGo, if_neg h1, if_neg h3'] at h2; exact h2
theorem IInv.stop (h : IInv e k l r R0) (hk : ¬ k < e.length) : r = R0 := by
  have h2 := h.go
  rw [List.drop_eq_nil_of_le (by omega)] at h2; exact h2
end
/-! ### One form -/
theorem fits_nsum : ∀ {e : List Part}, Fits e → 0 ≤ nsum e ∧ nsum e ≤ e.length * 1099511627776 ∧ (tsum e : Int) ≤ 4 * nsum e
  | [], _ => by simp [nsum, tsum]
  | p :: r, h => by
    have h1 := fitsB_n (h p (.head _)); have h2 := fits_size (h p (.head _)); have h3 := fits_nsum h.tail
    simp only [nsum, tsum, List.length_cons]
    omega
theorem norm_many {l : List Part} {p : Part} (hf : Fits l) (hl : l.length ≤ 524288) (hp : fitsB p = true) : ManyB (addRs [] l) [p] := by
  obtain ⟨a1, a2, a3, a4⟩ := addRs_facts l [] (by simp) (fun q hq => by have := fitsB_n (hf q hq); omega)
  have h1 := fits_nsum hf; have h2 := fitsB_n hp; have h3 := fits_size hp
  simp only [nsum, tsum, List.length_nil] at a2 a3 a4
  refine ⟨a1, fun q hq => by rw [List.mem_singleton] at hq; subst hq; omega, ?_, ?_, by simp only [List.length_singleton]; omega⟩
  · simp only [nsum]; omega
  · simp only [tsum]; omega
theorem filter_fits (l : List Part) : Fits (l.filter fitsB) := fun p hp => (List.mem_filter.1 hp).2
theorem filter_take {l : List Part} {k : Nat} {p : Part} (hk : k < l.length) (hp : l.getD k default = p) : (l.take (k + 1)).filter fitsB = (l.take k).filter fitsB ++ (if fitsB p = true then [p] else []) := by
  rw [take_getD hk hp, List.filter_append]
  congr 1
  rw [List.filter_cons, List.filter_nil]
/-! ### Cursors and weights -/
def curGo : List Part → Int → Bool → Int → Int
  | [], _, _, to => to
  | p :: r, at', ah, to => if p.kind = 2 ∧ (0 < at' ∨ ah = true) then curGo r at' ah (to + p.n) else if at' = 0 then to else
      if minI p.n at' < p.n then (if p.kind = 1 then to + minI p.n at' else to) else curGo r (at' - minI p.n at') ah (if p.kind = 1 then to + minI p.n at' else to)
def curBad (e : List Part) (at' : Int) : Prop := (sizesF e).2.2 = false ∨ at' < 0 ∨ (sizesF e).1 < at'
instance (e : List Part) (i : Int) : Decidable (curBad e i) := by unfold curBad; infer_instance
structure UInv (e : List Part) (k : Nat) (i : Int) (ah : Bool) (to R0 : Int) : Prop where
  kle : k ≤ e.length
  go : curGo (e.drop k) i ah to = R0
  i0 : 0 ≤ i
  i1 : i ≤ 1099511627776
  t0 : 0 ≤ to
  t1 : to + toS (e.drop k) ≤ 1099511627776
theorem UInv.start {e : List Part} {i : Int} {ah : Bool} (h : ¬ curBad e i) : UInv e 0 i ah 0 (curGo e i ah 0) ∧ Fits e := by
  unfold curBad at h
  have h1 : (sizesF e).2.2 = true := by cases hh : (sizesF e).2.2 <;> simp_all
  have h2 := sizesF_sum h1; have h3 := sizesF_bound e
  exact ⟨⟨Nat.zero_le _, rfl, by omega, by omega, by omega, by rw [List.drop_zero]; omega⟩, h2.2.2⟩
section
variable {e : List Part} {k : Nat} {i : Int} {ah : Bool} {to R0 : Int} {p : Part}
theorem UInv.pos (h : UInv e k i ah to R0) (hf : Fits e) (hk : k < e.length) (hp : e.getD k default = p) : 1 ≤ p.n ∧ p.n ≤ 1099511627776 ∧ to ≤ 1099511627776 := by
  have hd := drop_getD hk hp
  have hfd : Fits (e.drop k) := fun q hq => hf q (List.mem_of_mem_drop hq)
  have h4 := h.t1; have h6 := fromS_pos hfd
  rw [hd] at hfd
  have := fitsB_n (hfd p (.head _))
  omega
theorem UInv.stepP (h : UInv e k i ah to R0) (hf : Fits e) (hk : k < e.length) (hp : e.getD k default = p) (h1 : p.kind = 2) (h2 : 0 < i ∨ ah = true) : UInv e (k + 1) i ah (to + p.n) R0 := by
  have hd := drop_getD hk hp
  have h0 := h.pos hf hk hp
  have h3 := h.go; have h4 := h.t1
  rw [hd] at h3 h4
  simp only [toS] at h4
  rw [if_neg (by omega)] at h4
  rw [curGo, if_pos ⟨h1, h2⟩] at h3
  have := h.t0
  exact ⟨by omega, h3, h.i0, h.i1, by omega, by omega⟩
theorem UInv.ret0 (h : UInv e k i ah to R0) (hk : k < e.length) (hp : e.getD k default = p) (h1 : ¬ (p.kind = 2 ∧ (0 < i ∨ ah = true))) (h2 : i = 0) : to = R0 := by
  have h3 := h.go
  rw [drop_getD hk hp, curGo, if_neg h1, if_pos h2] at h3
  exact h3
theorem UInv.ret1 (h : UInv e k i ah to R0) (hk : k < e.length) (hp : e.getD k default = p) (h1 : ¬ (p.kind = 2 ∧ (0 < i ∨ ah = true))) (h2 : ¬ i = 0) (h4 : minI p.n i < p.n) : (if p.kind = 1 then to + minI p.n i else to) = R0 := by
  have h3 := h.go
  rw [drop_getD hk hp, curGo, if_neg h1, if_neg h2, if_pos h4] at h3
  exact h3
theorem UInv.stop (h : UInv e k i ah to R0) (hk : ¬ k < e.length) : to = R0 := by
  have h2 := h.go
  rw [List.drop_eq_nil_of_le (by omega)] at h2; exact h2
end
end Go.SK

set_option linter.unusedVariables false
set_option linter.unusedSimpArgs false
set_option maxRecDepth 100000
namespace Go.SK
open Go Go.RowKit
theorem lkM {α : Type} {f : α → Value} {l : List α} {i k : Nat} {d x : α} (h : i < l.length) (hx : l.getD i d = x) (hk : k = i) : (l.map f)[k]? = some (f x) := by
  subst hk
  rw [List.getElem?_map, List.getElem?_eq_getElem h, ← hx, List.getD_eq_getElem?_getD, List.getElem?_eq_getElem h]; rfl
theorem stM {α : Type} {f : α → Value} {l : List α} {i k : Nat} {y : α} (h : i < l.length) (hk : k = i) : (l.map f).take k ++ [f y] ++ (l.map f).drop (k + 1) = (l.set i y).map f := by
  subst hk
  rw [List.set_eq_take_append_cons_drop, if_pos h]
  simp [List.map_take, List.map_drop]
theorem row_lenM {α : Type} {f : α → Value} {S : Nat → Prop} {w0 : World} {L : List Res} {v : Value} {e m : Nat} {ns : List α} {w : World} (h : Hp S w0 w (.row v e 1 m (ns.map f) :: L)) : Hp S w0 w (.row v e 1 ns.length (ns.map f) :: L) := by
  have h1 : w.ownsRow 0 e 1 v m (ns.map f) := h.at_ _ (.head _)
  have h2 : ns.length = m := by have := h1.1; simpa using this
  rw [h2]; exact h
end Go.SK
