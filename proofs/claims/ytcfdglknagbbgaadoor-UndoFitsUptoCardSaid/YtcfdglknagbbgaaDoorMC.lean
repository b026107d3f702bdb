/- Plain words for layer 3: parts, whether they fit, sizes. Plain words on edits: what is left of one, composition and transformation step by step. Plain words on edits: composition and transformation, step by step, as the program goes. Plain words on edits: transformation, step by step, as the program goes. Plain words on edits: inverse, one form, cursors, weights, step by step. Plain words: the table of well-formed sequences is the model's decoder. Plain words for the document's own answer: lists put together part by part. The examples, reckoned out. Plain words: what a maker makes is an edit in its one form. Plain words: what is light, and what is narrow. -/
import Derived.Test.YtcfdglknagbbgaaDoorMB
import Derived.Lib.RuneCount
import Derived.Lib.ValidU
import Derived.Lib.DecodeNEq
import Derived.KernelRfl
set_option linter.unusedVariables false
namespace Go.SK
structure Part where
  kind : Int
  n : Int
  text : ByteArray
  deriving DecidableEq
instance : Inhabited Part := ⟨⟨0, 0, ⟨#[]⟩⟩⟩
def Part.cs (p : Part) : List Value := [.int .i64 p.kind, .int .i64 p.n, .string p.text]
def Part.val (p : Part) : Value := .agg p.cs.toArray
instance : Enc Part := ⟨3, Part.cs, fun _ => rfl, by
  intro p u hu
  simp only [Part.cs, List.mem_cons, List.not_mem_nil, or_false] at hu
  rcases hu with rfl | rfl | rfl <;> rfl⟩


def maxIdx : Int := 1099511627776
def fitsB (p : Part) : Bool :=
  if p.n < 1 then false else if 1099511627776 < p.n then false
  else if p.kind = 1 then decide (p.text = ⟨#[]⟩) else if p.kind = 3 then decide (p.text = ⟨#[]⟩)
  else if p.kind = 2 then (valid p.text && decide ((rcount p.text : Int) = p.n)) else false
def stopB (pv : Option Int) (p : Part) : Bool := !fitsB p || match pv with
  | none => false
  | some k => decide (k = p.kind) || (decide (k = 3) && decide (p.kind = 2))
def addF (p : Part) (f : Int) : Int := if p.kind = 2 then f else f + p.n
def addT (p : Part) (f : Int) : Int := if p.kind = 3 then f else f + p.n
def sizesGo : Option Int → List Part → Int → Int → Int × Int × Bool
  | _, [], f, t => (f, t, true)
  | pv, p :: r, f, t => if stopB pv p then (0, 0, false) else if 1099511627776 < addF p f ∨ 1099511627776 < addT p t then (0, 0, false) else sizesGo (some p.kind) r (addF p f) (addT p t)
def sizesF (e : List Part) : Int × Int × Bool := sizesGo none e 0 0
def prevAt (e : List Part) (k : Nat) : Option Int := if k = 0 then none else some (e.getD (k - 1) default).kind
theorem drop_getD {α : Type} [Inhabited α] {e : List α} {k : Nat} {p : α} (h : k < e.length) (hp : e.getD k default = p) : e.drop k = p :: e.drop (k + 1) := by
  rw [List.drop_eq_getElem_cons h]
  simp [List.getD_eq_getElem?_getD, List.getElem?_eq_getElem h] at hp
  rw [hp]
theorem fitsB_n {p : Part} (h : fitsB p = true) : 1 ≤ p.n ∧ p.n ≤ 1099511627776 := by
  unfold fitsB at h
  split at h
  · cases h
  · split at h
    · cases h
    · omega
theorem stopB_fits {pv : Option Int} {p : Part} (h : stopB pv p = false) : fitsB p = true := by
  unfold stopB at h
  simp at h
  exact h.1
/-! ### The maker: parts, the last one first -/
def keepP (n : Int) : Part := ⟨1, n, ⟨#[]⟩⟩
def dropP (n : Int) : Part := ⟨3, n, ⟨#[]⟩⟩
def putP (s : ByteArray) : Part := ⟨2, (rcount s : Int), s⟩
def Part.more (q p : Part) : Part := ⟨q.kind, q.n + p.n, q.text ++ p.text⟩
def addR : List Part → Part → List Part
  | r, p => if p.n = 0 then r else match r with
    | [] => [p]
    | q :: r' => if q.kind = p.kind then q.more p :: r' else if p.kind ≠ 2 ∨ q.kind ≠ 3 then p :: q :: r' else q :: addR r' p
def nsum : List Part → Int
  | [] => 0
  | q :: r => q.n + nsum r
def tsum : List Part → Nat
  | [] => 0
  | q :: r => q.text.size + tsum r
structure OneB (r : List Part) (p : Part) : Prop where
  pos : ∀ q ∈ r, 0 ≤ q.n
  p0 : 0 ≤ p.n
  n : nsum r + p.n ≤ 4611686018427387904
  t : tsum r + p.text.size ≤ 4611686018427387904
  len : r.length < 1099511627776
theorem nsum_pos : ∀ {r : List Part}, (∀ q ∈ r, 0 ≤ q.n) → 0 ≤ nsum r
  | [], _ => by simp [nsum]
  | q :: r, h => by have := h q (.head _); have := nsum_pos (fun x hx => h x (.tail _ hx)); simp only [nsum]; omega
theorem OneB.tail {q : Part} {r : List Part} {p : Part} (h : OneB (q :: r) p) : OneB r p := by
  have h0 := h.pos q (.head _); have h1 := h.n; have h2 := h.t; have h3 := h.len
  simp only [nsum, tsum, List.length_cons] at h1 h2 h3
  exact ⟨fun x hx => h.pos x (.tail _ hx), h.p0, by omega, by omega, by omega⟩
theorem OneB.head {q : Part} {r : List Part} {p : Part} (h : OneB (q :: r) p) : 0 ≤ q.n ∧ q.n + p.n ≤ 4611686018427387904 ∧ q.text.size + p.text.size ≤ 4611686018427387904 ∧ r.length + 1 < 1099511627776 := by
  have h0 := h.pos q (.head _); have h1 := h.n; have h2 := h.t; have h3 := h.len; have h4 := nsum_pos h.tail.pos
  simp only [nsum, tsum, List.length_cons] at h1 h2 h3
  exact ⟨h0, by omega, by omega, h3⟩
theorem addR_facts : ∀ (r : List Part) (p : Part), (∀ q ∈ r, 0 ≤ q.n) → 0 ≤ p.n → (∀ q ∈ addR r p, 0 ≤ q.n) ∧ nsum (addR r p) = nsum r + p.n ∧ tsum (addR r p) ≤ tsum r + p.text.size ∧ (addR r p).length ≤ r.length + 1
  | [], p, h, h0 => by
    unfold addR
    split
    · simp [nsum, tsum, *]
    · simp [nsum, tsum, h0]
  | q :: r, p, h, h0 => by
    have hq := h q (.head _)
    have hr := fun x hx => h x (List.Mem.tail q hx)
    unfold addR
    split
    · refine ⟨h, by omega, by omega, by omega⟩
    · simp only
      split
      · refine ⟨fun x hx => ?_, by simp only [nsum, Part.more]; omega, by simp only [tsum, Part.more, ByteArray.size_append]; omega, by simp⟩
        rcases List.mem_cons.1 hx with rfl | hx
        · simp only [Part.more]; omega
        · exact hr x hx
      · split
        · refine ⟨fun x hx => ?_, by simp only [nsum]; omega, by simp only [tsum]; omega, by simp⟩
          rcases List.mem_cons.1 hx with rfl | hx
          · exact h0
          · exact h x hx
        · obtain ⟨h1, h2, h3, h4⟩ := addR_facts r p hr h0
          refine ⟨fun x hx => ?_, by simp only [nsum]; omega, by simp only [tsum]; omega, by simp only [List.length_cons]; omega⟩
          rcases List.mem_cons.1 hx with rfl | hx
          · exact hq
          · exact h1 x hx
theorem encs_rev (q : Part) (r : List Part) : encs (q :: r).reverse = encs r.reverse ++ q.cs := by rw [List.reverse_cons, encs_append]; rfl
theorem encs3 (r : List Part) : (encs r).length = r.length * 3 := encs_length r
theorem lkR {q : Part} {r : List Part} {k : Nat} (j : Nat) {v : Value} (hk : k = r.length * 3 + j) (hv : q.cs[j]? = some v) : (encs (q :: r).reverse)[k]? = some v := by
  subst hk
  rw [encs_rev, List.getElem?_append_right (by rw [encs3, List.length_reverse]; omega), encs3, List.length_reverse, Nat.add_sub_cancel_left]
  exact hv
theorem lkRS {q : Part} {r : List Part} {k : Nat} (hk : k = r.length * 3) : ((encs (q :: r).reverse).drop k).take 3 = q.cs := by
  subst hk
  rw [encs_rev, List.drop_append_of_le_length (by rw [encs3, List.length_reverse]; exact Nat.le_refl _), List.drop_eq_nil_of_le (by rw [encs3, List.length_reverse]; exact Nat.le_refl _)]
  rfl
theorem stR {q q' : Part} {r : List Part} {k : Nat} (j : Nat) (u : Value) (hk : k = r.length * 3 + j) (hq : q.cs.take j ++ [u] ++ q.cs.drop (j + 1) = q'.cs) (hj : j < 3) : (encs (q :: r).reverse).take k ++ [u] ++ (encs (q :: r).reverse).drop (k + 1) = encs (q' :: r).reverse := by
  subst hk
  have hl : (encs r.reverse).length = r.length * 3 := by rw [encs3, List.length_reverse]
  rw [encs_rev, encs_rev, ← hq, List.take_append, List.drop_append, hl, List.take_of_length_le (by rw [hl]; omega), List.drop_eq_nil_of_le (by rw [hl]; omega), Nat.add_sub_cancel_left, show r.length * 3 + j + 1 - r.length * 3 = j + 1 by omega]
  simp
theorem takeR {S : Nat → Prop} {w0 w : World} {L : List Res} {v : Value} {e : TypeId} {q : Part} {r : List Part} (h : Hp S w0 w (.row v e 3 (q :: r).length (encs (q :: r).reverse) :: L)) : Hp S w0 w (.row (Value.cut v 0 r.length 3) e 3 r.length (encs r.reverse) :: L) := by
  have h1 := row_take h (m' := r.length) (by simp)
  rw [encs_rev, List.take_append_of_le_length (by rw [encs3, List.length_reverse]; exact Nat.le_refl _), List.take_of_length_le (by rw [encs3, List.length_reverse]; exact Nat.le_refl _)] at h1
  exact h1
theorem addR_zero {r : List Part} {p : Part} (h : p.n = 0) : addR r p = r := by unfold addR; rw [if_pos h]
theorem addR_nil {p : Part} (h : ¬ p.n = 0) : addR [] p = [p] := by unfold addR; rw [if_neg h]
theorem addR_more {q : Part} {r : List Part} {p : Part} (h : ¬ p.n = 0) (h1 : q.kind = p.kind) : addR (q :: r) p = q.more p :: r := by rw [addR, if_neg h]; simp only [if_pos h1]
theorem addR_push {q : Part} {r : List Part} {p : Part} (h : ¬ p.n = 0) (h1 : ¬ q.kind = p.kind) (h2 : p.kind ≠ 2 ∨ q.kind ≠ 3) : addR (q :: r) p = p :: q :: r := by rw [addR, if_neg h]; simp only [if_neg h1, if_pos h2]
theorem addR_deep {q : Part} {r : List Part} {p : Part} (h : ¬ p.n = 0) (h1 : ¬ q.kind = p.kind) (h2 : ¬ (p.kind ≠ 2 ∨ q.kind ≠ 3)) : addR (q :: r) p = q :: addR r p := by rw [addR, if_neg h]; simp only [if_neg h1, if_neg h2]
theorem encs_push (r : List Part) (p : Part) : encs r.reverse ++ encs [p] = encs (p :: r).reverse := by rw [encs_rev]; rfl
/-! ### Several parts, and what the functions answer -/
def addRs (r ps : List Part) : List Part := ps.foldl addR r
structure ManyB (r ps : List Part) : Prop where
  pos : ∀ q ∈ r, 0 ≤ q.n
  pos' : ∀ q ∈ ps, 0 ≤ q.n
  n : nsum r + nsum ps ≤ 4611686018427387904
  t : tsum r + tsum ps ≤ 4611686018427387904
  len : r.length + ps.length < 1099511627776
theorem addRs_cons (r : List Part) (p : Part) (ps : List Part) : addRs r (p :: ps) = addRs (addR r p) ps := rfl
theorem addRs_append (r ps qs : List Part) : addRs r (ps ++ qs) = addRs (addRs r ps) qs := by simp [addRs]
theorem take_getD {α : Type} [Inhabited α] {e : List α} {k : Nat} {p : α} (h : k < e.length) (hp : e.getD k default = p) : e.take (k + 1) = e.take k ++ [p] := by
  rw [List.take_succ_eq_append_getElem h]
  simp [List.getD_eq_getElem?_getD, List.getElem?_eq_getElem h] at hp
  rw [hp]
theorem addRs_take {r ps : List Part} {k : Nat} {p : Part} (h : k < ps.length) (hp : ps.getD k default = p) : addRs r (ps.take (k + 1)) = addR (addRs r (ps.take k)) p := by rw [take_getD h hp, addRs_append]; rfl
theorem addRs_facts : ∀ (ps r : List Part), (∀ q ∈ r, 0 ≤ q.n) → (∀ q ∈ ps, 0 ≤ q.n) → (∀ q ∈ addRs r ps, 0 ≤ q.n) ∧ nsum (addRs r ps) = nsum r + nsum ps ∧ tsum (addRs r ps) ≤ tsum r + tsum ps ∧ (addRs r ps).length ≤ r.length + ps.length
  | [], r, h, _ => ⟨h, by simp [addRs, nsum], by simp [addRs, tsum], by simp [addRs]⟩
  | p :: ps, r, h, h' => by
    obtain ⟨h1, h2, h3, h4⟩ := addR_facts r p h (h' p (.head _))
    obtain ⟨k1, k2, k3, k4⟩ := addRs_facts ps (addR r p) h1 (fun q hq => h' q (.tail _ hq))
    rw [addRs_cons]
    exact ⟨k1, by simp only [nsum]; omega, by simp only [tsum]; omega, by simp only [List.length_cons]; omega⟩
theorem nsum_append (a b : List Part) : nsum (a ++ b) = nsum a + nsum b := by induction a with | nil => simp [nsum] | cons p a ih => simp only [List.cons_append, nsum, ih]; omega
theorem tsum_append (a b : List Part) : tsum (a ++ b) = tsum a + tsum b := by induction a with | nil => simp [tsum] | cons p a ih => simp only [List.cons_append, tsum, ih]; omega
theorem ManyB.step {r ps : List Part} {k : Nat} {p : Part} (h : ManyB r ps) (hk : k < ps.length) (hp : ps.getD k default = p) : OneB (addRs r (ps.take k)) p := by
  have hs : ps = ps.take k ++ p :: ps.drop (k + 1) := by rw [← drop_getD hk hp, List.take_append_drop]
  have h1 : ∀ q ∈ ps.take k, 0 ≤ q.n := fun q hq => h.pos' q (List.mem_of_mem_take hq)
  have h2 : ∀ q ∈ ps.drop (k + 1), 0 ≤ q.n := fun q hq => h.pos' q (List.mem_of_mem_drop hq)
  obtain ⟨k1, k2, k3, k4⟩ := addRs_facts (ps.take k) r h.pos h1
  have hn := h.n; have ht := h.t; have hl := h.len
  rw [hs, nsum_append] at hn; rw [hs, tsum_append] at ht
  simp only [nsum, tsum] at hn ht
  have := nsum_pos h2
  rw [List.length_take] at k4
  refine ⟨k1, h.pos' p (by rw [hs]; simp), by omega, by omega, by omega⟩
def checkF (e : List Part) (n : Int) : Int := if (sizesF e).2.2 = false ∨ (sizesF e).1 ≠ n then 30 else 0
def sizeE (e : List Part) : Int := if (sizesF e).2.2 = true then 0 else 30
def sizeF (e : List Part) : Int × Int := if (sizesF e).2.2 = true then ((sizesF e).1, (sizesF e).2.1) else (0, 0)
def replBad (n a k : Int) (s : ByteArray) : Prop := n < 0 ∨ 1099511627776 < n ∨ a < 0 ∨ n < a ∨ k < 0 ∨ n - a < k ∨ valid s = false ∨ 1099511627776 - n < (rcount s : Int)
instance (n a k : Int) (s : ByteArray) : Decidable (replBad n a k s) := by unfold replBad; infer_instance
def replF (n a k : Int) (s : ByteArray) : List Part := if replBad n a k s then [] else (addRs [] [keepP a, putP s, dropP k, keepP (n - a - k)]).reverse
def replE (n a k : Int) (s : ByteArray) : Int := if replBad n a k s then 30 else 0
def normF (l : List Part) : List Part := (addRs [] (l.filter fitsB)).reverse
def changesF (e : List Part) : Bool := e.any fun p => decide (p.kind ≠ 1)
def weightGo : List Part → Int → Int → Int × Int
  | [], a, b => (a, b)
  | p :: r, a, b => if fitsB p then weightGo r (if p.kind = 2 then a + p.n else a) (if p.kind = 3 then b + p.n else b) else (0, 0)
def weightF (e : List Part) : Int × Int := weightGo e 0 0
theorem sizesGo_ok : ∀ (e : List Part) (pv : Option Int) (f t : Int), (sizesGo pv e f t).2.2 = true → ∀ p ∈ e, fitsB p = true
  | [], _, _, _, _ => by simp
  | p :: r, pv, f, t, h => by
    simp only [sizesGo] at h
    split at h
    · cases h
    · rename_i h1
      split at h
      · cases h
      · intro q hq
        rcases List.mem_cons.1 hq with rfl | hq
        · exact stopB_fits (by simpa using h1)
        · exact sizesGo_ok r _ _ _ h q hq
theorem sizesGo_bound : ∀ (e : List Part) (pv : Option Int) (f t : Int), 0 ≤ f → f ≤ 1099511627776 → 0 ≤ t → t ≤ 1099511627776 → 0 ≤ (sizesGo pv e f t).1 ∧ (sizesGo pv e f t).1 ≤ 1099511627776 ∧ 0 ≤ (sizesGo pv e f t).2.1 ∧ (sizesGo pv e f t).2.1 ≤ 1099511627776
  | [], _, f, t, h1, h2, h3, h4 => ⟨h1, h2, h3, h4⟩
  | p :: r, pv, f, t, h1, h2, h3, h4 => by
    simp only [sizesGo]
    split
    · simp
    · rename_i hs
      split
      · simp
      · have := fitsB_n (stopB_fits (pv := pv) (p := p) (by simpa using hs))
        exact sizesGo_bound r _ _ _ (by unfold addF; split <;> omega) (by omega) (by unfold addT; split <;> omega) (by omega)
theorem sizesF_bound (e : List Part) : 0 ≤ (sizesF e).1 ∧ (sizesF e).1 ≤ 1099511627776 ∧ 0 ≤ (sizesF e).2.1 ∧ (sizesF e).2.1 ≤ 1099511627776 := sizesGo_bound e _ 0 0 (by omega) (by omega) (by omega) (by omega)
/-! ### A walk over an edit: what is left of it, and the text of the first one -/
def loadT : List Part → List Int → List Int
  | p :: _, tx => if p.kind = 2 then dec p.text else tx
  | [], tx => tx
def kindL : List Part → Int
  | [] => 0
  | p :: _ => p.kind
def takeQ (p : Part) (tx : List Int) (n : Int) : Part := ⟨p.kind, n, if p.kind = 2 then enc (tx.take n.toNat) else p.text⟩
def takeL (p : Part) (l : List Part) (n : Int) : List Part := if p.n - n = 0 then l else ⟨p.kind, p.n - n, p.text⟩ :: l
def takeT (p : Part) (l : List Part) (tx : List Int) (n : Int) : List Int := if p.n - n = 0 then loadT l (if p.kind = 2 then tx.drop n.toNat else tx) else (if p.kind = 2 then tx.drop n.toNat else tx)
theorem encs_cons (q : Part) (l : List Part) : encs (q :: l) = q.cs ++ encs l := rfl
theorem stH {q q' : Part} {l : List Part} {k : Nat} (j : Nat) (u : Value) (hk : k = j) (hq : q.cs.take j ++ [u] ++ q.cs.drop (j + 1) = q'.cs) (hj : j < 3) : (encs (q :: l)).take k ++ [u] ++ (encs (q :: l)).drop (k + 1) = encs (q' :: l) := by
  subst hk
  have hl : q.cs.length = 3 := rfl
  rw [encs_cons, encs_cons, ← hq, List.take_append, List.drop_append, hl, show k - 3 = 0 by omega, show k + 1 - 3 = 0 by omega]
  simp
theorem winTail {S : Nat → Prop} {w0 w : World} {L : List Res} {v : Value} {e : TypeId} {q : Part} {l : List Part} (h : Hp S w0 w (.win v e 3 (q :: l).length (encs (q :: l)) :: L)) : Hp S w0 w (.win (Value.cut v 1 (q :: l).length 3) e 3 l.length (encs l) :: L) := by
  have := win_cut h 1 (by simp)
  exact this
theorem lkH {p : Part} {l : List Part} {k : Nat} {v : Value} (j : Nat) (hk : k = j) (hj : j < 3) (hv : p.cs[j]? = some v) : (encs (p :: l))[k]? = some v := by
  subst hk
  rw [encs_cons, List.getElem?_append_left hj]; exact hv
end Go.SK

set_option linter.unusedVariables false
set_option linter.unusedSimpArgs false
namespace Go.SK
open Go
def fromS : List Part → Int
  | [] => 0
  | p :: r => (if p.kind = 2 then 0 else p.n) + fromS r
def toS : List Part → Int
  | [] => 0
  | p :: r => (if p.kind = 3 then 0 else p.n) + toS r
def Fits (e : List Part) : Prop := ∀ p ∈ e, fitsB p = true
theorem Fits.tail {p : Part} {e : List Part} (h : Fits (p :: e)) : Fits e := fun q hq => h q (.tail _ hq)
theorem Fits.cons {p : Part} {e : List Part} (h : fitsB p = true) (h' : Fits e) : Fits (p :: e) := fun q hq => (List.mem_cons.1 hq).elim (fun x => x ▸ h) (h' q)
theorem fitsB_cases {p : Part} (h : fitsB p = true) : 1 ≤ p.n ∧ p.n ≤ 1099511627776 ∧ ((p.kind = 1 ∧ p.text = ⟨#[]⟩) ∨ (p.kind = 3 ∧ p.text = ⟨#[]⟩) ∨ (p.kind = 2 ∧ valid p.text = true ∧ ((dec p.text).length : Int) = p.n)) := by
  have hn := fitsB_n h
  refine ⟨hn.1, hn.2, ?_⟩
  unfold fitsB at h
  rw [if_neg (by omega), if_neg (by omega)] at h
  split at h
  · rename_i hk; exact .inl ⟨hk, by simpa using h⟩
  · split at h
    · rename_i hk; exact .inr (.inl ⟨hk, by simpa using h⟩)
    · split at h
      · rename_i hk
        simp only [Bool.and_eq_true, decide_eq_true_eq] at h
        refine .inr (.inr ⟨hk, h.1, ?_⟩)
        rw [← rcount_dec]; exact h.2
      · cases h
theorem fitsB_mk {p : Part} (h1 : 1 ≤ p.n) (h2 : p.n ≤ 1099511627776) (h : (p.kind = 1 ∧ p.text = ⟨#[]⟩) ∨ (p.kind = 3 ∧ p.text = ⟨#[]⟩) ∨ (p.kind = 2 ∧ valid p.text = true ∧ ((dec p.text).length : Int) = p.n)) : fitsB p = true := by
  unfold fitsB
  rw [if_neg (by omega), if_neg (by omega)]
  rcases h with ⟨hk, ht⟩ | ⟨hk, ht⟩ | ⟨hk, hv, hl⟩
  · rw [if_pos hk]; simp [ht]
  · rw [if_neg (by omega), if_pos hk]; simp [ht]
  · rw [if_neg (by omega), if_neg (by omega), if_pos hk]
    simp only [Bool.and_eq_true, decide_eq_true_eq]
    exact ⟨hv, by rw [rcount_dec]; exact hl⟩
theorem sizesGo_sum : ∀ (e : List Part) (pv : Option Int) (f t : Int), (sizesGo pv e f t).2.2 = true → (sizesGo pv e f t).1 = f + fromS e ∧ (sizesGo pv e f t).2.1 = t + toS e
  | [], _, f, t, _ => by simp [sizesGo, fromS, toS]
  | p :: r, pv, f, t, h => by
    simp only [sizesGo] at h ⊢
    split at h
    · cases h
    · split at h
      · cases h
      · rename_i h1 h2
        rw [if_neg h1, if_neg h2]
        obtain ⟨k1, k2⟩ := sizesGo_sum r _ _ _ h
        rw [k1, k2]
        simp only [addF, addT, fromS, toS]
        constructor <;> split <;> omega
theorem sizesF_sum {e : List Part} (h : (sizesF e).2.2 = true) : (sizesF e).1 = fromS e ∧ (sizesF e).2.1 = toS e ∧ Fits e := by
  have := sizesGo_sum e none 0 0 h
  exact ⟨by have := this.1; simpa [sizesF] using this, by have := this.2; simpa [sizesF] using this, sizesGo_ok e none 0 0 h⟩
theorem fromS_pos : ∀ {e : List Part}, Fits e → 0 ≤ fromS e ∧ 0 ≤ toS e ∧ nsum e ≤ fromS e + toS e ∧ 0 ≤ nsum e
  | [], _ => by simp [fromS, toS, nsum]
  | p :: r, h => by
    have h1 := fitsB_cases (h p (.head _))
    have h2 := fromS_pos h.tail
    simp only [fromS, toS, nsum]
    split <;> split <;> omega
/-! ### Apply -/
def apGo : List Part → List Int → List Int → List Int
  | [], _, out => out
  | p :: r, l, out => if p.kind = 1 then apGo r (l.drop p.n.toNat) (out ++ l.take p.n.toNat) else if p.kind = 3 then apGo r (l.drop p.n.toNat) out else apGo r l (out ++ dec p.text)
def applyBad (e : List Part) (s : ByteArray) : Prop := valid s = false ∨ checkF e (dec s).length ≠ 0
instance (e : List Part) (s : ByteArray) : Decidable (applyBad e s) := by unfold applyBad; infer_instance
def applyF (e : List Part) (s : ByteArray) : ByteArray := if applyBad e s then ⟨#[]⟩ else enc (apGo e (dec s) [])
def applyE (e : List Part) (s : ByteArray) : Int := if applyBad e s then 30 else 0
theorem checkF_ok {e : List Part} {n : Int} (h : checkF e n = 0) : (sizesF e).2.2 = true ∧ fromS e = n ∧ Fits e ∧ toS e ≤ 1099511627776 := by
  unfold checkF at h
  split at h
  · cases h
  · rename_i h1
    have h2 : (sizesF e).2.2 = true := by cases hh : (sizesF e).2.2 <;> simp_all
    have h3 := sizesF_sum h2
    have h4 := sizesF_bound e
    refine ⟨h2, by rw [← h3.1]; simpa [h2] using h1, h3.2.2, by rw [← h3.2.1]; exact h4.2.2.2⟩
/-! ### What is left of an edit -/
def takeP (p : Part) (n : Int) : Part := ⟨p.kind, n, if p.kind = 2 then enc ((dec p.text).take n.toNat) else p.text⟩
def leftP (p : Part) (n : Int) : Part := ⟨p.kind, p.n - n, if p.kind = 2 then enc ((dec p.text).drop n.toNat) else p.text⟩
def restP (p : Part) (l : List Part) (n : Int) : List Part := if p.n - n = 0 then l else leftP p n :: l
/-- What is in memory, of what is left of an edit. -/
def WS (l : List Part) (tx : List Int) : List Part → Prop
  | [] => l = []
  | p :: r => ∃ raw, l = ⟨p.kind, p.n, raw⟩ :: r ∧ (p.kind = 2 → tx = dec p.text) ∧ (p.kind ≠ 2 → raw = p.text) ∧ (raw.size ≤ 70368744177664)
theorem fits_size {p : Part} (h : fitsB p = true) : (p.text.size : Int) ≤ 4 * p.n := by
  obtain ⟨h1, h2, h3⟩ := fitsB_cases h
  rcases h3 with ⟨_, ht⟩ | ⟨_, ht⟩ | ⟨_, hv, hl⟩
  · rw [ht]; show ((0 : Nat) : Int) ≤ _; omega
  · rw [ht]; show ((0 : Nat) : Int) ≤ _; omega
  · have := (enc_size (dec p.text)).2
    rw [enc_dec hv] at this
    omega
theorem fits_sizeN {p : Part} (h : fitsB p = true) : p.text.size ≤ 4398046511104 := by have := fits_size h; have := fitsB_n h; omega
theorem WS.start {e : List Part} (tx : List Int) (h : Fits e) : WS e (loadT e tx) e := by
  cases e with
  | nil => rfl
  | cons p r => exact ⟨p.text, rfl, fun hk => by simp only [loadT, if_pos hk], fun _ => rfl, by have := fits_sizeN (h p (.head _)); omega⟩
theorem WS.kind {l : List Part} {tx : List Int} : ∀ {ps : List Part}, WS l tx ps → kindL l = kindL ps
  | [], h => by rw [show l = [] from h]
  | p :: r, ⟨raw, h, _⟩ => by rw [h]; rfl
theorem take_fits {p : Part} {n : Int} (h : fitsB p = true) (h1 : 1 ≤ n) (h2 : n ≤ p.n) : fitsB (takeP p n) = true := by
  obtain ⟨k1, k2, k3⟩ := fitsB_cases h
  refine fitsB_mk h1 (by simp only [takeP]; omega) ?_
  simp only [takeP]
  rcases k3 with ⟨hk, ht⟩ | ⟨hk, ht⟩ | ⟨hk, hv, hl⟩
  · exact .inl ⟨hk, by rw [if_neg (by omega)]; exact ht⟩
  · exact .inr (.inl ⟨hk, by rw [if_neg (by omega)]; exact ht⟩)
  · refine .inr (.inr ⟨hk, ?_, ?_⟩)
    · rw [if_pos hk]; exact valid_enc fun r hr => dec_scalar hv r (List.mem_of_mem_take hr)
    · rw [if_pos hk, dec_enc fun r hr => dec_scalar hv r (List.mem_of_mem_take hr), List.length_take]; omega
theorem left_fits {p : Part} {n : Int} (h : fitsB p = true) (h1 : 1 ≤ n) (h2 : n < p.n) : fitsB (leftP p n) = true := by
  obtain ⟨k1, k2, k3⟩ := fitsB_cases h
  refine fitsB_mk (by simp only [leftP]; omega) (by simp only [leftP]; omega) ?_
  simp only [leftP]
  rcases k3 with ⟨hk, ht⟩ | ⟨hk, ht⟩ | ⟨hk, hv, hl⟩
  · exact .inl ⟨hk, by rw [if_neg (by omega)]; exact ht⟩
  · exact .inr (.inl ⟨hk, by rw [if_neg (by omega)]; exact ht⟩)
  · refine .inr (.inr ⟨hk, ?_, ?_⟩)
    · rw [if_pos hk]; exact valid_enc fun r hr => dec_scalar hv r (List.mem_of_mem_drop hr)
    · rw [if_pos hk, dec_enc fun r hr => dec_scalar hv r (List.mem_of_mem_drop hr), List.length_drop]; omega
theorem rest_fits {p : Part} {l : List Part} {n : Int} (h : Fits (p :: l)) (h1 : 1 ≤ n) (h2 : n ≤ p.n) : Fits (restP p l n) := by
  unfold restP
  split
  · exact h.tail
  · exact Fits.cons (left_fits (h p (.head _)) h1 (by omega)) h.tail
theorem take_all {p : Part} (h : fitsB p = true) : takeP p p.n = p := by
  obtain ⟨k1, k2, k3⟩ := fitsB_cases h
  cases p with
  | mk k n t =>
    simp only [takeP, Part.mk.injEq, true_and]
    rcases k3 with ⟨hk, ht⟩ | ⟨hk, ht⟩ | ⟨hk, hv, hl⟩
    · rw [if_neg (by simp only at hk; omega)]
    · rw [if_neg (by simp only at hk; omega)]
    · simp only at hk hv hl
      rw [if_pos hk, List.take_of_length_le (by omega), enc_dec hv]
theorem rest_all (p : Part) (l : List Part) : restP p l p.n = l := by unfold restP; rw [if_pos (by omega)]
/-- A step over what is in memory is a step over what it stands for. -/
theorem WS.step {l : List Part} {tx : List Int} {p : Part} {r : List Part} (h : WS l tx (p :: r)) (hf : Fits (p :: r)) {n : Int} (h1 : 1 ≤ n) (h2 : n ≤ p.n) :
    ∃ q, l = q :: r ∧ q.n = p.n ∧ (q.kind = 2 → n.toNat ≤ tx.length) ∧ takeQ q tx n = takeP p n ∧ WS (takeL q r n) (takeT q r tx n) (restP p r n) := by
  obtain ⟨raw, rfl, k1, k2, k3⟩ := h
  obtain ⟨c1, c2, c3⟩ := fitsB_cases (hf p (.head _))
  refine ⟨_, rfl, rfl, fun hk => ?_, ?_, ?_⟩
  · rw [k1 hk]
    rcases c3 with ⟨hk', _⟩ | ⟨hk', _⟩ | ⟨_, _, hl⟩
    · simp only at hk; omega
    · simp only at hk; omega
    · omega
  · simp only [takeQ, takeP, Part.mk.injEq, true_and]
    split
    · rename_i hk; rw [k1 hk]
    · rename_i hk; exact k2 hk
  · unfold takeL takeT restP
    simp only
    by_cases h0 : p.n - n = 0
    · rw [if_pos h0, if_pos h0, if_pos h0]
      exact WS.start _ hf.tail
    · rw [if_neg h0, if_neg h0, if_neg h0]
      refine ⟨raw, rfl, fun hk => ?_, fun hk => ?_, k3⟩
      · simp only [leftP] at hk ⊢
        rw [if_pos hk, if_pos hk, k1 hk]
        rcases c3 with ⟨hk', _⟩ | ⟨hk', _⟩ | ⟨_, hv, hl⟩
        · omega
        · omega
        · exact (dec_enc fun x hx => dec_scalar hv x (List.mem_of_mem_drop hx)).symm
      · simp only [leftP] at hk ⊢
        rw [if_neg hk]; exact k2 hk
theorem rest_nsum (p : Part) (l : List Part) (n : Int) : nsum (restP p l n) + n = nsum (p :: l) := by
  unfold restP
  split
  · simp only [nsum]; omega
  · simp only [nsum, leftP]; omega
theorem rest_len (p : Part) (l : List Part) (n : Int) : (restP p l n).length = l.length + if p.n - n = 0 then 0 else 1 := by
  unfold restP; split <;> simp
theorem rest_from (p : Part) (l : List Part) (n : Int) : fromS (restP p l n) + (if p.kind = 2 then 0 else n) = fromS (p :: l) ∧ toS (restP p l n) + (if p.kind = 3 then 0 else n) = toS (p :: l) := by
  unfold restP
  split
  · simp only [fromS, toS]; constructor <;> split <;> omega
  · simp only [fromS, toS, leftP]; constructor <;> split <;> omega
end Go.SK

set_option linter.unusedVariables false
set_option linter.unusedSimpArgs false
namespace Go.SK
open Go
def minI (a b : Int) : Int := if b < a then b else a
def compGo : Nat → List Part → List Part → List Part
  | 0, _, _ => []
  | f + 1, xs, ys =>
    if kindL xs = 0 ∧ kindL ys = 0 then []
    else if kindL xs = 3 then (match xs with
      | x :: xs' => x :: compGo f xs' ys
      | [] => [])
    else if kindL ys = 2 then (match ys with
      | y :: ys' => y :: compGo f xs ys'
      | [] => [])
    else match xs, ys with
      | x :: xs', y :: ys' => (if y.kind = 1 then [takeP x (minI x.n y.n)] else if x.kind = 1 then [takeP y (minI x.n y.n)] else []) ++ compGo f (restP x xs' (minI x.n y.n)) (restP y ys' (minI x.n y.n))
      | _, _ => []
def trGo : Nat → List Part → List Part → List Part × List Part
  | 0, _, _ => ([], [])
  | f + 1, xs, ys =>
    if kindL xs = 0 ∧ kindL ys = 0 then ([], [])
    else if kindL xs = 2 then (match xs with
      | x :: xs' => (x :: (trGo f xs' ys).1, keepP x.n :: (trGo f xs' ys).2)
      | [] => ([], []))
    else if kindL ys = 2 then (match ys with
      | y :: ys' => (keepP y.n :: (trGo f xs ys').1, y :: (trGo f xs ys').2)
      | [] => ([], []))
    else match xs, ys with
      | x :: xs', y :: ys' => ((if y.kind = 1 then [takeP x (minI x.n y.n)] else []) ++ (trGo f (restP x xs' (minI x.n y.n)) (restP y ys' (minI x.n y.n))).1,
          (if x.kind = 1 then [takeP y (minI x.n y.n)] else []) ++ (trGo f (restP x xs' (minI x.n y.n)) (restP y ys' (minI x.n y.n))).2)
      | _, _ => ([], [])
theorem compGo_stop {f : Nat} {xs ys : List Part} (h : kindL xs = 0 ∧ kindL ys = 0) : compGo (f + 1) xs ys = [] := by unfold compGo; rw [if_pos h]
theorem compGo_x {f : Nat} {x : Part} {xs ys : List Part} (hk : kindL (x :: xs) = 3) : compGo (f + 1) (x :: xs) ys = x :: compGo f xs ys := by
  conv => lhs; unfold compGo
  rw [if_neg (by omega), if_pos hk]
theorem compGo_y {f : Nat} {y : Part} {xs ys : List Part} (hx : ¬ kindL xs = 3) (hk : kindL (y :: ys) = 2) : compGo (f + 1) xs (y :: ys) = y :: compGo f xs ys := by
  conv => lhs; unfold compGo
  rw [if_neg (by omega), if_neg hx, if_pos hk]
theorem compGo_b {f : Nat} {x y : Part} {xs ys : List Part} (h0 : ¬ (kindL (x :: xs) = 0 ∧ kindL (y :: ys) = 0)) (hx : ¬ kindL (x :: xs) = 3) (hk : ¬ kindL (y :: ys) = 2) : compGo (f + 1) (x :: xs) (y :: ys) = (if y.kind = 1 then [takeP x (minI x.n y.n)] else if x.kind = 1 then [takeP y (minI x.n y.n)] else []) ++ compGo f (restP x xs (minI x.n y.n)) (restP y ys (minI x.n y.n)) := by
  conv => lhs; unfold compGo
  rw [if_neg h0, if_neg hx, if_neg hk]
theorem kindL_cons {xs : List Part} {k : Int} (h : kindL xs = k) (hk : k ≠ 0) : ∃ x xs', xs = x :: xs' ∧ x.kind = k := by
  cases xs with
  | nil => exact absurd h.symm hk
  | cons x xs' => exact ⟨x, xs', rfl, h⟩
theorem WS.nil {l : List Part} {tx : List Int} {ps : List Part} (h : WS l tx ps) (hl : ps = []) : l = [] := by subst hl; exact h
/-- A maker's bounds. -/
structure MB (r : List Part) (n k : Int) : Prop where
  pos : ∀ q ∈ r, 0 ≤ q.n
  n : nsum r + n ≤ 17592186044416
  t : (tsum r : Int) ≤ 4 * nsum r
  len : (r.length : Int) + k ≤ 549755813888
theorem MB.many {r : List Part} {n k : Int} (h : MB r n k) {p : Part} (hp : fitsB p = true) (hn : p.n ≤ n) (hk : 1 ≤ k) : ManyB r [p] := by
  have h1 := fitsB_n hp; have h2 := fits_size hp; have h3 := h.n; have h4 := h.t; have h5 := h.len
  refine ⟨h.pos, fun q hq => by rw [List.mem_singleton] at hq; subst hq; omega, ?_, ?_, by simp only [List.length_singleton]; omega⟩
  · simp only [nsum]; omega
  · simp only [tsum]; omega
theorem MB.add {r : List Part} {n k n' k' : Int} (h : MB r n k) {p : Part} (hp : fitsB p = true) (hn : n' + p.n ≤ n) (hk : k' + 1 ≤ k) : MB (addRs r [p]) n' k' := by
  have h1 := fitsB_n hp; have h2 := fits_size hp; have h3 := h.n; have h4 := h.t; have h5 := h.len
  obtain ⟨a1, a2, a3, a4⟩ := addRs_facts [p] r h.pos (fun q hq => by rw [List.mem_singleton] at hq; subst hq; omega)
  simp only [nsum, tsum, List.length_singleton] at a2 a3 a4
  exact ⟨a1, by omega, by omega, by omega⟩
theorem MB.less {r : List Part} {n k n' k' : Int} (h : MB r n k) (hn : n' ≤ n) (hk : k' ≤ k) : MB r n' k' := by
  have h3 := h.n; have h5 := h.len
  exact ⟨h.pos, by omega, h.t, by omega⟩
theorem tsum_mem : ∀ {r : List Part} {p : Part}, p ∈ r → p.text.size ≤ tsum r
  | q :: r, p, h => by
    simp only [tsum]
    rcases List.mem_cons.1 h with rfl | h
    · omega
    · have := tsum_mem h; omega
theorem MB.texts {r : List Part} {n k : Int} (h : MB r n k) (hn : 0 ≤ n) : ∀ p ∈ r, p.text.size < 9223372036854775807 := fun p hp => by
  have h1 := tsum_mem hp; have h2 := h.t; have h3 := h.n
  omega
theorem MB.nil {n k : Int} (hn : n ≤ 17592186044416) (hk : k ≤ 549755813888) : MB [] n k := ⟨by simp, by simp only [nsum]; omega, by simp [tsum, nsum], by simp only [List.length_nil]; omega⟩
/-- What a take asks. -/
structure TakeOk (q : Part) (l : List Part) (tx : List Int) (n : Int) : Prop where
  n0 : 0 ≤ n
  n1 : n ≤ q.n
  n2 : q.n ≤ 1099511627776
  tx : q.kind = 2 → n.toNat ≤ tx.length
  hs : ∀ p ∈ l, p.text.size ≤ 70368744177664
theorem WS.take {l : List Part} {tx : List Int} {p : Part} {r : List Part} (h : WS l tx (p :: r)) (hf : Fits (p :: r)) {n : Int} (h1 : 1 ≤ n) (h2 : n ≤ p.n) :
    ∃ q, l = q :: r ∧ q.n = p.n ∧ q.kind = p.kind ∧ TakeOk q r tx n ∧ takeQ q tx n = takeP p n ∧ WS (takeL q r n) (takeT q r tx n) (restP p r n) := by
  obtain ⟨q, e1, e2, e3, e4, e5⟩ := h.step hf h1 h2
  have hn := fitsB_n (hf p (.head _))
  exact ⟨q, e1, e2, by have := congrArg Part.kind e4; simpa [takeQ, takeP] using this, ⟨by omega, by omega, by omega, e3, fun x hx => by have := fits_sizeN (hf.tail x hx); omega⟩, e4, e5⟩
structure CInv (R0 : List Part) (f : Nat) (xs ys r lx : List Part) (tx : List Int) (ly : List Part) (ty : List Int) : Prop where
  fx : Fits xs
  fy : Fits ys
  wx : WS lx tx xs
  wy : WS ly ty ys
  bal : toS xs = fromS ys
  mb : MB r (nsum xs + nsum ys) (xs.length + ys.length)
  fuel : xs.length + ys.length ≤ f
  go : addRs r (compGo f xs ys) = R0
section
variable {R0 : List Part} {f : Nat} {xs ys r lx : List Part} {tx : List Int} {ly : List Part} {ty : List Int}
theorem CInv.stepX (h : CInv R0 f xs ys r lx tx ly ty) (hk : kindL lx = 3) :
    ∃ q l, lx = q :: l ∧ TakeOk q l tx q.n ∧ ManyB r [takeQ q tx q.n] ∧ ∃ f' xs', f' < f ∧ CInv R0 f' xs' ys (addRs r [takeQ q tx q.n]) (takeL q l q.n) (takeT q l tx q.n) ly ty := by
  rw [h.wx.kind] at hk
  obtain ⟨x, xs', rfl, hx⟩ := kindL_cons hk (by omega)
  have hn := fitsB_n (h.fx x (.head _))
  obtain ⟨q, e1, e2, e3, e4, e5, e6⟩ := h.wx.take h.fx hn.1 (Int.le_refl _)
  rw [← e2] at e4 e6
  have e5' : takeQ q tx q.n = x := by rw [e2, e5, take_all (h.fx x (.head _))]
  have hr : restP x xs' q.n = xs' := by rw [e2]; exact rest_all _ _
  have hfu := h.fuel; have hb := h.bal; have hgo := h.go
  have hnx := (fromS_pos h.fx.tail).2.2.2
  have hny := (fromS_pos h.fy).2.2.2
  simp only [List.length_cons] at hfu
  obtain ⟨f, rfl⟩ : ∃ m, f = m + 1 := ⟨f - 1, by omega⟩
  rw [hr] at e6
  refine ⟨q, xs', e1, e4, by rw [e5']; exact h.mb.many (h.fx x (.head _)) (by simp only [nsum]; omega) (by simp only [List.length_cons]; omega), f, xs', by omega, ?_⟩
  rw [e5']
  refine ⟨h.fx.tail, h.fy, e6, h.wy, ?_, h.mb.add (h.fx x (.head _)) (by simp only [nsum]; omega) (by simp only [List.length_cons]; omega), by omega, ?_⟩
  · simp only [toS, if_pos hx] at hb; omega
  · rw [compGo_x hk] at hgo
    rw [← hgo, addRs_cons]; rfl
theorem CInv.stepY (h : CInv R0 f xs ys r lx tx ly ty) (hx : ¬ kindL lx = 3) (hk : kindL ly = 2) :
    ∃ q l, ly = q :: l ∧ TakeOk q l ty q.n ∧ ManyB r [takeQ q ty q.n] ∧ ∃ f' ys', f' < f ∧ CInv R0 f' xs ys' (addRs r [takeQ q ty q.n]) lx tx (takeL q l q.n) (takeT q l ty q.n) := by
  rw [h.wy.kind] at hk
  rw [h.wx.kind] at hx
  obtain ⟨y, ys', rfl, hy⟩ := kindL_cons hk (by omega)
  have hn := fitsB_n (h.fy y (.head _))
  obtain ⟨q, e1, e2, e3, e4, e5, e6⟩ := h.wy.take h.fy hn.1 (Int.le_refl _)
  rw [← e2] at e4 e6
  have e5' : takeQ q ty q.n = y := by rw [e2, e5, take_all (h.fy y (.head _))]
  have hr : restP y ys' q.n = ys' := by rw [e2]; exact rest_all _ _
  have hfu := h.fuel; have hb := h.bal; have hgo := h.go
  have hnx := (fromS_pos h.fx).2.2.2
  have hny := (fromS_pos h.fy.tail).2.2.2
  simp only [List.length_cons] at hfu
  obtain ⟨f, rfl⟩ : ∃ m, f = m + 1 := ⟨f - 1, by omega⟩
  rw [hr] at e6
  refine ⟨q, ys', e1, e4, by rw [e5']; exact h.mb.many (h.fy y (.head _)) (by simp only [nsum]; omega) (by simp only [List.length_cons]; omega), f, ys', by omega, ?_⟩
  rw [e5']
  refine ⟨h.fx, h.fy.tail, h.wx, e6, ?_, h.mb.add (h.fy y (.head _)) (by simp only [nsum]; omega) (by simp only [List.length_cons]; omega), by omega, ?_⟩
  · simp only [fromS, if_pos hy] at hb; omega
  · rw [compGo_y hx hk] at hgo
    rw [← hgo, addRs_cons]; rfl
theorem minI_le (a b : Int) : minI a b ≤ a ∧ minI a b ≤ b ∧ (minI a b = a ∨ minI a b = b) := by unfold minI; split <;> omega
theorem CInv.stepB (h : CInv R0 f xs ys r lx tx ly ty) (h0 : kindL lx ≠ 0 ∨ kindL ly ≠ 0) (hx : ¬ kindL lx = 3) (hy : ¬ kindL ly = 2) :
    ∃ q l p l', lx = q :: l ∧ ly = p :: l' ∧ TakeOk q l tx (minI q.n p.n) ∧ TakeOk p l' ty (minI q.n p.n) ∧
      (p.kind = 1 → ManyB r [takeQ q tx (minI q.n p.n)] ∧ ∃ f' xs' ys', f' < f ∧ CInv R0 f' xs' ys' (addRs r [takeQ q tx (minI q.n p.n)]) (takeL q l (minI q.n p.n)) (takeT q l tx (minI q.n p.n)) (takeL p l' (minI q.n p.n)) (takeT p l' ty (minI q.n p.n))) ∧
      (¬ p.kind = 1 → q.kind = 1 → ManyB r [takeQ p ty (minI q.n p.n)] ∧ ∃ f' xs' ys', f' < f ∧ CInv R0 f' xs' ys' (addRs r [takeQ p ty (minI q.n p.n)]) (takeL q l (minI q.n p.n)) (takeT q l tx (minI q.n p.n)) (takeL p l' (minI q.n p.n)) (takeT p l' ty (minI q.n p.n))) ∧
      (¬ p.kind = 1 → ¬ q.kind = 1 → ∃ f' xs' ys', f' < f ∧ CInv R0 f' xs' ys' r (takeL q l (minI q.n p.n)) (takeT q l tx (minI q.n p.n)) (takeL p l' (minI q.n p.n)) (takeT p l' ty (minI q.n p.n))) := by
  rw [h.wx.kind, h.wy.kind] at h0
  rw [h.wx.kind] at hx
  rw [h.wy.kind] at hy
  have hb := h.bal; have hfu := h.fuel; have hgo := h.go
  have hxs : xs ≠ [] := by
    rintro rfl
    cases ys with
    | nil => simp [kindL] at h0
    | cons y ys' =>
      have h1 := fitsB_n (h.fy y (.head _)); have h2 := fromS_pos h.fy.tail
      have hy' : ¬ y.kind = 2 := hy
      simp only [toS, fromS, if_neg hy'] at hb; omega
  obtain ⟨x, xs', rfl⟩ := List.exists_cons_of_ne_nil hxs
  have hx' : ¬ x.kind = 3 := hx
  have hnx := fitsB_n (h.fx x (.head _)); have hnx2 := fromS_pos h.fx.tail
  have hys : ys ≠ [] := by
    rintro rfl
    simp only [toS, fromS, if_neg hx'] at hb; omega
  obtain ⟨y, ys', rfl⟩ := List.exists_cons_of_ne_nil hys
  have hy' : ¬ y.kind = 2 := hy
  have hny := fitsB_n (h.fy y (.head _)); have hny2 := fromS_pos h.fy.tail
  obtain ⟨m1, m2, m3⟩ := minI_le x.n y.n
  obtain ⟨q, e1, e2, e3, e4, e5, e6⟩ := h.wx.take h.fx (n := minI x.n y.n) (by omega) m1
  obtain ⟨p, g1, g2, g3, g4, g5, g6⟩ := h.wy.take h.fy (n := minI x.n y.n) (by omega) m2
  simp only [List.length_cons] at hfu
  obtain ⟨f, rfl⟩ : ∃ m, f = m + 1 := ⟨f - 1, by omega⟩
  have rx := rest_nsum x xs' (minI x.n y.n); have ry := rest_nsum y ys' (minI x.n y.n)
  have lx' := rest_len x xs' (minI x.n y.n); have ly' := rest_len y ys' (minI x.n y.n)
  have hbx := (rest_from x xs' (minI x.n y.n)).2; have hby := (rest_from y ys' (minI x.n y.n)).1
  rw [if_neg hx'] at hbx; rw [if_neg hy'] at hby
  have hfx := rest_fits h.fx (n := minI x.n y.n) (by omega) m1
  have hfy := rest_fits h.fy (n := minI x.n y.n) (by omega) m2
  have hll : (restP x xs' (minI x.n y.n)).length + (restP y ys' (minI x.n y.n)).length + 1 ≤ xs'.length + 1 + (ys'.length + 1) := by
    rw [lx', ly']
    rcases m3 with m3 | m3
    · rw [if_pos (show x.n - minI x.n y.n = 0 by omega)]; split <;> omega
    · rw [if_pos (show y.n - minI x.n y.n = 0 by omega)]; split <;> omega
  have hbal : toS (restP x xs' (minI x.n y.n)) = fromS (restP y ys' (minI x.n y.n)) := by omega
  rw [compGo_b (by rintro ⟨a1, a2⟩; omega) hx hy] at hgo
  have t1 := take_fits (h.fx x (.head _)) (n := minI x.n y.n) (by omega) m1
  have t2 := take_fits (h.fy y (.head _)) (n := minI x.n y.n) (by omega) m2
  have hm0 : 1 ≤ minI x.n y.n := by omega
  rw [← e2, ← g2] at e4 e5 e6 g4 g5 g6 hgo t1 t2 hbal hll hfx hfy rx ry m1 m2 hm0
  have tn1 : (takeP x (minI q.n p.n)).n = minI q.n p.n := rfl
  have tn2 : (takeP y (minI q.n p.n)).n = minI q.n p.n := rfl
  refine ⟨q, xs', p, ys', e1, g1, e4, g4, fun hk => ?_, fun hk hk' => ?_, fun hk hk' => ?_⟩
  · rw [e5]
    rw [g3] at hk
    refine ⟨h.mb.many t1 (by simp only [nsum]; omega) (by simp only [List.length_cons]; omega), f, _, _, by omega, hfx, hfy, e6, g6, hbal, h.mb.add t1 (by omega) (by simp only [List.length_cons]; omega), by omega, ?_⟩
    rw [if_pos hk, addRs_append] at hgo
    exact hgo
  · rw [g5]
    rw [g3] at hk; rw [e3] at hk'
    refine ⟨h.mb.many t2 (by simp only [nsum]; omega) (by simp only [List.length_cons]; omega), f, _, _, by omega, hfx, hfy, e6, g6, hbal, h.mb.add t2 (by omega) (by simp only [List.length_cons]; omega), by omega, ?_⟩
    rw [if_neg hk, if_pos hk', addRs_append] at hgo
    exact hgo
  · rw [g3] at hk; rw [e3] at hk'
    refine ⟨f, _, _, by omega, hfx, hfy, e6, g6, hbal, h.mb.less (by omega) (by simp only [List.length_cons]; omega), by omega, ?_⟩
    rw [if_neg hk, if_neg hk', List.nil_append] at hgo
    exact hgo
theorem CInv.stop (h : CInv R0 f xs ys r lx tx ly ty) (h1 : kindL lx = 0) (h2 : kindL ly = 0) : r = R0 := by
  have hgo := h.go
  rw [h.wx.kind] at h1; rw [h.wy.kind] at h2
  cases f with
  | zero => exact hgo
  | succ f => rw [compGo_stop ⟨h1, h2⟩] at hgo; exact hgo
end
def compBad (a b : List Part) : Prop := (sizesF a).2.2 = false ∨ (sizesF b).2.2 = false ∨ (sizesF b).1 ≠ (sizesF a).2.1
instance (a b : List Part) : Decidable (compBad a b) := by unfold compBad; infer_instance
def compR (a b : List Part) : List Part := addRs [] (compGo (a.length + b.length) a b)
def compE (a b : List Part) : Int := if compBad a b then 30 else if (sizesF (compR a b).reverse).2.2 = true then 0 else 4
def compF (a b : List Part) : List Part := if compE a b = 0 then (compR a b).reverse else []
theorem nsum_bound {e : List Part} (h : (sizesF e).2.2 = true) : 0 ≤ nsum e ∧ nsum e ≤ 2199023255552 := by
  have h1 := sizesF_sum h; have h2 := sizesF_bound e; have h3 := fromS_pos h1.2.2
  omega
theorem CInv.start {a b : List Part} (h : ¬ compBad a b) (hl : a.length ≤ 137438953472) (hl' : b.length ≤ 137438953472) : CInv (compR a b) (a.length + b.length) a b [] a (loadT a []) b (loadT b []) := by
  unfold compBad at h
  have ha : (sizesF a).2.2 = true := by cases hh : (sizesF a).2.2 <;> simp_all
  have hb : (sizesF b).2.2 = true := by cases hh : (sizesF b).2.2 <;> simp_all
  have h1 := sizesF_sum ha; have h2 := sizesF_sum hb
  have n1 := nsum_bound ha; have n2 := nsum_bound hb
  exact ⟨h1.2.2, h2.2.2, WS.start _ h1.2.2, WS.start _ h2.2.2, by rw [← h1.2.1, ← h2.1]; exact (by simpa [ha, hb] using h : (sizesF b).1 = (sizesF a).2.1).symm, MB.nil (by omega) (by omega), Nat.le_refl _, rfl⟩
theorem comp_bad {a b : List Part} (h : compBad a b) : compE a b = 30 ∧ compF a b = [] := by
  have h1 : compE a b = 30 := if_pos h
  exact ⟨h1, if_neg (by rw [h1]; decide)⟩
theorem comp_long {a b : List Part} (h : ¬ compBad a b) (h2 : ¬ (sizesF (compR a b).reverse).2.2 = true) : compE a b = 4 ∧ compF a b = [] := by
  have h1 : compE a b = 4 := by rw [compE, if_neg h, if_neg h2]
  exact ⟨h1, if_neg (by rw [h1]; decide)⟩
theorem comp_ok {a b : List Part} (h : ¬ compBad a b) (h2 : (sizesF (compR a b).reverse).2.2 = true) : compE a b = 0 ∧ compF a b = (compR a b).reverse := by
  have h1 : compE a b = 0 := by rw [compE, if_neg h, if_pos h2]
  exact ⟨h1, if_pos h1⟩
theorem CInv.texts {R0 : List Part} {f : Nat} {xs ys r lx : List Part} {tx : List Int} {ly : List Part} {ty : List Int} (h : CInv R0 f xs ys r lx tx ly ty) : ∀ p ∈ r, p.text.size < 9223372036854775807 :=
  h.mb.texts (by have := (fromS_pos h.fx).2.2.2; have := (fromS_pos h.fy).2.2.2; omega)
theorem fits_small {e : List Part} (h : Fits e) : ∀ p ∈ e, p.text.size ≤ 70368744177664 := fun p hp => by have := fits_sizeN (h p hp); omega
end Go.SK

set_option linter.unusedVariables false
set_option linter.unusedSimpArgs false
namespace Go.SK
open Go
theorem trGo_stop {f : Nat} {xs ys : List Part} (h : kindL xs = 0 ∧ kindL ys = 0) : trGo (f + 1) xs ys = ([], []) := by unfold trGo; rw [if_pos h]
theorem trGo_x {f : Nat} {x : Part} {xs ys : List Part} (hk : kindL (x :: xs) = 2) : trGo (f + 1) (x :: xs) ys = (x :: (trGo f xs ys).1, keepP x.n :: (trGo f xs ys).2) := by
  conv => lhs; unfold trGo
  rw [if_neg (by omega), if_pos hk]
theorem trGo_y {f : Nat} {y : Part} {xs ys : List Part} (hx : ¬ kindL xs = 2) (hk : kindL (y :: ys) = 2) : trGo (f + 1) xs (y :: ys) = (keepP y.n :: (trGo f xs ys).1, y :: (trGo f xs ys).2) := by
  conv => lhs; unfold trGo
  rw [if_neg (by omega), if_neg hx, if_pos hk]
theorem trGo_b {f : Nat} {x y : Part} {xs ys : List Part} (h0 : ¬ (kindL (x :: xs) = 0 ∧ kindL (y :: ys) = 0)) (hx : ¬ kindL (x :: xs) = 2) (hk : ¬ kindL (y :: ys) = 2) : trGo (f + 1) (x :: xs) (y :: ys) = ((if y.kind = 1 then [takeP x (minI x.n y.n)] else []) ++ (trGo f (restP x xs (minI x.n y.n)) (restP y ys (minI x.n y.n))).1,
          (if x.kind = 1 then [takeP y (minI x.n y.n)] else []) ++ (trGo f (restP x xs (minI x.n y.n)) (restP y ys (minI x.n y.n))).2) := by
  conv => lhs; unfold trGo
  rw [if_neg h0, if_neg hx, if_neg hk]
theorem keep_fits {n : Int} (h1 : 1 ≤ n) (h2 : n ≤ 1099511627776) : fitsB (keepP n) = true := fitsB_mk h1 h2 (.inl ⟨rfl, rfl⟩)
structure TInv (R1 R2 : List Part) (f : Nat) (xs ys r o lx : List Part) (tx : List Int) (ly : List Part) (ty : List Int) : Prop where
  fx : Fits xs
  fy : Fits ys
  wx : WS lx tx xs
  wy : WS ly ty ys
  bal : fromS xs = fromS ys
  mb : MB r (nsum xs + nsum ys) (xs.length + ys.length)
  mo : MB o (nsum xs + nsum ys) (xs.length + ys.length)
  fuel : xs.length + ys.length ≤ f
  g1 : addRs r (trGo f xs ys).1 = R1
  g2 : addRs o (trGo f xs ys).2 = R2
section
variable {R1 R2 : List Part} {f : Nat} {xs ys r o lx : List Part} {tx : List Int} {ly : List Part} {ty : List Int}
theorem TInv.stepX (h : TInv R1 R2 f xs ys r o lx tx ly ty) (hk : kindL lx = 2) :
    ∃ q l, lx = q :: l ∧ TakeOk q l tx q.n ∧ ManyB r [takeQ q tx q.n] ∧ ManyB o [keepP q.n] ∧ ∃ f' xs', f' < f ∧ TInv R1 R2 f' xs' ys (addRs r [takeQ q tx q.n]) (addRs o [keepP q.n]) (takeL q l q.n) (takeT q l tx q.n) ly ty := by
  rw [h.wx.kind] at hk
  obtain ⟨x, xs', rfl, hx⟩ := kindL_cons hk (by omega)
  have hn := fitsB_n (h.fx x (.head _))
  obtain ⟨q, e1, e2, e3, e4, e5, e6⟩ := h.wx.take h.fx hn.1 (Int.le_refl _)
  rw [← e2] at e4 e6
  have e5' : takeQ q tx q.n = x := by rw [e2, e5, take_all (h.fx x (.head _))]
  have hr : restP x xs' q.n = xs' := by rw [e2]; exact rest_all _ _
  have hfu := h.fuel; have hb := h.bal; have hg1 := h.g1; have hg2 := h.g2
  have hnx := (fromS_pos h.fx.tail).2.2.2
  have hny := (fromS_pos h.fy).2.2.2
  simp only [List.length_cons] at hfu
  obtain ⟨f, rfl⟩ : ∃ m, f = m + 1 := ⟨f - 1, by omega⟩
  rw [hr] at e6
  have hkf := keep_fits hn.1 hn.2
  have hkn : (keepP x.n).n = x.n := rfl
  have hfx := h.fx x (.head _)
  refine ⟨q, xs', e1, e4, by rw [e5']; exact h.mb.many hfx (by simp only [nsum]; omega) (by simp only [List.length_cons]; omega), by rw [e2]; exact h.mo.many hkf (by simp only [nsum]; omega) (by simp only [List.length_cons]; omega), f, xs', by omega, ?_⟩
  rw [e5', e2]
  rw [e2] at e6
  rw [trGo_x hk] at hg1 hg2
  refine ⟨h.fx.tail, h.fy, e6, h.wy, ?_, h.mb.add hfx (by simp only [nsum]; omega) (by simp only [List.length_cons]; omega), h.mo.add hkf (by simp only [nsum]; omega) (by simp only [List.length_cons]; omega), by omega, ?_, ?_⟩
  · simp only [fromS, if_pos hx] at hb; omega
  · rw [← hg1, addRs_cons]; rfl
  · rw [← hg2, addRs_cons]; rfl
theorem TInv.stepY (h : TInv R1 R2 f xs ys r o lx tx ly ty) (hx : ¬ kindL lx = 2) (hk : kindL ly = 2) :
    ∃ q l, ly = q :: l ∧ TakeOk q l ty q.n ∧ ManyB r [keepP q.n] ∧ ManyB o [takeQ q ty q.n] ∧ ∃ f' ys', f' < f ∧ TInv R1 R2 f' xs ys' (addRs r [keepP q.n]) (addRs o [takeQ q ty q.n]) lx tx (takeL q l q.n) (takeT q l ty q.n) := by
  rw [h.wy.kind] at hk
  rw [h.wx.kind] at hx
  obtain ⟨y, ys', rfl, hy⟩ := kindL_cons hk (by omega)
  have hn := fitsB_n (h.fy y (.head _))
  obtain ⟨q, e1, e2, e3, e4, e5, e6⟩ := h.wy.take h.fy hn.1 (Int.le_refl _)
  rw [← e2] at e4 e6
  have e5' : takeQ q ty q.n = y := by rw [e2, e5, take_all (h.fy y (.head _))]
  have hr : restP y ys' q.n = ys' := by rw [e2]; exact rest_all _ _
  have hfu := h.fuel; have hb := h.bal; have hg1 := h.g1; have hg2 := h.g2
  have hnx := (fromS_pos h.fx).2.2.2
  have hny := (fromS_pos h.fy.tail).2.2.2
  simp only [List.length_cons] at hfu
  obtain ⟨f, rfl⟩ : ∃ m, f = m + 1 := ⟨f - 1, by omega⟩
  rw [hr] at e6
  have hkf := keep_fits hn.1 hn.2
  have hkn : (keepP y.n).n = y.n := rfl
  have hfy := h.fy y (.head _)
  refine ⟨q, ys', e1, e4, by rw [e2]; exact h.mb.many hkf (by simp only [nsum]; omega) (by simp only [List.length_cons]; omega), by rw [e5']; exact h.mo.many hfy (by simp only [nsum]; omega) (by simp only [List.length_cons]; omega), f, ys', by omega, ?_⟩
  rw [e5', e2]
  rw [e2] at e6
  rw [trGo_y hx hk] at hg1 hg2
  refine ⟨h.fx, h.fy.tail, h.wx, e6, ?_, h.mb.add hkf (by simp only [nsum]; omega) (by simp only [List.length_cons]; omega), h.mo.add hfy (by simp only [nsum]; omega) (by simp only [List.length_cons]; omega), by omega, ?_, ?_⟩
  · simp only [fromS, if_pos hy] at hb; omega
  · rw [← hg1, addRs_cons]; rfl
  · rw [← hg2, addRs_cons]; rfl
theorem TInv.stepB (h : TInv R1 R2 f xs ys r o lx tx ly ty) (h0 : kindL lx ≠ 0 ∨ kindL ly ≠ 0) (hx : ¬ kindL lx = 2) (hy : ¬ kindL ly = 2) :
    ∃ q l p l', lx = q :: l ∧ ly = p :: l' ∧ TakeOk q l tx (minI q.n p.n) ∧ TakeOk p l' ty (minI q.n p.n) ∧ ManyB r [takeQ q tx (minI q.n p.n)] ∧ ManyB o [takeQ p ty (minI q.n p.n)] ∧
      ∃ f' xs' ys', f' < f ∧ TInv R1 R2 f' xs' ys' (if p.kind = 1 then addRs r [takeQ q tx (minI q.n p.n)] else r) (if q.kind = 1 then addRs o [takeQ p ty (minI q.n p.n)] else o) (takeL q l (minI q.n p.n)) (takeT q l tx (minI q.n p.n)) (takeL p l' (minI q.n p.n)) (takeT p l' ty (minI q.n p.n)) := by
  rw [h.wx.kind, h.wy.kind] at h0
  rw [h.wx.kind] at hx
  rw [h.wy.kind] at hy
  have hb := h.bal; have hfu := h.fuel; have hg1 := h.g1; have hg2 := h.g2
  have hxs : xs ≠ [] := by
    rintro rfl
    cases ys with
    | nil => simp [kindL] at h0
    | cons y ys' =>
      have h1 := fitsB_n (h.fy y (.head _)); have h2 := fromS_pos h.fy.tail
      have hy' : ¬ y.kind = 2 := hy
      simp only [fromS, if_neg hy'] at hb; omega
  obtain ⟨x, xs', rfl⟩ := List.exists_cons_of_ne_nil hxs
  have hx' : ¬ x.kind = 2 := hx
  have hnx := fitsB_n (h.fx x (.head _)); have hnx2 := fromS_pos h.fx.tail
  have hys : ys ≠ [] := by
    rintro rfl
    simp only [fromS, if_neg hx'] at hb; omega
  obtain ⟨y, ys', rfl⟩ := List.exists_cons_of_ne_nil hys
  have hy' : ¬ y.kind = 2 := hy
  have hny := fitsB_n (h.fy y (.head _)); have hny2 := fromS_pos h.fy.tail
  obtain ⟨m1, m2, m3⟩ := minI_le x.n y.n
  obtain ⟨q, e1, e2, e3, e4, e5, e6⟩ := h.wx.take h.fx (n := minI x.n y.n) (by omega) m1
  obtain ⟨p, k1, k2, k3, k4, k5, k6⟩ := h.wy.take h.fy (n := minI x.n y.n) (by omega) m2
  simp only [List.length_cons] at hfu
  obtain ⟨f, rfl⟩ : ∃ m, f = m + 1 := ⟨f - 1, by omega⟩
  have rx := rest_nsum x xs' (minI x.n y.n); have ry := rest_nsum y ys' (minI x.n y.n)
  have lx' := rest_len x xs' (minI x.n y.n); have ly' := rest_len y ys' (minI x.n y.n)
  have hbx := (rest_from x xs' (minI x.n y.n)).1; have hby := (rest_from y ys' (minI x.n y.n)).1
  rw [if_neg hx'] at hbx; rw [if_neg hy'] at hby
  have hfx := rest_fits h.fx (n := minI x.n y.n) (by omega) m1
  have hfy := rest_fits h.fy (n := minI x.n y.n) (by omega) m2
  have hll : (restP x xs' (minI x.n y.n)).length + (restP y ys' (minI x.n y.n)).length + 1 ≤ xs'.length + 1 + (ys'.length + 1) := by
    rw [lx', ly']
    rcases m3 with m3 | m3
    · rw [if_pos (show x.n - minI x.n y.n = 0 by omega)]; split <;> omega
    · rw [if_pos (show y.n - minI x.n y.n = 0 by omega)]; split <;> omega
  have hbal : fromS (restP x xs' (minI x.n y.n)) = fromS (restP y ys' (minI x.n y.n)) := by omega
  rw [trGo_b (by rintro ⟨a1, a2⟩; omega) hx hy] at hg1 hg2
  have t1 := take_fits (h.fx x (.head _)) (n := minI x.n y.n) (by omega) m1
  have t2 := take_fits (h.fy y (.head _)) (n := minI x.n y.n) (by omega) m2
  have hm0 : 1 ≤ minI x.n y.n := by omega
  rw [← e2, ← k2] at e4 e5 e6 k4 k5 k6 hg1 hg2 t1 t2 hbal hll hfx hfy rx ry m1 m2 hm0
  have tn1 : (takeP x (minI q.n p.n)).n = minI q.n p.n := rfl
  have tn2 : (takeP y (minI q.n p.n)).n = minI q.n p.n := rfl
  simp only at hg1 hg2
  refine ⟨q, xs', p, ys', e1, k1, e4, k4, ?_, ?_, f, _, _, by omega, hfx, hfy, e6, k6, hbal, ?_, ?_, by omega, ?_, ?_⟩
  · rw [e5]; exact h.mb.many t1 (by simp only [nsum]; omega) (by simp only [List.length_cons]; omega)
  · rw [k5]; exact h.mo.many t2 (by simp only [nsum]; omega) (by simp only [List.length_cons]; omega)
  · split
    · rw [e5]; exact h.mb.add t1 (by omega) (by simp only [List.length_cons]; omega)
    · exact h.mb.less (by omega) (by simp only [List.length_cons]; omega)
  · split
    · rw [k5]; exact h.mo.add t2 (by omega) (by simp only [List.length_cons]; omega)
    · exact h.mo.less (by omega) (by simp only [List.length_cons]; omega)
  · rw [k3, e5]
    split
    · rename_i hk; rw [if_pos hk, addRs_append] at hg1; exact hg1
    · rename_i hk; rw [if_neg hk] at hg1; exact hg1
  · rw [e3, k5]
    split
    · rename_i hk; rw [if_pos hk, addRs_append] at hg2; exact hg2
    · rename_i hk; rw [if_neg hk] at hg2; exact hg2
theorem TInv.stop (h : TInv R1 R2 f xs ys r o lx tx ly ty) (h1 : kindL lx = 0) (h2 : kindL ly = 0) : r = R1 ∧ o = R2 := by
  have hg1 := h.g1; have hg2 := h.g2
  rw [h.wx.kind] at h1; rw [h.wy.kind] at h2
  cases f with
  | zero => exact ⟨hg1, hg2⟩
  | succ f => rw [trGo_stop ⟨h1, h2⟩] at hg1 hg2; exact ⟨hg1, hg2⟩
theorem TInv.texts (h : TInv R1 R2 f xs ys r o lx tx ly ty) : (∀ p ∈ r, p.text.size < 9223372036854775807) ∧ (∀ p ∈ o, p.text.size < 9223372036854775807) :=
  ⟨h.mb.texts (by have := (fromS_pos h.fx).2.2.2; have := (fromS_pos h.fy).2.2.2; omega), h.mo.texts (by have := (fromS_pos h.fx).2.2.2; have := (fromS_pos h.fy).2.2.2; omega)⟩
end
def trBad (a b : List Part) : Prop := (sizesF a).2.2 = false ∨ (sizesF b).2.2 = false ∨ (sizesF a).1 ≠ (sizesF b).1
instance (a b : List Part) : Decidable (trBad a b) := by unfold trBad; infer_instance
def trR1 (a b : List Part) : List Part := addRs [] (trGo (a.length + b.length) a b).1
def trR2 (a b : List Part) : List Part := addRs [] (trGo (a.length + b.length) a b).2
def trLong (a b : List Part) : Prop := (sizesF (trR1 a b).reverse).2.2 = false ∨ (sizesF (trR2 a b).reverse).2.2 = false
instance (a b : List Part) : Decidable (trLong a b) := by unfold trLong; infer_instance
def trE (a b : List Part) : Int := if trBad a b then 30 else if trLong a b then 4 else 0
def trF1 (a b : List Part) : List Part := if trE a b = 0 then (trR1 a b).reverse else []
def trF2 (a b : List Part) : List Part := if trE a b = 0 then (trR2 a b).reverse else []
theorem TInv.start {a b : List Part} (h : ¬ trBad a b) (hl : a.length ≤ 137438953472) (hl' : b.length ≤ 137438953472) : TInv (trR1 a b) (trR2 a b) (a.length + b.length) a b [] [] a (loadT a []) b (loadT b []) := by
  unfold trBad at h
  have ha : (sizesF a).2.2 = true := by cases hh : (sizesF a).2.2 <;> simp_all
  have hb : (sizesF b).2.2 = true := by cases hh : (sizesF b).2.2 <;> simp_all
  have h1 := sizesF_sum ha; have h2 := sizesF_sum hb
  have n1 := nsum_bound ha; have n2 := nsum_bound hb
  exact ⟨h1.2.2, h2.2.2, WS.start _ h1.2.2, WS.start _ h2.2.2, by rw [← h1.1, ← h2.1]; exact (by simpa [ha, hb] using h), MB.nil (by omega) (by omega), MB.nil (by omega) (by omega), Nat.le_refl _, rfl, rfl⟩
theorem tr_bad {a b : List Part} (h : trBad a b) : trE a b = 30 ∧ trF1 a b = [] ∧ trF2 a b = [] := by
  have h1 : trE a b = 30 := if_pos h
  exact ⟨h1, if_neg (by rw [h1]; decide), if_neg (by rw [h1]; decide)⟩
theorem tr_long {a b : List Part} (h : ¬ trBad a b) (h2 : trLong a b) : trE a b = 4 ∧ trF1 a b = [] ∧ trF2 a b = [] := by
  have h1 : trE a b = 4 := by rw [trE, if_neg h, if_pos h2]
  exact ⟨h1, if_neg (by rw [h1]; decide), if_neg (by rw [h1]; decide)⟩
theorem tr_ok {a b : List Part} (h : ¬ trBad a b) (h2 : ¬ trLong a b) : trE a b = 0 ∧ trF1 a b = (trR1 a b).reverse ∧ trF2 a b = (trR2 a b).reverse := by
  have h1 : trE a b = 0 := by rw [trE, if_neg h, if_neg h2]
  exact ⟨h1, if_pos h1, if_pos h1⟩
end Go.SK

set_option linter.unusedVariables false
set_option linter.unusedSimpArgs false
namespace Go.SK
open Go
theorem apply_bad {e : List Part} {s : ByteArray} (h : applyBad e s) : applyF e s = ⟨#[]⟩ ∧ applyE e s = 30 := ⟨if_pos h, if_pos h⟩
theorem apply_ok {e : List Part} {s : ByteArray} (h : ¬ applyBad e s) : applyF e s = enc (apGo e (dec s) []) ∧ applyE e s = 0 := ⟨if_neg h, if_neg h⟩
structure AInv (e : List Part) (k : Nat) (l out : List Int) (R0 : List Int) : Prop where
  kle : k ≤ e.length
  go : apGo (e.drop k) l out = R0
  from_ : fromS (e.drop k) = l.length
  to_ : (out.length : Int) + toS (e.drop k) ≤ 1099511627776
theorem ok_facts {e : List Part} {s : ByteArray} (h : ¬ applyBad e s) : valid s = true ∧ (sizesF e).2.2 = true ∧ fromS e = (dec s).length ∧ Fits e ∧ toS e ≤ 1099511627776 := by
  unfold applyBad at h
  have hv : valid s = true := by cases hh : valid s <;> simp_all
  have hc : checkF e (dec s).length = 0 := by simp [hv] at h; exact h
  exact ⟨hv, checkF_ok hc⟩
theorem AInv.start {e : List Part} {s : ByteArray} (h : ¬ applyBad e s) : AInv e 0 (dec s) [] (apGo e (dec s) []) := by
  obtain ⟨h1, h2, h3, h4, h5⟩ := ok_facts h
  exact ⟨Nat.zero_le _, rfl, h3, by simp; exact h5⟩
section
variable {e : List Part} {k : Nat} {l out R0 : List Int} {p : Part}
theorem AInv.stepK (h : AInv e k l out R0) (hf : Fits e) (hk : k < e.length) (hp : e.getD k default = p) (h1 : p.kind = 1) : p.n.toNat ≤ l.length ∧ 0 ≤ p.n ∧ AInv e (k + 1) (l.drop p.n.toNat) (out ++ l.take p.n.toNat) R0 := by
  have hd := drop_getD hk hp
  have h2 := h.go; have h3 := h.from_; have h4 := h.to_
  have hfd : Fits (e.drop k) := fun q hq => hf q (List.mem_of_mem_drop hq)
  rw [hd] at h2 h3 h4 hfd
  have h5 := fitsB_cases (hfd p (.head _)); have h6 := fromS_pos hfd.tail
  simp only [fromS, toS] at h3 h4
  rw [if_neg (by omega)] at h3 h4
  refine ⟨by omega, by omega, by omega, ?_, ?_, ?_⟩
  · rw [apGo, if_pos h1] at h2; exact h2
  · rw [List.length_drop]; omega
  · rw [List.length_append, List.length_take]; omega
theorem AInv.stepD (h : AInv e k l out R0) (hf : Fits e) (hk : k < e.length) (hp : e.getD k default = p) (h1 : ¬ p.kind = 1) (h3' : p.kind = 3) : p.n.toNat ≤ l.length ∧ 0 ≤ p.n ∧ AInv e (k + 1) (l.drop p.n.toNat) out R0 := by
  have hd := drop_getD hk hp
  have h2 := h.go; have h3 := h.from_; have h4 := h.to_
  have hfd : Fits (e.drop k) := fun q hq => hf q (List.mem_of_mem_drop hq)
  rw [hd] at h2 h3 h4 hfd
  have h5 := fitsB_cases (hfd p (.head _)); have h6 := fromS_pos hfd.tail
  simp only [fromS, toS] at h3 h4
  rw [if_neg (by omega)] at h3
  rw [if_pos h3'] at h4
  refine ⟨by omega, by omega, by omega, ?_, ?_, ?_⟩
  · rw [apGo, if_neg h1, if_pos h3'] at h2; exact h2
  · rw [List.length_drop]; omega
  · omega
theorem AInv.stepP (h : AInv e k l out R0) (hf : Fits e) (hk : k < e.length) (hp : e.getD k default = p) (h1 : ¬ p.kind = 1) (h3' : ¬ p.kind = 3) : (dec p.text).length ≤ 1099511627776 ∧ AInv e (k + 1) l (out ++ dec p.text) R0 := by
  have hd := drop_getD hk hp
  have h2 := h.go; have h3 := h.from_; have h4 := h.to_
  have hfd : Fits (e.drop k) := fun q hq => hf q (List.mem_of_mem_drop hq)
  rw [hd] at h2 h3 h4 hfd
  have h5 := fitsB_cases (hfd p (.head _)); have h6 := fromS_pos hfd.tail
  simp only [fromS, toS] at h3 h4
  have hk2 : p.kind = 2 := by omega
  have hl : ((dec p.text).length : Int) = p.n := by
    rcases h5.2.2 with ⟨x, _⟩ | ⟨x, _⟩ | ⟨_, _, x⟩
    · omega
    · omega
    · exact x
  rw [if_pos hk2] at h3
  rw [if_neg h3'] at h4
  refine ⟨by omega, by omega, ?_, by omega, ?_⟩
  · rw [apGo, if_neg h1, if_neg h3'] at h2; exact h2
  · rw [List.length_append]; omega
theorem AInv.stop (h : AInv e k l out R0) (hk : ¬ k < e.length) : out = R0 := by
  have h2 := h.go
  rw [List.drop_eq_nil_of_le (by omega)] at h2; exact h2
end
/-! ### Inverse -/
def invGo : List Part → List Int → List Part
  | [], _ => []
  | p :: r, l => if p.kind = 1 then p :: invGo r (l.drop p.n.toNat) else if p.kind = 3 then putP (enc (l.take p.n.toNat)) :: invGo r (l.drop p.n.toNat) else dropP p.n :: invGo r l
def invR (e : List Part) (s : ByteArray) : List Part := addRs [] (invGo e (dec s))
def invE (e : List Part) (s : ByteArray) : Int := if applyBad e s then 30 else if (sizesF (invR e s).reverse).2.2 = true then 0 else 4
def invF (e : List Part) (s : ByteArray) : List Part := if invE e s = 0 then (invR e s).reverse else []
structure IInv (e : List Part) (k : Nat) (l : List Int) (r R0 : List Part) : Prop where
  kle : k ≤ e.length
  go : addRs r (invGo (e.drop k) l) = R0
  from_ : fromS (e.drop k) = l.length
  sc : ∀ x ∈ l, scalar x
  mb : MB r (nsum (e.drop k)) ((e.drop k).length)
theorem IInv.start {e : List Part} {s : ByteArray} (h : ¬ applyBad e s) (hl : e.length ≤ 137438953472) : IInv e 0 (dec s) [] (invR e s) := by
  obtain ⟨h1, h2, h3, h4, h5⟩ := ok_facts h
  have := nsum_bound h2
  exact ⟨Nat.zero_le _, rfl, h3, dec_scalar h1, MB.nil (by rw [List.drop_zero]; omega) (by rw [List.drop_zero]; omega)⟩
theorem drop_fits {n : Int} (h1 : 1 ≤ n) (h2 : n ≤ 1099511627776) : fitsB (dropP n) = true := fitsB_mk h1 h2 (.inr (.inl ⟨rfl, rfl⟩))
theorem put_fits {t : List Int} (h : ∀ x ∈ t, scalar x) (h1 : 1 ≤ t.length) (h2 : t.length ≤ 1099511627776) : fitsB (putP (enc t)) = true ∧ (putP (enc t)).n = t.length := by
  have hn : (putP (enc t)).n = t.length := by simp only [putP, rcount_dec, dec_enc h]
  exact ⟨fitsB_mk (by omega) (by omega) (.inr (.inr ⟨rfl, valid_enc h, by rw [hn]; simp only [putP, dec_enc h]⟩)), hn⟩
section
variable {e : List Part} {k : Nat} {l : List Int} {r R0 : List Part} {p : Part}
theorem IInv.stepK (h : IInv e k l r R0) (hf : Fits e) (hk : k < e.length) (hp : e.getD k default = p) (h1 : p.kind = 1) : p.n.toNat ≤ l.length ∧ 0 ≤ p.n ∧ ManyB r [p] ∧ IInv e (k + 1) (l.drop p.n.toNat) (addRs r [p]) R0 := by
  have hd := drop_getD hk hp
  have h2 := h.go; have h3 := h.from_; have h4 := h.mb
  have hfd : Fits (e.drop k) := fun q hq => hf q (List.mem_of_mem_drop hq)
  rw [hd] at h2 h3 h4 hfd
  have h5 := fitsB_cases (hfd p (.head _)); have h6 := fromS_pos hfd.tail
  simp only [fromS] at h3
  rw [if_neg (by omega)] at h3
  simp only [nsum, List.length_cons] at h4
  refine ⟨by omega, by omega, h4.many (hfd p (.head _)) (by omega) (by omega), by omega, ?_, ?_, fun x hx => h.sc x (List.mem_of_mem_drop hx), h4.add (hfd p (.head _)) (by omega) (by omega)⟩
  · rw [invGo, if_pos h1] at h2; exact h2
  · rw [List.length_drop]; omega
theorem IInv.stepD (h : IInv e k l r R0) (hf : Fits e) (hk : k < e.length) (hp : e.getD k default = p) (h1 : ¬ p.kind = 1) (h3' : p.kind = 3) : p.n.toNat ≤ l.length ∧ 0 ≤ p.n ∧ p.n ≤ 1099511627776 ∧ ManyB r [putP (enc (l.take p.n.toNat))] ∧ IInv e (k + 1) (l.drop p.n.toNat) (addRs r [putP (enc (l.take p.n.toNat))]) R0 := by
  have hd := drop_getD hk hp
  have h2 := h.go; have h3 := h.from_; have h4 := h.mb
  have hfd : Fits (e.drop k) := fun q hq => hf q (List.mem_of_mem_drop hq)
  rw [hd] at h2 h3 h4 hfd
  have h5 := fitsB_cases (hfd p (.head _)); have h6 := fromS_pos hfd.tail
  simp only [fromS] at h3
  rw [if_neg (by omega)] at h3
  simp only [nsum, List.length_cons] at h4
  have hpf := put_fits (t := l.take p.n.toNat) (fun x hx => h.sc x (List.mem_of_mem_take hx)) (by rw [List.length_take]; omega) (by rw [List.length_take]; omega)
  have hpn : (putP (enc (l.take p.n.toNat))).n = p.n := by rw [hpf.2, List.length_take]; omega
  refine ⟨by omega, by omega, by omega, h4.many hpf.1 (by omega) (by omega), by omega, ?_, ?_, fun x hx => h.sc x (List.mem_of_mem_drop hx), h4.add hpf.1 (by omega) (by omega)⟩
  · rw [invGo, if_neg h1, if_pos h3'] at h2; exact h2
  · rw [List.length_drop]; omega
theorem IInv.stepP (h : IInv e k l r R0) (hf : Fits e) (hk : k < e.length) (hp : e.getD k default = p) (h1 : ¬ p.kind = 1) (h3' : ¬ p.kind = 3) : ManyB r [dropP p.n] ∧ IInv e (k + 1) l (addRs r [dropP p.n]) R0 := by
  have hd := drop_getD hk hp
  have h2 := h.go; have h3 := h.from_; have h4 := h.mb
  have hfd : Fits (e.drop k) := fun q hq => hf q (List.mem_of_mem_drop hq)
  rw [hd] at h2 h3 h4 hfd
  have h5 := fitsB_cases (hfd p (.head _)); have h6 := fromS_pos hfd.tail
  have hk2 : p.kind = 2 := by omega
  simp only [fromS] at h3
  rw [if_pos hk2] at h3
  simp only [nsum, List.length_cons] at h4
  have hdf := drop_fits h5.1 h5.2.1
  have hdn : (dropP p.n).n = p.n := rfl
  refine ⟨h4.many hdf (by omega) (by omega), by omega, ?_, by omega, h.sc, h4.add hdf (by omega) (by omega)⟩
  rw [invGo, if_neg h1, if_neg h3'] at h2; exact h2
theorem IInv.stop (h : IInv e k l r R0) (hk : ¬ k < e.length) : r = R0 := by
  have h2 := h.go
  rw [List.drop_eq_nil_of_le (by omega)] at h2; exact h2
theorem IInv.texts (h : IInv e k l r R0) (hf : Fits e) : ∀ p ∈ r, p.text.size < 9223372036854775807 := h.mb.texts (fromS_pos (fun q hq => hf q (List.mem_of_mem_drop hq))).2.2.2
end
theorem inv_bad {e : List Part} {s : ByteArray} (h : applyBad e s) : invE e s = 30 ∧ invF e s = [] := by
  have h1 : invE e s = 30 := if_pos h
  exact ⟨h1, if_neg (by rw [h1]; decide)⟩
theorem inv_long {e : List Part} {s : ByteArray} (h : ¬ applyBad e s) (h2 : ¬ (sizesF (invR e s).reverse).2.2 = true) : invE e s = 4 ∧ invF e s = [] := by
  have h1 : invE e s = 4 := by rw [invE, if_neg h, if_neg h2]
  exact ⟨h1, if_neg (by rw [h1]; decide)⟩
theorem inv_ok {e : List Part} {s : ByteArray} (h : ¬ applyBad e s) (h2 : (sizesF (invR e s).reverse).2.2 = true) : invE e s = 0 ∧ invF e s = (invR e s).reverse := by
  have h1 : invE e s = 0 := by rw [invE, if_neg h, if_pos h2]
  exact ⟨h1, if_pos h1⟩
/-! ### One form -/
theorem fits_nsum : ∀ {e : List Part}, Fits e → 0 ≤ nsum e ∧ nsum e ≤ e.length * 1099511627776 ∧ (tsum e : Int) ≤ 4 * nsum e
  | [], _ => by simp [nsum, tsum]
  | p :: r, h => by
    have h1 := fitsB_n (h p (.head _)); have h2 := fits_size (h p (.head _)); have h3 := fits_nsum h.tail
    simp only [nsum, tsum, List.length_cons]
    omega
theorem norm_many {l : List Part} {p : Part} (hf : Fits l) (hl : l.length ≤ 524288) (hp : fitsB p = true) : ManyB (addRs [] l) [p] := by
  obtain ⟨a1, a2, a3, a4⟩ := addRs_facts l [] (by simp) (fun q hq => by have := fitsB_n (hf q hq); omega)
  have h1 := fits_nsum hf; have h2 := fitsB_n hp; have h3 := fits_size hp
  simp only [nsum, tsum, List.length_nil] at a2 a3 a4
  refine ⟨a1, fun q hq => by rw [List.mem_singleton] at hq; subst hq; omega, ?_, ?_, by simp only [List.length_singleton]; omega⟩
  · simp only [nsum]; omega
  · simp only [tsum]; omega
theorem filter_fits (l : List Part) : Fits (l.filter fitsB) := fun p hp => (List.mem_filter.1 hp).2
theorem filter_take {l : List Part} {k : Nat} {p : Part} (hk : k < l.length) (hp : l.getD k default = p) : (l.take (k + 1)).filter fitsB = (l.take k).filter fitsB ++ (if fitsB p = true then [p] else []) := by
  rw [take_getD hk hp, List.filter_append]
  congr 1
  rw [List.filter_cons, List.filter_nil]
/-! ### Cursors and weights -/
def curGo : List Part → Int → Bool → Int → Int
  | [], _, _, to => to
  | p :: r, at', ah, to => if p.kind = 2 ∧ (0 < at' ∨ ah = true) then curGo r at' ah (to + p.n) else if at' = 0 then to else
      if minI p.n at' < p.n then (if p.kind = 1 then to + minI p.n at' else to) else curGo r (at' - minI p.n at') ah (if p.kind = 1 then to + minI p.n at' else to)
def curBad (e : List Part) (at' : Int) : Prop := (sizesF e).2.2 = false ∨ at' < 0 ∨ (sizesF e).1 < at'
instance (e : List Part) (i : Int) : Decidable (curBad e i) := by unfold curBad; infer_instance
def curF (e : List Part) (at' : Int) (ah : Bool) : Int := if curBad e at' then 0 else curGo e at' ah 0
def curE (e : List Part) (at' : Int) : Int := if curBad e at' then 30 else 0
structure UInv (e : List Part) (k : Nat) (i : Int) (ah : Bool) (to R0 : Int) : Prop where
  kle : k ≤ e.length
  go : curGo (e.drop k) i ah to = R0
  i0 : 0 ≤ i
  i1 : i ≤ 1099511627776
  t0 : 0 ≤ to
  t1 : to + toS (e.drop k) ≤ 1099511627776
theorem UInv.start {e : List Part} {i : Int} {ah : Bool} (h : ¬ curBad e i) : UInv e 0 i ah 0 (curGo e i ah 0) ∧ Fits e := by
  unfold curBad at h
  have h1 : (sizesF e).2.2 = true := by cases hh : (sizesF e).2.2 <;> simp_all
  have h2 := sizesF_sum h1; have h3 := sizesF_bound e
  exact ⟨⟨Nat.zero_le _, rfl, by omega, by omega, by omega, by rw [List.drop_zero]; omega⟩, h2.2.2⟩
section
variable {e : List Part} {k : Nat} {i : Int} {ah : Bool} {to R0 : Int} {p : Part}
theorem UInv.pos (h : UInv e k i ah to R0) (hf : Fits e) (hk : k < e.length) (hp : e.getD k default = p) : 1 ≤ p.n ∧ p.n ≤ 1099511627776 ∧ to ≤ 1099511627776 := by
  have hd := drop_getD hk hp
  have hfd : Fits (e.drop k) := fun q hq => hf q (List.mem_of_mem_drop hq)
  have h4 := h.t1; have h6 := fromS_pos hfd
  rw [hd] at hfd
  have := fitsB_n (hfd p (.head _))
  omega
theorem UInv.stepP (h : UInv e k i ah to R0) (hf : Fits e) (hk : k < e.length) (hp : e.getD k default = p) (h1 : p.kind = 2) (h2 : 0 < i ∨ ah = true) : UInv e (k + 1) i ah (to + p.n) R0 := by
  have hd := drop_getD hk hp
  have h0 := h.pos hf hk hp
  have h3 := h.go; have h4 := h.t1
  rw [hd] at h3 h4
  simp only [toS] at h4
  rw [if_neg (by omega)] at h4
  rw [curGo, if_pos ⟨h1, h2⟩] at h3
  have := h.t0
  exact ⟨by omega, h3, h.i0, h.i1, by omega, by omega⟩
theorem UInv.ret0 (h : UInv e k i ah to R0) (hk : k < e.length) (hp : e.getD k default = p) (h1 : ¬ (p.kind = 2 ∧ (0 < i ∨ ah = true))) (h2 : i = 0) : to = R0 := by
  have h3 := h.go
  rw [drop_getD hk hp, curGo, if_neg h1, if_pos h2] at h3
  exact h3
theorem UInv.ret1 (h : UInv e k i ah to R0) (hk : k < e.length) (hp : e.getD k default = p) (h1 : ¬ (p.kind = 2 ∧ (0 < i ∨ ah = true))) (h2 : ¬ i = 0) (h4 : minI p.n i < p.n) : (if p.kind = 1 then to + minI p.n i else to) = R0 := by
  have h3 := h.go
  rw [drop_getD hk hp, curGo, if_neg h1, if_neg h2, if_pos h4] at h3
  exact h3
theorem UInv.stepB (h : UInv e k i ah to R0) (hf : Fits e) (hk : k < e.length) (hp : e.getD k default = p) (h1 : ¬ (p.kind = 2 ∧ (0 < i ∨ ah = true))) (h2 : ¬ i = 0) (h4 : ¬ minI p.n i < p.n) : UInv e (k + 1) (i - minI p.n i) ah (if p.kind = 1 then to + minI p.n i else to) R0 := by
  have hd := drop_getD hk hp
  have h0 := h.pos hf hk hp
  have h3 := h.go; have h5 := h.t1; have h6 := h.t0; have h7 := h.i0; have h8 := h.i1
  rw [hd] at h3 h5
  simp only [toS] at h5
  rw [curGo, if_neg h1, if_neg h2, if_neg h4] at h3
  have hm := minI_le p.n i
  refine ⟨by omega, h3, by omega, by omega, ?_, ?_⟩
  · split <;> omega
  · split
    · rw [if_neg (by omega)] at h5; omega
    · split at h5 <;> omega
theorem UInv.stop (h : UInv e k i ah to R0) (hk : ¬ k < e.length) : to = R0 := by
  have h2 := h.go
  rw [List.drop_eq_nil_of_le (by omega)] at h2; exact h2
end
theorem cur_bad {e : List Part} {i : Int} {ah : Bool} (h : curBad e i) : curF e i ah = 0 ∧ curE e i = 30 := ⟨if_pos h, if_pos h⟩
theorem cur_ok {e : List Part} {i : Int} {ah : Bool} (h : ¬ curBad e i) : curF e i ah = curGo e i ah 0 ∧ curE e i = 0 := ⟨if_neg h, if_neg h⟩
end Go.SK

set_option linter.unusedVariables false
set_option linter.unusedSimpArgs false
set_option maxRecDepth 100000
namespace Go.SK
open Go Go.Lib Go.RowKit
def kOf (c : Nat) : Nat := if c < 128 then 1 else if 194 ≤ c ∧ c ≤ 223 then 2 else if 224 ≤ c ∧ c ≤ 239 then 3 else if 240 ≤ c ∧ c ≤ 244 then 4 else 0
def loOf (c : Nat) : Nat := if c = 224 then 160 else if c = 240 then 144 else 128
def hiOf (c : Nat) : Nat := if c = 237 then 159 else if c = 244 then 143 else 191
def by' (l : List UInt8) (j : Nat) : Nat := (l.getD j 0).toNat
def okAt (l : List UInt8) (j : Nat) : Prop := (if j = 1 then loOf (by' l 0) else 128) ≤ by' l j ∧ by' l j ≤ (if j = 1 then hiOf (by' l 0) else 191)
def stepOk (l : List UInt8) : Prop := kOf (by' l 0) ≠ 0 ∧ kOf (by' l 0) ≤ l.length ∧ ∀ j, 1 ≤ j → j < kOf (by' l 0) → okAt l j
def badL (l : List UInt8) : Prop := (decodeL l).1 = 65533 ∧ (decodeL l).2 = 1
theorem cls : ∀ c : Fin 256, (kOf c.val = 1 ∧ firstT c.val = 240) ∨ (kOf c.val = 0 ∧ firstT c.val = 241) ∨ (2 ≤ kOf c.val ∧ kOf c.val ≤ 4 ∧ firstT c.val < 240 ∧ firstT c.val % 8 = kOf c.val ∧ accLo (firstT c.val / 16) = loOf c.val ∧ accHi (firstT c.val / 16) = hiOf c.val) := by decide
theorem by'_lt (l : List UInt8) (j : Nat) : by' l j < 256 := UInt8.toNat_lt _
theorem table {l : List UInt8} (h : l ≠ []) : (stepOk l → ¬ badL l ∧ (decodeL l).2 = kOf (by' l 0)) ∧ (¬ stepOk l → badL l) := by
  obtain ⟨b, t, rfl⟩ := List.exists_cons_of_ne_nil h
  generalize hl : b :: t = l
  have hlen : 1 ≤ l.length := by rw [← hl]; simp
  have h0 := by'_lt l 0; have h1 := by'_lt l 1; have h2 := by'_lt l 2; have h3 := by'_lt l 3
  have hd : decodeL l = decodeN l.length (by' l 0) (by' l 1) (by' l 2) (by' l 3) := decodeL_N l
  have hc := cls ⟨by' l 0, h0⟩
  simp only at hc
  unfold badL stepOk
  rw [hd]
  rcases hc with ⟨k1, k2⟩ | ⟨k1, k2⟩ | ⟨k1, k2, k3, k4, k5, k6⟩
  · rw [ascii_eq _ _ _ _ _ k2]
    refine ⟨fun _ => ⟨fun hh => by have := hh.1; simp only at this; omega, by simp only [k1]⟩, fun hn => absurd ⟨by omega, by omega, fun j a b => by omega⟩ hn⟩
  · rw [bad_eq _ _ _ _ _ h0 k2]
    exact ⟨fun hh => absurd k1 hh.1, fun _ => ⟨rfl, rfl⟩⟩
  · have hs := slow_eq l.length (by' l 0) (by' l 1) (by' l 2) (by' l 3) hlen h1 h2 h3 k3
    rw [k4, k5, k6] at hs
    rw [← hs]
    have o1 : okAt l 1 ↔ loOf (by' l 0) ≤ by' l 1 ∧ by' l 1 ≤ hiOf (by' l 0) := by simp [okAt]
    have o2 : okAt l 2 ↔ 128 ≤ by' l 2 ∧ by' l 2 ≤ 191 := by simp [okAt]
    have o3 : okAt l 3 ↔ 128 ≤ by' l 3 ∧ by' l 3 ≤ 191 := by simp [okAt]
    constructor
    · rintro ⟨_, c2, c3⟩
      have e1 := o1.1 (c3 1 (by omega) (by omega))
      unfold slowN
      rw [if_neg (by omega), if_neg (by omega)]
      by_cases q2 : kOf (by' l 0) ≤ 2
      · rw [if_pos q2]; simp only; omega
      · have e2 := o2.1 (c3 2 (by omega) (by omega))
        rw [if_neg q2, if_neg (by omega)]
        by_cases q3 : kOf (by' l 0) ≤ 3
        · rw [if_pos q3]; simp only; omega
        · have e3 := o3.1 (c3 3 (by omega) (by omega))
          rw [if_neg q3, if_neg (by omega)]; simp only; omega
    · intro hn
      unfold slowN
      by_cases c2 : l.length < kOf (by' l 0)
      · rw [if_pos c2]; exact ⟨rfl, rfl⟩
      · rw [if_neg c2]
        by_cases e1 : by' l 1 < loOf (by' l 0) ∨ hiOf (by' l 0) < by' l 1
        · rw [if_pos e1]; exact ⟨rfl, rfl⟩
        · rw [if_neg e1]
          have f1 := o1.2 (by omega)
          by_cases q2 : kOf (by' l 0) ≤ 2
          · exact absurd ⟨by omega, by omega, fun j a b => by obtain rfl : j = 1 := by omega
                                                              exact f1⟩ hn
          · rw [if_neg q2]
            by_cases e2 : by' l 2 < 128 ∨ 191 < by' l 2
            · rw [if_pos e2]; exact ⟨rfl, rfl⟩
            · rw [if_neg e2]
              have f2 := o2.2 (by omega)
              by_cases q3 : kOf (by' l 0) ≤ 3
              · refine absurd ⟨by omega, by omega, fun j a b => ?_⟩ hn
                rcases (show j = 1 ∨ j = 2 by omega) with rfl | rfl
                · exact f1
                · exact f2
              · rw [if_neg q3]
                by_cases e3 : by' l 3 < 128 ∨ 191 < by' l 3
                · rw [if_pos e3]; exact ⟨rfl, rfl⟩
                · have f3 := o3.2 (by omega)
                  refine absurd ⟨by omega, by omega, fun j a b => ?_⟩ hn
                  rcases (show j = 1 ∨ j = 2 ∨ j = 3 by omega) with rfl | rfl | rfl
                  · exact f1
                  · exact f2
                  · exact f3
def runesF (l : List UInt8) : Int := if validD l = true then ((decsL l).length : Int) else -1
structure RInv (l0 l : List UInt8) (n : Int) : Prop where
  v : validD l = validD l0
  c : n + (decsL l).length = (decsL l0).length
  n0 : 0 ≤ n
  b : n + l.length ≤ l0.length
theorem RInv.start (l : List UInt8) : RInv l l 0 := ⟨rfl, by omega, by omega, by omega⟩
theorem RInv.bad {l0 l : List UInt8} {n : Int} (h : RInv l0 l n) (hne : l ≠ []) (hb : ¬ stepOk l) : runesF l0 = -1 := by
  have this : (decodeL l).1 = 65533 ∧ (decodeL l).2 = 1 := (table hne).2 hb
  have hv := h.v
  rw [validD_step hne, if_pos this] at hv
  rw [runesF, ← hv]; rfl
theorem RInv.step {l0 l : List UInt8} {n : Int} (h : RInv l0 l n) (hne : l ≠ []) (hb : stepOk l) : RInv l0 (l.drop (kOf (by' l 0))) (n + 1) := by
  have this := (table hne).1 hb
  have hnb : ¬ ((decodeL l).1 = 65533 ∧ (decodeL l).2 = 1) := this.1
  have hv := h.v; have hc := h.c; have h0 := h.n0; have hbb := h.b
  rw [validD_step hne, if_neg hnb, this.2] at hv
  rw [decsL_step hne, this.2, List.length_cons] at hc
  have := hb.1; have := hb.2.1
  exact ⟨hv, by omega, by omega, by rw [List.length_drop]; omega⟩
theorem RInv.stop {l0 : List UInt8} {n : Int} (h : RInv l0 [] n) : n = runesF l0 := by
  have hv := h.v; have hc := h.c
  have e1 : validD [] = true := rfl
  have e2 : (decsL []).length = 0 := rfl
  rw [e1] at hv; rw [e2] at hc
  rw [runesF, if_pos hv.symm]; omega
theorem runesF_str (s : ByteArray) : runesF s.data.toList = if valid s = true then ((dec s).length : Int) else -1 := rfl
section
variable {S : Nat → Prop} {w0 : World} {L : List Res}
theorem rd_dropF {α : Type} {f : α → Value} {v : Value} {ns : List α} {w : World} (h : Hp S w0 w (.rd v 1 ns.length (ns.map f) :: L)) (k : Nat) (hk : k ≤ ns.length) : Hp S w0 w (.rd (Value.cut v k ns.length 1) 1 (ns.drop k).length ((ns.drop k).map f) :: L) := by
  have := rd_cut h k ns.length hk (Nat.le_refl _)
  rw [List.length_drop]
  simp only [Nat.mul_one] at this
  rw [List.take_of_length_le (by rw [List.length_drop, List.length_map]; omega), ← List.map_drop] at this
  exact this
abbrev u8v (b : UInt8) : Value := .int .u8 b.toNat
theorem lkU8 {l : List UInt8} {i k : Nat} (h : i < l.length) (hk : k = i) : (l.map u8v)[k]? = some (.int .u8 ((by' l i : Nat) : Int)) := by
  subst hk
  simp [by', List.getElem?_eq_getElem h, List.getD_eq_getElem?_getD]
end
end Go.SK

set_option linter.unusedVariables false
set_option linter.unusedSimpArgs false
set_option maxRecDepth 100000
namespace Go.SK
open Go
/-- A part behind a list (the last one first), as one with the last, if that is of its kind. -/
def oneR (r : List Part) (p : Part) : List Part := match r with
  | [] => [p]
  | q :: r' => if q.kind = p.kind then q.more p :: r' else p :: q :: r'
theorem oneR_nil (p : Part) : oneR [] p = [p] := rfl
theorem oneR_same {q : Part} {r : List Part} {p : Part} (h : q.kind = p.kind) : oneR (q :: r) p = q.more p :: r := if_pos h
theorem oneR_push {q : Part} {r : List Part} {p : Part} (h : ¬ q.kind = p.kind) : oneR (q :: r) p = p :: q :: r := if_neg h
theorem oneR_facts (r : List Part) (p : Part) (h : ∀ q ∈ r, 0 ≤ q.n) (h0 : 0 ≤ p.n) : (∀ q ∈ oneR r p, 0 ≤ q.n) ∧ nsum (oneR r p) = nsum r + p.n ∧ tsum (oneR r p) = tsum r + p.text.size ∧ (oneR r p).length ≤ r.length + 1 := by
  cases r with
  | nil => simp [oneR, nsum, tsum, h0]
  | cons q r =>
    unfold oneR
    simp only
    have hq := h q (.head _)
    split
    · refine ⟨fun x hx => ?_, by simp only [nsum, Part.more]; omega, by simp only [tsum, Part.more, ByteArray.size_append]; omega, by simp⟩
      rcases List.mem_cons.1 hx with rfl | hx
      · simp only [Part.more]; omega
      · exact h x (.tail _ hx)
    · refine ⟨fun x hx => ?_, by simp only [nsum]; omega, by simp only [tsum]; omega, by simp⟩
      rcases List.mem_cons.1 hx with rfl | hx
      · exact h0
      · exact h x hx
/-- The list of parts as the document puts it into one form. -/
def normStep (r : List Part) (p : Part) : List Part := if fitsB p = true then (match r with
    | d :: r' => if p.kind = 2 ∧ d.kind = 3 then oneR (oneR r' p) d else oneR r p
    | [] => oneR r p) else r
def normRef (l : List Part) : List Part := (l.foldl normStep []).reverse
/-- No two neighbours are of one kind. -/
def Alt : List Part → Prop
  | [] => True
  | [_] => True
  | p :: q :: r => p.kind ≠ q.kind ∧ Alt (q :: r)
theorem Alt.tail {p : Part} {r : List Part} (h : Alt (p :: r)) : Alt r := by
  cases r with
  | nil => trivial
  | cons q r => exact h.2
theorem Alt.cons {p : Part} {r : List Part} (h : Alt r) (hp : ∀ q, r.head? = some q → p.kind ≠ q.kind) : Alt (p :: r) := by
  cases r with
  | nil => trivial
  | cons q r => exact ⟨hp q rfl, h⟩
theorem Alt.head {p q : Part} {r : List Part} (h : Alt (p :: r)) (hk : q.kind = p.kind) : Alt (q :: r) := by
  cases r with
  | nil => trivial
  | cons s r => exact ⟨by rw [hk]; exact h.1, h.2⟩
theorem oneR_alt {r : List Part} {p : Part} (h : Alt r) : Alt (oneR r p) ∧ (∀ q, (oneR r p).head? = some q → q.kind = p.kind) := by
  cases r with
  | nil => exact ⟨trivial, fun q hq => by simp [oneR] at hq; rw [hq]⟩
  | cons q r =>
    by_cases hk : q.kind = p.kind
    · rw [oneR_same hk]
      exact ⟨h.head rfl, fun s hs => by simp at hs; rw [← hs]; exact hk⟩
    · rw [oneR_push hk]
      exact ⟨⟨fun e => hk e.symm, h⟩, fun s hs => by simp at hs; rw [hs]⟩
theorem addR_oneR {r : List Part} {p : Part} (hn : ¬ p.n = 0) (h : Alt r) : addR r p = match r with
    | d :: r' => if p.kind = 2 ∧ d.kind = 3 then oneR (oneR r' p) d else oneR r p
    | [] => oneR r p := by
  cases r with
  | nil => rw [addR_nil hn]; rfl
  | cons q r =>
    simp only
    by_cases hk : q.kind = p.kind
    · rw [addR_more hn hk, if_neg (by omega), oneR_same hk]
    · by_cases hc : p.kind ≠ 2 ∨ q.kind ≠ 3
      · rw [addR_push hn hk hc, if_neg (by omega), oneR_push hk]
      · rw [addR_deep hn hk hc, if_pos (by omega)]
        have h1 : addR r p = oneR r p := by
          cases r with
          | nil => rw [addR_nil hn]; rfl
          | cons s r =>
            have hs := h.1
            by_cases hk2 : s.kind = p.kind
            · rw [addR_more hn hk2, oneR_same hk2]
            · rw [addR_push hn hk2 (by omega), oneR_push hk2]
        have h2 := (oneR_alt (p := p) h.tail).2
        rw [h1]
        cases ho : oneR r p with
        | nil => rfl
        | cons s t =>
          have := h2 s (by rw [ho]; rfl)
          rw [oneR_push (by omega)]
theorem normStep_alt {r : List Part} {p : Part} (h : Alt r) : Alt (normStep r p) := by
  unfold normStep
  split
  · split
    · split
      · exact (oneR_alt (oneR_alt h.tail).1).1
      · exact (oneR_alt h).1
    · exact (oneR_alt h).1
  · exact h
theorem normStep_fit {r : List Part} {p : Part} (h : fitsB p = true) : normStep r p = match r with
    | d :: r' => if p.kind = 2 ∧ d.kind = 3 then oneR (oneR r' p) d else oneR r p
    | [] => oneR r p := by unfold normStep; rw [if_pos h]
theorem normStep_no {r : List Part} {p : Part} (h : ¬ fitsB p = true) : normStep r p = r := by unfold normStep; rw [if_neg h]
theorem norm_same (l : List Part) : normF l = normRef l := by
  unfold normF normRef
  congr 1
  have key : ∀ (l r : List Part), Alt r → addRs r (l.filter fitsB) = l.foldl normStep r := by
    intro l
    induction l with
    | nil => intro r _; rfl
    | cons p l ih =>
      intro r hr
      rw [List.foldl_cons, ← ih _ (normStep_alt hr), List.filter_cons]
      by_cases hf : fitsB p = true
      · rw [if_pos hf, addRs_cons]
        congr 1
        rw [addR_oneR (by have := fitsB_n hf; omega) hr, normStep_fit hf]
        cases r <;> rfl
      · rw [if_neg hf, normStep_no hf]
  exact key l [] trivial
/-- What the document answers to Replace. -/
def replRef (n a k : Int) (s : ByteArray) : List Part := if replBad n a k s then [] else (([⟨1, a, ⟨#[]⟩⟩, ⟨2, (rcount s : Int), s⟩, ⟨3, k, ⟨#[]⟩⟩, ⟨1, n - a - k, ⟨#[]⟩⟩] : List Part).foldl (fun r p => if 0 < p.n then oneR r p else r) []).reverse
theorem repl_same (n a k : Int) (s : ByteArray) : replF n a k s = replRef n a k s := by
  unfold replF replRef
  split
  · rfl
  · rename_i h
    unfold replBad at h
    congr 1
    show addR (addR (addR (addR [] (keepP a)) (putP s)) (dropP k)) (keepP (n - a - k)) = _
    have e1 : (keepP a) = ⟨1, a, ⟨#[]⟩⟩ := rfl
    simp only [List.foldl_cons, List.foldl_nil, keepP, putP, dropP]
    have z : ∀ (r : List Part) (p : Part), 0 ≤ p.n → (∀ q, r.head? = some q → ¬ (p.kind = 2 ∧ q.kind = 3)) → addR r p = if 0 < p.n then oneR r p else r := by
      intro r p hp hq
      by_cases h0 : p.n = 0
      · rw [addR_zero h0, if_neg (by omega)]
      · rw [if_pos (by omega)]
        cases r with
        | nil => rw [addR_nil h0]; rfl
        | cons q r =>
          have := hq q rfl
          by_cases hk : q.kind = p.kind
          · rw [addR_more h0 hk, oneR_same hk]
          · rw [addR_push h0 hk (by omega), oneR_push hk]
    rw [z [] ⟨1, a, ⟨#[]⟩⟩ (by show 0 ≤ a; omega) (by simp), z _ ⟨2, (rcount s : Int), s⟩ (by show (0 : Int) ≤ (rcount s : Int); omega), z _ ⟨3, k, ⟨#[]⟩⟩ (by show 0 ≤ k; omega), z _ ⟨1, n - a - k, ⟨#[]⟩⟩ (by show 0 ≤ n - a - k; omega)]
    · intro q _ hh; simp at hh
    · intro q _ hh; simp at hh
    · intro q hq
      split at hq
      · simp [oneR] at hq; rw [← hq]; simp
      · simp at hq
theorem okAt_of {l : List UInt8} {i : Nat} (h1 : ¬ ((by' l i : Nat) : Int) < ((if i = 1 then loOf (by' l 0) else 128 : Nat) : Int)) (h2 : ¬ ((if i = 1 then hiOf (by' l 0) else 191 : Nat) : Int) < ((by' l i : Nat) : Int)) : okAt l i := ⟨by omega, by omega⟩
theorem okBad1 {l : List UInt8} {i : Nat} (h1 : ((by' l i : Nat) : Int) < ((if i = 1 then loOf (by' l 0) else 128 : Nat) : Int)) (h : okAt l i) : False := by have := h.1; omega
theorem okBad2 {l : List UInt8} {i : Nat} (h2 : ((if i = 1 then hiOf (by' l 0) else 191 : Nat) : Int) < ((by' l i : Nat) : Int)) (h : okAt l i) : False := by have := h.2; omega
theorem okAt_succ {l : List UInt8} {i : Nat} (h : ∀ j, 1 ≤ j → j < i → okAt l j) (hi : okAt l i) : ∀ j, 1 ≤ j → j < i + 1 → okAt l j := fun j a b => by
  rcases Nat.lt_or_ge j i with hj | hj
  · exact h j a hj
  · obtain rfl : j = i := by omega
    exact hi
theorem fitsB_two {p : Part} (h1 : ¬ p.n < 1) (h2 : ¬ 1099511627776 < p.n) (hk : p.kind = 2) : decide (runesF p.text.data.toList = p.n) = fitsB p := by
  unfold fitsB
  rw [if_neg h1, if_neg h2, if_neg (by omega), if_neg (by omega), if_pos hk, runesF_str, rcount_dec]
  cases hv : valid p.text
  · have : ¬ ((if (false : Bool) = true then ((dec p.text).length : Int) else -1) = p.n) := by rw [if_neg (by simp)]; omega
    rw [decide_eq_false this]; rfl
  · simp
theorem OneB.of {r : List Part} {p : Part} (h : ∀ q ∈ r, 0 ≤ q.n) (h0 : 0 ≤ p.n) (h1 : nsum r + p.n ≤ 4611686018427387904) (h2 : tsum r + p.text.size ≤ 4611686018427387904) (h3 : r.length < 1099511627776) : OneB r p := ⟨h, h0, h1, h2, h3⟩
theorem runesF_cases (s : ByteArray) : (valid s = true ∧ runesF s.data.toList = (rcount s : Int)) ∨ (valid s = false ∧ runesF s.data.toList = -1) := by
  rw [runesF_str, rcount_dec]
  cases hv : valid s
  · exact .inr ⟨rfl, by simp⟩
  · exact .inl ⟨rfl, by simp⟩
theorem Rdb.takeR {L : List Go.SK.Res} {v : Value} {q : Part} {r : List Part} (h : Rdb L v 3 (q :: r).length (encs (q :: r).reverse)) : Rdb L (Value.cut v 0 r.length 3) 3 r.length (encs r.reverse) := by
  have h1 := h.cut 0 r.length (Nat.zero_le _) (by simp)
  rw [encs_rev, Nat.zero_mul, List.drop_zero, Nat.sub_zero, List.take_append_of_le_length (by rw [encs3, List.length_reverse]; exact Nat.le_refl _), List.take_of_length_le (by rw [encs3, List.length_reverse]; exact Nat.le_refl _)] at h1
  exact h1
theorem row_len3 {S : Nat → Prop} {w0 w : World} {L : List Go.SK.Res} {v : Value} {e m : Nat} {l : List Part} (h : Hp S w0 w (.row v e 3 m (encs l) :: L)) : Hp S w0 w (.row v e 3 l.length (encs l) :: L) := by
  have h1 : w.ownsRow 0 e 3 v m (encs l) := h.at_ _ (.head _)
  have h2 : l.length = m := by have := h1.1; rw [encs3] at this; omega
  rw [h2]; exact h
/-- What is put, and behind that what is dropped. -/
def bothR (r : List Part) (s : ByteArray) (d : Int) : List Part := if 0 < d then oneR (if s = ⟨#[]⟩ then r else oneR r (putP s)) (dropP d) else (if s = ⟨#[]⟩ then r else oneR r (putP s))
structure BothB (r : List Part) (s : ByteArray) (d : Int) : Prop where
  pos : ∀ q ∈ r, 0 ≤ q.n
  d0 : 0 ≤ d
  n : nsum r + rcount s + d ≤ 4611686018427387904
  t : tsum r + s.size ≤ 4611686018427387904
  len : r.length + 1 < 1099511627776
theorem BothB.b1 {r : List Part} {s : ByteArray} {d : Int} (h : BothB r s d) : OneB r (putP s) := by
  have h1 := h.n; have h2 := h.t; have h3 := h.len; have h4 := h.d0
  exact ⟨h.pos, by simp only [putP]; omega, by simp only [putP]; omega, by simp only [putP]; omega, by omega⟩
theorem BothB.b2 {r : List Part} {s : ByteArray} {d : Int} (h : BothB r s d) : OneB (oneR r (putP s)) (dropP d) := by
  have h1 := h.n; have h2 := h.t; have h3 := h.len; have h4 := h.d0
  obtain ⟨a1, a2, a3, a4⟩ := oneR_facts r (putP s) h.pos (by simp only [putP]; omega)
  simp only [putP] at a2 a3
  have e0 : (⟨#[]⟩ : ByteArray).size = 0 := rfl
  exact ⟨a1, h4, by simp only [dropP, putP]; omega, by simp only [dropP, putP]; omega, by omega⟩
theorem BothB.b3 {r : List Part} {s : ByteArray} {d : Int} (h : BothB r s d) : OneB r (dropP d) := by
  have h1 := h.n; have h2 := h.t; have h3 := h.len; have h4 := h.d0
  have e0 : (⟨#[]⟩ : ByteArray).size = 0 := rfl
  exact ⟨h.pos, h4, by simp only [dropP]; omega, by simp only [dropP]; omega, by omega⟩
theorem bothR_facts {r : List Part} {s : ByteArray} {d : Int} (h : BothB r s d) : (∀ q ∈ bothR r s d, 0 ≤ q.n) ∧ nsum (bothR r s d) ≤ nsum r + rcount s + d ∧ tsum (bothR r s d) ≤ tsum r + s.size ∧ (bothR r s d).length ≤ r.length + 2 := by
  have h4 := h.d0
  have e0 : (dropP d).text.size = 0 := rfl
  have e1 : (dropP d).n = d := rfl
  have e2 : (putP s).text.size = s.size := rfl
  have e3 : (putP s).n = (rcount s : Int) := rfl
  unfold bothR
  split <;> split
  · obtain ⟨a1, a2, a3, a4⟩ := oneR_facts r (dropP d) h.pos h4
    exact ⟨a1, by omega, by omega, by omega⟩
  · obtain ⟨a1, a2, a3, a4⟩ := oneR_facts r (putP s) h.pos (by omega)
    obtain ⟨b1, b2, b3, b4⟩ := oneR_facts _ (dropP d) a1 h4
    exact ⟨b1, by omega, by omega, by omega⟩
  · exact ⟨h.pos, by omega, by omega, by omega⟩
  · obtain ⟨a1, a2, a3, a4⟩ := oneR_facts r (putP s) h.pos (by omega)
    exact ⟨a1, by omega, by omega, by omega⟩
/-- The state of the document's Norm. -/
structure NInv (e : List Part) (k : Nat) (r : List Part) : Prop where
  kle : k ≤ e.length
  go : (e.take k).foldl normStep [] = r
  pos : ∀ q ∈ r, 0 ≤ q.n
  n : nsum r ≤ k * 1099511627776
  t : (tsum r : Int) ≤ 4 * nsum r
  len : r.length ≤ k
theorem NInv.start (e : List Part) : NInv e 0 [] := ⟨Nat.zero_le _, rfl, by simp, by simp [nsum], by simp [nsum, tsum], by simp⟩
section
variable {e : List Part} {k : Nat} {r : List Part} {p : Part}
theorem NInv.skip (h : NInv e k r) (hk : k < e.length) (hp : e.getD k default = p) (hf : ¬ fitsB p = true) : NInv e (k + 1) r := by
  have h1 := h.n; have h2 := h.len
  refine ⟨by omega, ?_, h.pos, by omega, h.t, by omega⟩
  rw [take_getD hk hp, List.foldl_append, h.go]; exact normStep_no hf
theorem NInv.ob (h : NInv e k r) (hk : k < e.length) (hl : e.length ≤ 524288) (hf : fitsB p = true) : OneB r p := by
  have h1 := h.n; have h2 := h.len; have h3 := h.t; have h4 := fitsB_n hf; have h5 := fits_size hf
  exact ⟨h.pos, by omega, by omega, by omega, by omega⟩
theorem NInv.one (h : NInv e k r) (hk : k < e.length) (hp : e.getD k default = p) (hf : fitsB p = true) (hc : ∀ d r', r = d :: r' → ¬ (p.kind = 2 ∧ d.kind = 3)) : NInv e (k + 1) (oneR r p) := by
  have h1 := h.n; have h2 := h.len; have h3 := h.t; have h4 := fitsB_n hf; have h5 := fits_size hf
  obtain ⟨a1, a2, a3, a4⟩ := oneR_facts r p h.pos (by omega)
  refine ⟨by omega, ?_, a1, by omega, by omega, by omega⟩
  rw [take_getD hk hp, List.foldl_append, h.go]
  show normStep r p = _
  rw [normStep_fit hf]
  cases r with
  | nil => rfl
  | cons d r' => simp only; rw [if_neg (hc d r' rfl)]
theorem NInv.swap {d : Part} (h : NInv e k (d :: r)) (hk : k < e.length) (hp : e.getD k default = p) (hf : fitsB p = true) (h2 : p.kind = 2) (h3 : d.kind = 3) (hl : e.length ≤ 524288) : OneB r p ∧ OneB (oneR r p) d ∧ NInv e (k + 1) (oneR (oneR r p) d) := by
  have h1 := h.n; have hl2 := h.len; have ht := h.t; have h4 := fitsB_n hf; have h5 := fits_size hf
  have hd := h.pos d (.head _)
  simp only [nsum, tsum, List.length_cons] at h1 ht hl2
  have hr : ∀ q ∈ r, 0 ≤ q.n := fun q hq => h.pos q (.tail _ hq)
  obtain ⟨a1, a2, a3, a4⟩ := oneR_facts r p hr (by omega)
  obtain ⟨b1, b2, b3, b4⟩ := oneR_facts _ d a1 hd
  have hn := nsum_pos hr
  refine ⟨⟨hr, by omega, by omega, by omega, by omega⟩, ⟨a1, hd, by omega, by omega, by omega⟩, by omega, ?_, b1, by omega, by omega, by omega⟩
  rw [take_getD hk hp, List.foldl_append, h.go]
  show normStep (d :: r) p = _
  rw [normStep_fit hf]; simp only; rw [if_pos ⟨h2, h3⟩]
end
theorem take_eq_all {α : Type} {a b : List α} {k : Nat} (h : a.take k = b.take k) (ha : a.length ≤ k) (hl : a.length = b.length) : a = b := by
  rwa [List.take_of_length_le ha, List.take_of_length_le (by omega)] at h
structure RB4 (ps : List Part) (i : Nat) (r : List Part) : Prop where
  pos : ∀ q ∈ r, 0 ≤ q.n
  n : nsum r ≤ i * 1099511627776
  t : (tsum r : Int) ≤ i * 1152921504606846976
  len : r.length ≤ i
theorem RB4.start (ps : List Part) : RB4 ps 0 [] := ⟨by simp, by simp only [nsum]; omega, by simp only [tsum]; omega, by simp⟩
def RBnd (ps : List Part) : Prop := ∀ p ∈ ps, p.n ≤ 1099511627776 ∧ p.text.size ≤ 1152921504606846976
theorem RB4.skip {ps : List Part} {i : Nat} {r : List Part} {p : Part} (h : RB4 ps i r) (hk : i < ps.length) (hp : ps.getD i default = p) : RB4 ps (i + 1) r := by
  have h1 := h.n; have h2 := h.t; have h3 := h.len
  exact ⟨h.pos, by omega, by omega, by omega⟩
theorem repl_bounds {n a k : Int} {s : ByteArray} (h : ¬ replBad n a k s) (hs : s.size ≤ 1152921504606846976) : RBnd [⟨1, a, ⟨#[]⟩⟩, ⟨2, (rcount s : Int), s⟩, ⟨3, k, ⟨#[]⟩⟩, ⟨1, n - a - k, ⟨#[]⟩⟩] := by
  unfold replBad at h
  have e0 : (⟨#[]⟩ : ByteArray).size = 0 := rfl
  intro p hp
  simp only [List.mem_cons, List.not_mem_nil, or_false] at hp
  rcases hp with rfl | rfl | rfl | rfl <;> simp only <;> omega
theorem RB4.one {ps : List Part} {i : Nat} {r : List Part} {p : Part} (h : RB4 ps i r) (hb : RBnd ps) (hl : ps.length ≤ 4 := by decide) (hk : i < ps.length) (hp : ps.getD i default = p) (h0 : 0 < p.n) : OneB r p ∧ RB4 ps (i + 1) (oneR r p) := by
  have h1 := h.n; have h2 := h.t; have h3 := h.len
  have hm : p ∈ ps := by rw [← hp, List.getD_eq_getElem?_getD, List.getElem?_eq_getElem hk]; exact List.getElem_mem hk
  have h5 := hb p hm
  obtain ⟨a1, a2, a3, a4⟩ := oneR_facts r p h.pos (by omega)
  exact ⟨⟨h.pos, by omega, by omega, by omega, by omega⟩, a1, by omega, by omega, by omega⟩
end Go.SK

set_option linter.unusedVariables false
set_option linter.unusedSimpArgs false
set_option maxRecDepth 100000
namespace Go.SK
open Go
abbrev sXY : ByteArray := ⟨#[120, 121]⟩
abbrev sA : ByteArray := ⟨#[97]⟩
abbrev sB : ByteArray := ⟨#[98]⟩
abbrev sHello : ByteArray := ⟨#[104, 101, 108, 108, 111]⟩
abbrev s12 : ByteArray := ⟨#[49, 50]⟩
abbrev s1b2 : ByteArray := ⟨#[49, 98, 50]⟩
abbrev s1a2 : ByteArray := ⟨#[49, 97, 50]⟩
theorem aw1 : applyF (replF 5 2 1 sXY) sHello = ⟨#[104, 101, 120, 121, 108, 111]⟩ ∧ applyE (replF 5 2 1 sXY) sHello = 0 := ⟨by kernel_rfl, by kernel_rfl⟩
theorem awA : replF 2 1 0 sA = [⟨1, 1, ⟨#[]⟩⟩, ⟨2, 1, sA⟩, ⟨1, 1, ⟨#[]⟩⟩] := by kernel_rfl
theorem awB : replF 2 1 0 sB = [⟨1, 1, ⟨#[]⟩⟩, ⟨2, 1, sB⟩, ⟨1, 1, ⟨#[]⟩⟩] := by kernel_rfl
theorem awX : replF 5 2 1 sXY = [⟨1, 2, ⟨#[]⟩⟩, ⟨2, 2, sXY⟩, ⟨3, 1, ⟨#[]⟩⟩, ⟨1, 2, ⟨#[]⟩⟩] := by kernel_rfl
theorem awE : trE (replF 2 1 0 sA) (replF 2 1 0 sB) = 0 := by kernel_rfl
theorem aw2 : trF1 (replF 2 1 0 sA) (replF 2 1 0 sB) = [⟨1, 1, ⟨#[]⟩⟩, ⟨2, 1, sA⟩, ⟨1, 2, ⟨#[]⟩⟩] ∧ trF2 (replF 2 1 0 sA) (replF 2 1 0 sB) = [⟨1, 2, ⟨#[]⟩⟩, ⟨2, 1, sB⟩, ⟨1, 1, ⟨#[]⟩⟩] := ⟨by kernel_rfl, by kernel_rfl⟩
theorem aw3 : applyF (replF 2 1 0 sB) s12 = s1b2 ∧ applyE (replF 2 1 0 sB) s12 = 0 := ⟨by kernel_rfl, by kernel_rfl⟩
theorem aw4 : applyF (trF1 (replF 2 1 0 sA) (replF 2 1 0 sB)) s1b2 = ⟨#[49, 97, 98, 50]⟩ ∧ applyE (trF1 (replF 2 1 0 sA) (replF 2 1 0 sB)) s1b2 = 0 := ⟨by kernel_rfl, by kernel_rfl⟩
theorem aw5 : applyE (trF2 (replF 2 1 0 sA) (replF 2 1 0 sB)) s1a2 = 0 := by kernel_rfl
theorem aw6 : checkF [] 1 = 30 := by kernel_rfl
def small (e : List Part) : Prop := ∀ p ∈ e, p.text.size < 9223372036854775807
theorem smallA : small (replF 2 1 0 sA) := by rw [awA]; intro p hp; simp only [List.mem_cons, List.not_mem_nil, or_false] at hp; rcases hp with rfl | rfl | rfl <;> decide
theorem smallB : small (replF 2 1 0 sB) := by rw [awB]; intro p hp; simp only [List.mem_cons, List.not_mem_nil, or_false] at hp; rcases hp with rfl | rfl | rfl <;> decide
theorem smallX : small (replF 5 2 1 sXY) := by rw [awX]; intro p hp; simp only [List.mem_cons, List.not_mem_nil, or_false] at hp; rcases hp with rfl | rfl | rfl | rfl <;> decide
theorem small1 : small (trF1 (replF 2 1 0 sA) (replF 2 1 0 sB)) := by rw [aw2.1]; intro p hp; simp only [List.mem_cons, List.not_mem_nil, or_false] at hp; rcases hp with rfl | rfl | rfl <;> decide
theorem small2 : small (trF2 (replF 2 1 0 sA) (replF 2 1 0 sB)) := by rw [aw2.2]; intro p hp; simp only [List.mem_cons, List.not_mem_nil, or_false] at hp; rcases hp with rfl | rfl | rfl <;> decide
end Go.SK

set_option linter.unusedVariables false
set_option linter.unusedSimpArgs false
set_option maxRecDepth 100000
namespace Go.SK
open Go
/-- A part that fits, however long. -/
def FitU (p : Part) : Prop := 1 ≤ p.n ∧ ((p.kind = 1 ∧ p.text = ⟨#[]⟩) ∨ (p.kind = 3 ∧ p.text = ⟨#[]⟩) ∨ (p.kind = 2 ∧ valid p.text = true ∧ ((dec p.text).length : Int) = p.n))
theorem fitU_of {p : Part} (h : fitsB p = true) : FitU p := by have := fitsB_cases h; exact ⟨this.1, this.2.2⟩
theorem fitsB_of {p : Part} (h : FitU p) (h1 : p.n ≤ 1099511627776) : fitsB p = true := fitsB_mk h.1 h1 h.2
theorem FitU.kinds {p : Part} (h : FitU p) : p.kind = 1 ∨ p.kind = 2 ∨ p.kind = 3 := by rcases h.2 with h | h | h <;> omega
def FitsU (e : List Part) : Prop := ∀ p ∈ e, FitU p
theorem FitsU.tail {p : Part} {e : List Part} (h : FitsU (p :: e)) : FitsU e := fun q hq => h q (.tail _ hq)
theorem FitsU.cons {p : Part} {e : List Part} (h : FitU p) (h' : FitsU e) : FitsU (p :: e) := fun q hq => (List.mem_cons.1 hq).elim (fun x => x ▸ h) (h' q)
/-- May a part of kind j stand behind what k says? -/
def okPrev (k : Option Int) (j : Int) : Prop := match k with
  | none => True
  | some k => k ≠ j ∧ ¬ (k = 3 ∧ j = 2)
def NA : Option Int → List Part → Prop
  | _, [] => True
  | k, p :: r => okPrev k p.kind ∧ NA (some p.kind) r
theorem stopB_iff {k : Option Int} {p : Part} : stopB k p = false ↔ fitsB p = true ∧ okPrev k p.kind := by
  unfold stopB okPrev
  cases k with
  | none => simp
  | some k => simp
theorem fromS_posU : ∀ {e : List Part}, FitsU e → 0 ≤ fromS e ∧ 0 ≤ toS e
  | [], _ => by simp [fromS, toS]
  | p :: r, h => by
    have h1 := h p (.head _); have h2 := fromS_posU h.tail
    have := h1.1
    simp only [fromS, toS]
    constructor <;> split <;> omega
theorem sizesGo_iff : ∀ (e : List Part) (k : Option Int) (f t : Int), 0 ≤ f → f ≤ 1099511627776 → 0 ≤ t → t ≤ 1099511627776 →
    ((sizesGo k e f t).2.2 = true ↔ FitsU e ∧ NA k e ∧ f + fromS e ≤ 1099511627776 ∧ t + toS e ≤ 1099511627776)
  | [], k, f, t, _, h2, _, h4 => by simp [sizesGo, FitsU, NA, fromS, toS, h2, h4]
  | p :: r, k, f, t, h1, h2, h3, h4 => by
    simp only [sizesGo]
    by_cases hs : stopB k p = true
    · rw [if_pos hs]
      refine ⟨fun h => (by cases h), fun ⟨g1, g2, g3, g4⟩ => ?_⟩
      have g5 := g1 p (.head _)
      have g6 := fromS_posU g1.tail
      simp only [fromS, toS] at g3 g4
      have g7 : p.n ≤ 1099511627776 := by
        rcases g5.kinds with hk | hk | hk
        · rw [if_neg (by omega)] at g3; omega
        · rw [if_neg (by omega)] at g4; omega
        · rw [if_neg (by omega)] at g3; omega
      have := stopB_iff.2 ⟨fitsB_of g5 g7, g2.1⟩
      rw [this] at hs; cases hs
    · rw [if_neg hs]
      obtain ⟨a1, a2⟩ := stopB_iff.1 (by simpa using hs : stopB k p = false)
      have a3 := fitsB_n a1
      by_cases hb : 1099511627776 < addF p f ∨ 1099511627776 < addT p t
      · rw [if_pos hb]
        refine ⟨fun h => (by cases h), fun ⟨g1, g2, g3, g4⟩ => ?_⟩
        have g6 := fromS_posU g1.tail
        simp only [fromS, toS] at g3 g4
        unfold addF addT at hb
        rcases hb with hb | hb
        · split at hb <;> rename_i hk
          · omega
          · rw [if_neg hk] at g3; omega
        · split at hb <;> rename_i hk
          · omega
          · rw [if_neg hk] at g4; omega
      · rw [if_neg hb, sizesGo_iff r (some p.kind) (addF p f) (addT p t) (by unfold addF; split <;> omega) (by omega) (by unfold addT; split <;> omega) (by omega)]
        have e1 : addF p f + fromS r = f + fromS (p :: r) := by simp only [addF, fromS]; split <;> omega
        have e2 : addT p t + toS r = t + toS (p :: r) := by simp only [addT, toS]; split <;> omega
        rw [e1, e2]
        exact ⟨fun ⟨g1, g2, g3, g4⟩ => ⟨FitsU.cons (fitU_of a1) g1, ⟨a2, g2⟩, g3, g4⟩, fun ⟨g1, g2, g3, g4⟩ => ⟨g1.tail, g2.2, g3, g4⟩⟩
/-- An edit. -/
def Ok (e : List Part) : Prop := FitsU e ∧ NA none e ∧ fromS e ≤ 1099511627776 ∧ toS e ≤ 1099511627776
theorem ok_iff {e : List Part} : (sizesF e).2.2 = true ↔ Ok e := by
  have := sizesGo_iff e none 0 0 (by omega) (by omega) (by omega) (by omega)
  unfold sizesF Ok
  rw [this]; simp
theorem Ok.sizes {e : List Part} (h : Ok e) : sizesF e = (fromS e, toS e, true) := by
  have h1 := ok_iff.2 h
  have h2 := sizesF_sum h1
  exact Prod.ext h2.1 (Prod.ext h2.2.1 h1)
theorem Ok.fits {e : List Part} (h : Ok e) : Fits e := (sizesF_sum (ok_iff.2 h)).2.2
theorem not_ok {e : List Part} (h : ¬ Ok e) : (sizesF e).2.2 = false := by
  cases hh : (sizesF e).2.2 with
  | false => rfl
  | true => exact absurd (ok_iff.1 hh) h
theorem checkF_iff {e : List Part} {n : Int} : checkF e n = 0 ↔ Ok e ∧ fromS e = n := by
  constructor
  · intro h; have := checkF_ok h; exact ⟨ok_iff.1 this.1, this.2.1⟩
  · rintro ⟨h1, h2⟩
    unfold checkF; rw [h1.sizes]; simp [h2]
/-! ### The same, the last one first -/
def NAR : List Part → Prop
  | [] => True
  | [_] => True
  | p :: q :: r => okPrev (some q.kind) p.kind ∧ NAR (q :: r)
def lastK (k : Option Int) : List Part → Option Int
  | [] => k
  | p :: r => lastK (some p.kind) r
theorem NA_append : ∀ (a b : List Part) (k : Option Int), NA k (a ++ b) ↔ NA k a ∧ NA (lastK k a) b
  | [], b, k => by simp [NA, lastK]
  | p :: a, b, k => by
    have ih := NA_append a b (some p.kind)
    exact ⟨fun h => ⟨⟨h.1, (ih.1 h.2).1⟩, (ih.1 h.2).2⟩, fun h => ⟨h.1.1, ih.2 ⟨h.1.2, h.2⟩⟩⟩
theorem lastK_append (a : List Part) (p : Part) (k : Option Int) : lastK k (a ++ [p]) = some p.kind := by
  induction a generalizing k with
  | nil => rfl
  | cons q a ih => exact ih _
theorem NA_rev : ∀ (r : List Part), NA none r.reverse ↔ NAR r
  | [] => by simp [NA, NAR]
  | [p] => by simp [NA, NAR, okPrev]
  | p :: q :: r => by
    rw [List.reverse_cons, NA_append, NA_rev (q :: r)]
    rw [show lastK none (q :: r).reverse = some q.kind by rw [List.reverse_cons, lastK_append]]
    simp only [NA, NAR, and_true]
    exact And.comm
theorem NAR.tail {p : Part} {r : List Part} (h : NAR (p :: r)) : NAR r := by
  cases r with
  | nil => trivial
  | cons q r => exact h.2
theorem fromS_append (a b : List Part) : fromS (a ++ b) = fromS a + fromS b ∧ toS (a ++ b) = toS a + toS b := by
  induction a with
  | nil => simp [fromS, toS]
  | cons p a ih => simp only [List.cons_append, fromS, toS]; omega
theorem fromS_rev (r : List Part) : fromS r.reverse = fromS r ∧ toS r.reverse = toS r := by
  induction r with
  | nil => simp [fromS, toS]
  | cons p r ih =>
    have := fromS_append r.reverse [p]
    rw [List.reverse_cons, this.1, this.2, ih.1, ih.2]
    simp only [fromS, toS]; omega
theorem more_fit {q p : Part} (hq : FitU q) (hp : FitU p) (h : q.kind = p.kind) : FitU (q.more p) := by
  have e0 : (⟨#[]⟩ : ByteArray) ++ ⟨#[]⟩ = ⟨#[]⟩ := rfl
  refine ⟨by have := hq.1; have := hp.1; simp only [Part.more]; omega, ?_⟩
  simp only [Part.more]
  rcases hq.2 with ⟨k1, t1⟩ | ⟨k1, t1⟩ | ⟨k1, v1, l1⟩ <;> rcases hp.2 with ⟨k2, t2⟩ | ⟨k2, t2⟩ | ⟨k2, v2, l2⟩ <;> try omega
  · exact .inl ⟨k1, by rw [t1, t2, e0]⟩
  · exact .inr (.inl ⟨k1, by rw [t1, t2, e0]⟩)
  · exact .inr (.inr ⟨k1, valid_append v1 v2, by rw [dec_append v1 v2, List.length_append]; omega⟩)
/-- What a maker holds is in its one form. -/
structure MK (r : List Part) : Prop where
  fit : FitsU r
  na : NAR r
theorem MK.nil : MK [] := ⟨fun _ h => (by cases h), trivial⟩
theorem MK.tail {p : Part} {r : List Part} (h : MK (p :: r)) : MK r := ⟨h.fit.tail, h.na.tail⟩
theorem addR_head {r : List Part} {p : Part} (hn : ¬ p.n = 0) : ∀ q, (addR r p).head? = some q → q.kind = p.kind ∨ (q.kind = 3 ∧ p.kind = 2) := by
  intro q hq
  cases r with
  | nil => rw [addR_nil hn] at hq; simp at hq; rw [hq]; exact .inl rfl
  | cons s r =>
    by_cases h1 : s.kind = p.kind
    · rw [addR_more hn h1] at hq; simp at hq; rw [← hq]; exact .inl h1
    · by_cases h2 : p.kind ≠ 2 ∨ s.kind ≠ 3
      · rw [addR_push hn h1 h2] at hq; simp at hq; rw [hq]; exact .inl rfl
      · rw [addR_deep hn h1 h2] at hq; simp at hq; rw [← hq]; exact .inr ⟨by omega, by omega⟩
theorem MK.add : ∀ {r : List Part} {p : Part}, MK r → FitU p → MK (addR r p)
  | [], p, h, hp => by
    rw [addR_nil (by have := hp.1; omega)]
    exact ⟨FitsU.cons hp (fun _ h => (by cases h)), trivial⟩
  | q :: r, p, h, hp => by
    have hn : ¬ p.n = 0 := by have := hp.1; omega
    have hq := h.fit q (.head _)
    by_cases h1 : q.kind = p.kind
    · rw [addR_more hn h1]
      refine ⟨FitsU.cons (more_fit hq hp h1) h.fit.tail, ?_⟩
      cases r with
      | nil => trivial
      | cons s r => exact h.na
    · by_cases h2 : p.kind ≠ 2 ∨ q.kind ≠ 3
      · rw [addR_push hn h1 h2]
        exact ⟨FitsU.cons hp h.fit, ⟨h1, by omega⟩, h.na⟩
      · rw [addR_deep hn h1 h2]
        have ih := MK.add h.tail hp
        refine ⟨FitsU.cons hq ih.fit, ?_⟩
        have hh := addR_head (r := r) hn
        have key : ∀ s, (addR r p).head? = some s → okPrev (some s.kind) q.kind := by
          intro s hs
          have hs3 : ¬ s.kind = 3 := by
            intro hs3
            cases r with
            | nil => rw [addR_nil hn] at hs; simp at hs; rw [← hs] at hs3; omega
            | cons u r =>
              have hu := h.na.1
              by_cases c1 : u.kind = p.kind
              · rw [addR_more hn c1] at hs; simp at hs; rw [← hs] at hs3; simp only [Part.more] at hs3; omega
              · by_cases c2 : p.kind ≠ 2 ∨ u.kind ≠ 3
                · rw [addR_push hn c1 c2] at hs; simp at hs; rw [← hs] at hs3; omega
                · exact absurd hu.1 (by omega)
          exact ⟨by omega, by omega⟩
        cases hr : addR r p with
        | nil => trivial
        | cons s t => rw [hr] at ih key; exact ⟨key s rfl, ih.na⟩
theorem addR_sum : ∀ (r : List Part) (p : Part), FitU p → fromS (addR r p) = fromS r + (if p.kind = 2 then 0 else p.n) ∧ toS (addR r p) = toS r + (if p.kind = 3 then 0 else p.n)
  | [], p, hp => by
    rw [addR_nil (by have := hp.1; omega)]
    simp only [fromS, toS]; omega
  | q :: r, p, hp => by
    have hn : ¬ p.n = 0 := by have := hp.1; omega
    by_cases h1 : q.kind = p.kind
    · rw [addR_more hn h1]
      simp only [fromS, toS, Part.more, h1]
      constructor <;> split <;> omega
    · by_cases h2 : p.kind ≠ 2 ∨ q.kind ≠ 3
      · rw [addR_push hn h1 h2]; simp only [fromS, toS]; omega
      · rw [addR_deep hn h1 h2]
        have := addR_sum r p hp
        simp only [fromS, toS]; omega
theorem addRs_mk : ∀ (ps r : List Part), MK r → FitsU ps → MK (addRs r ps) ∧ fromS (addRs r ps) = fromS r + fromS ps ∧ toS (addRs r ps) = toS r + toS ps
  | [], r, h, _ => ⟨h, by simp [addRs, fromS], by simp [addRs, toS]⟩
  | p :: ps, r, h, hp => by
    have h1 := addR_sum r p (hp p (.head _))
    obtain ⟨a1, a2, a3⟩ := addRs_mk ps (addR r p) (h.add (hp p (.head _))) hp.tail
    rw [addRs_cons]
    exact ⟨a1, by rw [a2, h1.1]; simp only [fromS]; omega, by rw [a3, h1.2]; simp only [toS]; omega⟩
theorem MK.ok {r : List Part} (h : MK r) (h1 : fromS r ≤ 1099511627776) (h2 : toS r ≤ 1099511627776) : Ok r.reverse := by
  have h3 := fromS_rev r
  exact ⟨fun p hp => h.fit p (List.mem_reverse.1 hp), (NA_rev r).2 h.na, by omega, by omega⟩
/-- Parts of no length go for nothing. -/
theorem addRs_filter : ∀ (ps r : List Part), addRs r ps = addRs r (ps.filter fun p => decide (p.n ≠ 0))
  | [], r => rfl
  | p :: ps, r => by
    rw [addRs_cons, List.filter_cons]
    by_cases h : p.n = 0
    · rw [addR_zero h, if_neg (by simp [h])]; exact addRs_filter ps r
    · rw [if_pos (by simp [h]), addRs_cons]; exact addRs_filter ps _
/-! ### The edit by which a stretch becomes a text -/
theorem repl_ok {n a k : Int} {s : ByteArray} (h : ¬ replBad n a k s) : Ok (replF n a k s) ∧ fromS (replF n a k s) = n ∧ toS (replF n a k s) = n - k + rcount s := by
  have hb := h
  unfold replBad at h
  have hv : valid s = true := by cases hh : valid s <;> simp_all
  rw [replF, if_neg hb, addRs_filter]
  have hf : FitsU ([keepP a, putP s, dropP k, keepP (n - a - k)].filter fun p => decide (p.n ≠ 0)) := by
    intro p hp
    obtain ⟨h1, h2⟩ := List.mem_filter.1 hp
    simp only [ne_eq, decide_not, Bool.not_eq_true', decide_eq_false_iff_not] at h2
    simp only [List.mem_cons, List.not_mem_nil, or_false] at h1
    rcases h1 with rfl | rfl | rfl | rfl
    · exact ⟨by simp only [keepP] at h2 ⊢; omega, .inl ⟨rfl, rfl⟩⟩
    · exact ⟨by simp only [putP] at h2 ⊢; omega, .inr (.inr ⟨rfl, hv, by simp only [putP, rcount_dec]⟩)⟩
    · exact ⟨by simp only [dropP] at h2 ⊢; omega, .inr (.inl ⟨rfl, rfl⟩)⟩
    · exact ⟨by simp only [keepP] at h2 ⊢; omega, .inl ⟨rfl, rfl⟩⟩
  obtain ⟨m1, m2, m3⟩ := addRs_mk _ [] MK.nil hf
  have hz : ∀ l : List Part, fromS (l.filter fun p => decide (p.n ≠ 0)) = fromS l ∧ toS (l.filter fun p => decide (p.n ≠ 0)) = toS l := by
    intro l
    induction l with
    | nil => simp
    | cons p l ih =>
      rw [List.filter_cons]
      by_cases h0 : p.n = 0
      · rw [if_neg (by simp [h0])]; simp only [fromS, toS, h0]; constructor <;> split <;> omega
      · rw [if_pos (by simp [h0])]; simp only [fromS, toS]; omega
  rw [(hz _).1] at m2; rw [(hz _).2] at m3
  have e1 : fromS [keepP a, putP s, dropP k, keepP (n - a - k)] = n := by simp [fromS, keepP, putP, dropP]; omega
  have e2 : toS [keepP a, putP s, dropP k, keepP (n - a - k)] = n - k + rcount s := by simp [toS, keepP, putP, dropP]; omega
  have z0 : fromS ([] : List Part) = 0 := rfl
  have z1 : toS ([] : List Part) = 0 := rfl
  rw [e1] at m2; rw [e2] at m3
  have h3 := fromS_rev (addRs [] ([keepP a, putP s, dropP k, keepP (n - a - k)].filter fun p => decide (p.n ≠ 0)))
  exact ⟨m1.ok (by omega) (by omega), by omega, by omega⟩
theorem repl_check {n a k : Int} {s : ByteArray} (h : replE n a k s = 0) : checkF (replF n a k s) n = 0 := by
  have hb : ¬ replBad n a k s := by intro hb; rw [replE, if_pos hb] at h; cases h
  exact checkF_iff.2 ⟨(repl_ok hb).1, (repl_ok hb).2.1⟩
theorem small_of {e : List Part} (h : Fits e) : small e := fun p hp => by have := fits_sizeN (h p hp); omega
theorem small_nil : small [] := fun p hp => by cases hp
theorem repl_small (n a k : Int) (s : ByteArray) : small (replF n a k s) := by
  by_cases h : replBad n a k s
  · rw [replF, if_pos h]; exact small_nil
  · exact small_of (repl_ok h).1.fits
end Go.SK

set_option linter.unusedVariables false
set_option linter.unusedSimpArgs false
set_option maxRecDepth 100000
namespace Go.SK
open Go Go.RowKit
theorem lkP {e : List Part} {i k : Nat} {p : Part} {v : Value} (j : Nat) (h : i < e.length) (hp : e.getD i default = p) (hk : k = i * 3 + j) (hj : j < 3) (hv : p.cs[j]? = some v) : (encs e)[k]? = some v := by
  subst hk; subst hp
  exact (encs_get e i j h hj).trans hv
/-- What the laws' guard lets in: few parts. (One text alone may be long.) -/
def Light (e : List Part) : Prop := e.length ≤ 200
/-- The bytes of all texts, of each one at most 4096. -/
def tl : List Part → Int
  | [] => 0
  | p :: r => minI p.text.size 4096 + tl r
def lsum : List (Value × List Part) → Int
  | [] => 0
  | x :: r => tl x.2 + lsum r
theorem tl_append : ∀ (a b : List Part), tl (a ++ b) = tl a + tl b
  | [], b => by simp [tl]
  | p :: r, b => by simp only [List.cons_append, tl, tl_append r b]; omega
theorem lsum_append : ∀ (a b : List (Value × List Part)), lsum (a ++ b) = lsum a + lsum b
  | [], b => by simp [lsum]
  | p :: r, b => by simp only [List.cons_append, lsum, lsum_append r b]; omega
structure LInv (es : List (Value × List Part)) (k : Nat) (n : Int) : Prop where
  kle : k ≤ es.length
  n0 : 0 ≤ n
  n1 : n ≤ 8192
  ok : ∀ j, j < k → (es.getD j default).2.length ≤ 200
  sum : n ≤ 4096 → n = lsum (es.take k)
theorem LInv.start (es : List (Value × List Part)) : LInv es 0 0 := ⟨Nat.zero_le _, by omega, by omega, fun j h => by omega, fun _ => rfl⟩
structure LIn (e : List Part) (n0 : Int) (i : Nat) (n : Int) : Prop where
  ile : i ≤ e.length
  m0 : n0 ≤ n
  m1 : n ≤ 8192
  sum : n = n0 + tl (e.take i)
theorem LIn.start (e : List Part) {n : Int} (h : n ≤ 8192) : LIn e n 0 n := ⟨Nat.zero_le _, by omega, h, by simp [tl]⟩
theorem LIn.step {e : List Part} {n0 n : Int} {i : Nat} {p : Part} (h : LIn e n0 i n) (hi : i < e.length) (hp : e.getD i default = p) (hn : n ≤ 4096) : LIn e n0 (i + 1) (n + minI p.text.size 4096) := by
  have h1 := h.m0
  have hm := minI_le (p.text.size : Int) 4096
  have hm0 : 0 ≤ minI (p.text.size : Int) 4096 := by omega
  refine ⟨by omega, by omega, by omega, ?_⟩
  rw [take_getD hi hp, tl_append, h.sum]
  simp only [tl]; omega
theorem LInv.step {es : List (Value × List Part)} {k : Nat} {n0 n : Int} {i : Nat} (h : LInv es k n0) (hk : k < es.length) (hin : LIn (es.getD k default).2 n0 i n) (hl : (es.getD k default).2.length ≤ 200) (hi : n ≤ 4096 → (es.getD k default).2.length ≤ i) : LInv es (k + 1) n := by
  have h1 := h.n0; have h2 := hin.m0; have h3 := hin.m1
  refine ⟨by omega, by omega, h3, fun j hj => ?_, fun hn => ?_⟩
  · rcases Nat.lt_or_ge j k with hjk | hjk
    · exact h.ok j hjk
    · obtain rfl : j = k := by omega
      exact hl
  · have h4 := hin.sum
    rw [List.take_of_length_le (hi hn)] at h4
    rw [take_getD hk rfl, lsum_append, ← h.sum (by omega), h4]
    simp only [lsum]; omega
theorem LInv.stop {es : List (Value × List Part)} {k : Nat} {n : Int} (h : LInv es k n) (hk : ¬ k < es.length) (hn : n ≤ 4096) : (∀ x ∈ es, Light x.2) ∧ lsum es ≤ 4096 := ⟨fun x hx => by
  obtain ⟨j, hj, rfl⟩ := List.mem_iff_getElem.1 hx
  have := h.ok j (by omega)
  rw [List.getD_eq_getElem?_getD, List.getElem?_eq_getElem hj] at this
  exact this, by
  have := h.sum hn
  rw [List.take_of_length_le (by omega)] at this
  omega⟩
def Narrow (e : List Part) : Prop := sizeE e = 0 → (sizeF e).1 ≤ 400 ∧ (sizeF e).2 ≤ 400
theorem narrow_step {es : List (Value × List Part)} {k : Nat} {x : Value × List Part} (h : ∀ j, j < k → Narrow (es.getD j default).2) (hx : es.getD k default = x) (hn : Narrow x.2) : ∀ j, j < k + 1 → Narrow (es.getD j default).2 := fun j hj => by
  rcases Nat.lt_or_ge j k with h1 | h1
  · exact h j h1
  · obtain rfl : j = k := by omega
    rw [hx]; exact hn
theorem narrow_all {es : List (Value × List Part)} {k : Nat} (h : ∀ j, j < k → Narrow (es.getD j default).2) (hk : ¬ k < es.length) : ∀ x ∈ es, Narrow x.2 := fun x hx => by
  obtain ⟨j, hj, rfl⟩ := List.mem_iff_getElem.1 hx
  have := h j (by omega)
  rw [List.getD_eq_getElem?_getD, List.getElem?_eq_getElem hj] at this
  exact this
theorem getD_mem {α : Type} [Inhabited α] {l : List α} {k : Nat} {x : α} (h : k < l.length) (hx : l.getD k default = x) : x ∈ l := by
  rw [← hx, List.getD_eq_getElem?_getD, List.getElem?_eq_getElem h]; exact List.getElem_mem h
theorem lkV {es : List (Value × List Part)} {k i : Nat} {x : Value × List Part} (h : k < es.length) (hx : es.getD k default = x) (hi : i = k) : (es.map (·.1))[i]? = some x.1 := by
  subst hi
  rw [List.getElem?_map, List.getElem?_eq_getElem h]
  rw [List.getD_eq_getElem?_getD, List.getElem?_eq_getElem h] at hx
  simp at hx ⊢; rw [hx]
/-- A list of parts that came in. -/
structure EditIn (W : World) (v : Value) (e : List Part) : Prop where
  rd : RdRow W v 3 e.length (encs e)
  txt : ∀ q ∈ e, q.text.size ≤ 140737488351232
  len : e.length ≤ 4398046511104
theorem EditIn.small {W : World} {v : Value} {e : List Part} (h : EditIn W v e) : small e := fun p hp => by have := h.txt p hp; omega
section
variable {P : Program} {n : Nat} {l : FrL} {S : Nat → Prop} {w0 : World} {L : List Res} {dst : Option Tmp} {ty t' : TypeId} {pos : String} {af : Array Edge} {gd : Option (Nat × Bool)} {x : Operand}
/-- A slice held against nil. -/
theorem OpX.eqNil {t : TypeId} {v : Value} {sz m : Nat} {xs : List Value} (hx : evO l x = some v) (hr : Rdb L v sz m xs) (hq : ∀ (A : Option Addr) (c : Nat) (w : World), (binOp .eql t (.slice A m c) (.slice none 0 0)).run P w = .ok (.bool (decide (A = none))) w) :
    OpX P n l S w0 L ⟨dst, .binOp .eql t x (.const (.slice none 0 0)) t', ty, pos, af, gd⟩ (fun u L' => ∃ b, u = .bool b ∧ (b = true → m = 0) ∧ L' = L) := .of_run fun a w ha hp => by
  obtain ⟨hl, A, c, rfl, _, _, hA, _⟩ := hr S w0 w hp
  refine ⟨_, w, L, ?_, ⟨decide (A = none), rfl, fun hb => ?_, rfl⟩, hp⟩
  · have hg : (eqGuard .eql t x (.const (.slice none 0 0)) (.slice A m c) (.slice none 0 0)).run P w = .ok () w := by simp [eqGuard]
    have hc : a.eval (.const (.slice none 0 0)) = .slice none 0 0 := rfl
    simp only [execOp, ha.eval hx, hc, Sem.run_bind, hg, Result.andThen_ok, hq A c w, Sem.run_pure]
  · rcases Nat.eq_zero_or_pos m with h | h
    · exact h
    · obtain ⟨ad, h2⟩ := hA h
      rw [h2] at hb; simp at hb
theorem op_beql {t : TypeId} {x y : Operand} {a b : Bool} (ht : P.underlying t = some .bool) (hx : evO l x = some (.bool a)) (hy : evO l y = some (.bool b)) : OpP P n l ⟨dst, .binOp .eql t x y t', ty, pos, af, gd⟩ (.bool (decide (a = b))) := fun q w ha => by
  have h1 : (Op.equal t (.bool a) (.bool b)).run P w = .ok (a == b) w := by
    unfold Op.equal
    rw [show Op.maxDepth = (Op.maxDepth - 1) + 1 from by decide]
    exact run_equalIn_bool' w _ t a b ht
  have h2 : (a == b) = decide (a = b) := by cases a <;> cases b <;> rfl
  simp only [execOp, ha.eval hx, ha.eval hy, Sem.run_bind, eqGuard, binOp]
  simp [h1, h2]
end
end Go.SK
