/- Plain words for layer 3: parts, whether they fit, sizes. -/
import Derived.Test.YtgklklmcmdcpgaaDoorK6
import Derived.Lib.RuneCount
import Derived.Lib.ValidU
set_option linter.unusedVariables false
namespace Go.SK
structure Part where
  kind : Int
  n : Int
  text : ByteArray
  deriving DecidableEq
instance : Inhabited Part := ⟨⟨0, 0, ⟨#[]⟩⟩⟩
def Part.cs (p : Part) : List Value := [.int .i64 p.kind, .int .i64 p.n, .string p.text]
def Part.val (p : Part) : Value := .agg p.cs.toArray
instance : Enc Part := ⟨3, Part.cs, fun _ => rfl, by
  intro p u hu
  simp only [Part.cs, List.mem_cons, List.not_mem_nil, or_false] at hu
  rcases hu with rfl | rfl | rfl <;> rfl⟩


def maxIdx : Int := 1099511627776
def fitsB (p : Part) : Bool :=
  if p.n < 1 then false else if 1099511627776 < p.n then false
  else if p.kind = 1 then decide (p.text = ⟨#[]⟩) else if p.kind = 3 then decide (p.text = ⟨#[]⟩)
  else if p.kind = 2 then (valid p.text && decide ((rcount p.text : Int) = p.n)) else false
def stopB (pv : Option Int) (p : Part) : Bool := !fitsB p || match pv with
  | none => false
  | some k => decide (k = p.kind) || (decide (k = 3) && decide (p.kind = 2))
def addF (p : Part) (f : Int) : Int := if p.kind = 2 then f else f + p.n
def addT (p : Part) (f : Int) : Int := if p.kind = 3 then f else f + p.n
def sizesGo : Option Int → List Part → Int → Int → Int × Int × Bool
  | _, [], f, t => (f, t, true)
  | pv, p :: r, f, t => if stopB pv p then (0, 0, false) else if 1099511627776 < addF p f ∨ 1099511627776 < addT p t then (0, 0, false) else sizesGo (some p.kind) r (addF p f) (addT p t)
def sizesF (e : List Part) : Int × Int × Bool := sizesGo none e 0 0
def prevAt (e : List Part) (k : Nat) : Option Int := if k = 0 then none else some (e.getD (k - 1) default).kind
theorem drop_getD {α : Type} [Inhabited α] {e : List α} {k : Nat} {p : α} (h : k < e.length) (hp : e.getD k default = p) : e.drop k = p :: e.drop (k + 1) := by
  rw [List.drop_eq_getElem_cons h]
  simp [List.getD_eq_getElem?_getD, List.getElem?_eq_getElem h] at hp
  rw [hp]
theorem fitsB_n {p : Part} (h : fitsB p = true) : 1 ≤ p.n ∧ p.n ≤ 1099511627776 := by
  unfold fitsB at h
  split at h
  · cases h
  · split at h
    · cases h
    · omega
theorem stopB_fits {pv : Option Int} {p : Part} (h : stopB pv p = false) : fitsB p = true := by
  unfold stopB at h
  simp at h
  exact h.1
/-! ### The maker: parts, the last one first -/
def keepP (n : Int) : Part := ⟨1, n, ⟨#[]⟩⟩
def dropP (n : Int) : Part := ⟨3, n, ⟨#[]⟩⟩
def putP (s : ByteArray) : Part := ⟨2, (rcount s : Int), s⟩
def Part.more (q p : Part) : Part := ⟨q.kind, q.n + p.n, q.text ++ p.text⟩
def addR : List Part → Part → List Part
  | r, p => if p.n = 0 then r else match r with
    | [] => [p]
    | q :: r' => if q.kind = p.kind then q.more p :: r' else if p.kind ≠ 2 ∨ q.kind ≠ 3 then p :: q :: r' else q :: addR r' p
def nsum : List Part → Int
  | [] => 0
  | q :: r => q.n + nsum r
def tsum : List Part → Nat
  | [] => 0
  | q :: r => q.text.size + tsum r
structure OneB (r : List Part) (p : Part) : Prop where
  pos : ∀ q ∈ r, 0 ≤ q.n
  p0 : 0 ≤ p.n
  n : nsum r + p.n ≤ 4611686018427387904
  t : tsum r + p.text.size ≤ 4611686018427387904
  len : r.length < 1099511627776
theorem nsum_pos : ∀ {r : List Part}, (∀ q ∈ r, 0 ≤ q.n) → 0 ≤ nsum r
  | [], _ => by simp [nsum]
  | q :: r, h => by have := h q (.head _); have := nsum_pos (fun x hx => h x (.tail _ hx)); simp only [nsum]; omega
theorem OneB.tail {q : Part} {r : List Part} {p : Part} (h : OneB (q :: r) p) : OneB r p := by
  have h0 := h.pos q (.head _); have h1 := h.n; have h2 := h.t; have h3 := h.len
  simp only [nsum, tsum, List.length_cons] at h1 h2 h3
  exact ⟨fun x hx => h.pos x (.tail _ hx), h.p0, by omega, by omega, by omega⟩
theorem OneB.head {q : Part} {r : List Part} {p : Part} (h : OneB (q :: r) p) : 0 ≤ q.n ∧ q.n + p.n ≤ 4611686018427387904 ∧ q.text.size + p.text.size ≤ 4611686018427387904 ∧ r.length + 1 < 1099511627776 := by
  have h0 := h.pos q (.head _); have h1 := h.n; have h2 := h.t; have h3 := h.len; have h4 := nsum_pos h.tail.pos
  simp only [nsum, tsum, List.length_cons] at h1 h2 h3
  exact ⟨h0, by omega, by omega, h3⟩
theorem addR_facts : ∀ (r : List Part) (p : Part), (∀ q ∈ r, 0 ≤ q.n) → 0 ≤ p.n → (∀ q ∈ addR r p, 0 ≤ q.n) ∧ nsum (addR r p) = nsum r + p.n ∧ tsum (addR r p) ≤ tsum r + p.text.size ∧ (addR r p).length ≤ r.length + 1
  | [], p, h, h0 => by
    unfold addR
    split
    · simp [nsum, tsum, *]
    · simp [nsum, tsum, h0]
  | q :: r, p, h, h0 => by
    have hq := h q (.head _)
    have hr := fun x hx => h x (List.Mem.tail q hx)
    unfold addR
    split
    · refine ⟨h, by omega, by omega, by omega⟩
    · simp only
      split
      · refine ⟨fun x hx => ?_, by simp only [nsum, Part.more]; omega, by simp only [tsum, Part.more, ByteArray.size_append]; omega, by simp⟩
        rcases List.mem_cons.1 hx with rfl | hx
        · simp only [Part.more]; omega
        · exact hr x hx
      · split
        · refine ⟨fun x hx => ?_, by simp only [nsum]; omega, by simp only [tsum]; omega, by simp⟩
          rcases List.mem_cons.1 hx with rfl | hx
          · exact h0
          · exact h x hx
        · obtain ⟨h1, h2, h3, h4⟩ := addR_facts r p hr h0
          refine ⟨fun x hx => ?_, by simp only [nsum]; omega, by simp only [tsum]; omega, by simp only [List.length_cons]; omega⟩
          rcases List.mem_cons.1 hx with rfl | hx
          · exact hq
          · exact h1 x hx
theorem encs_rev (q : Part) (r : List Part) : encs (q :: r).reverse = encs r.reverse ++ q.cs := by rw [List.reverse_cons, encs_append]; rfl
theorem encs3 (r : List Part) : (encs r).length = r.length * 3 := encs_length r
theorem lkR {q : Part} {r : List Part} {k : Nat} (j : Nat) {v : Value} (hk : k = r.length * 3 + j) (hv : q.cs[j]? = some v) : (encs (q :: r).reverse)[k]? = some v := by
  subst hk
  rw [encs_rev, List.getElem?_append_right (by rw [encs3, List.length_reverse]; omega), encs3, List.length_reverse, Nat.add_sub_cancel_left]
  exact hv
theorem lkRS {q : Part} {r : List Part} {k : Nat} (hk : k = r.length * 3) : ((encs (q :: r).reverse).drop k).take 3 = q.cs := by
  subst hk
  rw [encs_rev, List.drop_append_of_le_length (by rw [encs3, List.length_reverse]; exact Nat.le_refl _), List.drop_eq_nil_of_le (by rw [encs3, List.length_reverse]; exact Nat.le_refl _)]
  rfl
theorem stR {q q' : Part} {r : List Part} {k : Nat} (j : Nat) (u : Value) (hk : k = r.length * 3 + j) (hq : q.cs.take j ++ [u] ++ q.cs.drop (j + 1) = q'.cs) (hj : j < 3) : (encs (q :: r).reverse).take k ++ [u] ++ (encs (q :: r).reverse).drop (k + 1) = encs (q' :: r).reverse := by
  subst hk
  have hl : (encs r.reverse).length = r.length * 3 := by rw [encs3, List.length_reverse]
  rw [encs_rev, encs_rev, ← hq, List.take_append, List.drop_append, hl, List.take_of_length_le (by rw [hl]; omega), List.drop_eq_nil_of_le (by rw [hl]; omega), Nat.add_sub_cancel_left, show r.length * 3 + j + 1 - r.length * 3 = j + 1 by omega]
  simp
theorem takeR {S : Nat → Prop} {w0 w : World} {L : List Res} {v : Value} {e : TypeId} {q : Part} {r : List Part} (h : Hp S w0 w (.row v e 3 (q :: r).length (encs (q :: r).reverse) :: L)) : Hp S w0 w (.row (Value.cut v 0 r.length 3) e 3 r.length (encs r.reverse) :: L) := by
  have h1 := row_take h (m' := r.length) (by simp)
  rw [encs_rev, List.take_append_of_le_length (by rw [encs3, List.length_reverse]; exact Nat.le_refl _), List.take_of_length_le (by rw [encs3, List.length_reverse]; exact Nat.le_refl _)] at h1
  exact h1
theorem addR_zero {r : List Part} {p : Part} (h : p.n = 0) : addR r p = r := by unfold addR; rw [if_pos h]
theorem addR_nil {p : Part} (h : ¬ p.n = 0) : addR [] p = [p] := by unfold addR; rw [if_neg h]
theorem addR_more {q : Part} {r : List Part} {p : Part} (h : ¬ p.n = 0) (h1 : q.kind = p.kind) : addR (q :: r) p = q.more p :: r := by rw [addR, if_neg h]; simp only [if_pos h1]
theorem addR_push {q : Part} {r : List Part} {p : Part} (h : ¬ p.n = 0) (h1 : ¬ q.kind = p.kind) (h2 : p.kind ≠ 2 ∨ q.kind ≠ 3) : addR (q :: r) p = p :: q :: r := by rw [addR, if_neg h]; simp only [if_neg h1, if_pos h2]
theorem addR_deep {q : Part} {r : List Part} {p : Part} (h : ¬ p.n = 0) (h1 : ¬ q.kind = p.kind) (h2 : ¬ (p.kind ≠ 2 ∨ q.kind ≠ 3)) : addR (q :: r) p = q :: addR r p := by rw [addR, if_neg h]; simp only [if_neg h1, if_neg h2]
theorem encs_push (r : List Part) (p : Part) : encs r.reverse ++ encs [p] = encs (p :: r).reverse := by rw [encs_rev]; rfl
/-! ### Several parts, and what the functions answer -/
def addRs (r ps : List Part) : List Part := ps.foldl addR r
structure ManyB (r ps : List Part) : Prop where
  pos : ∀ q ∈ r, 0 ≤ q.n
  pos' : ∀ q ∈ ps, 0 ≤ q.n
  n : nsum r + nsum ps ≤ 4611686018427387904
  t : tsum r + tsum ps ≤ 4611686018427387904
  len : r.length + ps.length < 1099511627776
theorem addRs_cons (r : List Part) (p : Part) (ps : List Part) : addRs r (p :: ps) = addRs (addR r p) ps := rfl
theorem addRs_append (r ps qs : List Part) : addRs r (ps ++ qs) = addRs (addRs r ps) qs := by simp [addRs]
theorem take_getD {α : Type} [Inhabited α] {e : List α} {k : Nat} {p : α} (h : k < e.length) (hp : e.getD k default = p) : e.take (k + 1) = e.take k ++ [p] := by
  rw [List.take_succ_eq_append_getElem h]
  simp [List.getD_eq_getElem?_getD, List.getElem?_eq_getElem h] at hp
  rw [hp]
theorem addRs_take {r ps : List Part} {k : Nat} {p : Part} (h : k < ps.length) (hp : ps.getD k default = p) : addRs r (ps.take (k + 1)) = addR (addRs r (ps.take k)) p := by rw [take_getD h hp, addRs_append]; rfl
theorem addRs_facts : ∀ (ps r : List Part), (∀ q ∈ r, 0 ≤ q.n) → (∀ q ∈ ps, 0 ≤ q.n) → (∀ q ∈ addRs r ps, 0 ≤ q.n) ∧ nsum (addRs r ps) = nsum r + nsum ps ∧ tsum (addRs r ps) ≤ tsum r + tsum ps ∧ (addRs r ps).length ≤ r.length + ps.length
  | [], r, h, _ => ⟨h, by simp [addRs, nsum], by simp [addRs, tsum], by simp [addRs]⟩
  | p :: ps, r, h, h' => by
    obtain ⟨h1, h2, h3, h4⟩ := addR_facts r p h (h' p (.head _))
    obtain ⟨k1, k2, k3, k4⟩ := addRs_facts ps (addR r p) h1 (fun q hq => h' q (.tail _ hq))
    rw [addRs_cons]
    exact ⟨k1, by simp only [nsum]; omega, by simp only [tsum]; omega, by simp only [List.length_cons]; omega⟩
theorem nsum_append (a b : List Part) : nsum (a ++ b) = nsum a + nsum b := by induction a with | nil => simp [nsum] | cons p a ih => simp only [List.cons_append, nsum, ih]; omega
theorem tsum_append (a b : List Part) : tsum (a ++ b) = tsum a + tsum b := by induction a with | nil => simp [tsum] | cons p a ih => simp only [List.cons_append, tsum, ih]; omega
theorem ManyB.step {r ps : List Part} {k : Nat} {p : Part} (h : ManyB r ps) (hk : k < ps.length) (hp : ps.getD k default = p) : OneB (addRs r (ps.take k)) p := by
  have hs : ps = ps.take k ++ p :: ps.drop (k + 1) := by rw [← drop_getD hk hp, List.take_append_drop]
  have h1 : ∀ q ∈ ps.take k, 0 ≤ q.n := fun q hq => h.pos' q (List.mem_of_mem_take hq)
  have h2 : ∀ q ∈ ps.drop (k + 1), 0 ≤ q.n := fun q hq => h.pos' q (List.mem_of_mem_drop hq)
  obtain ⟨k1, k2, k3, k4⟩ := addRs_facts (ps.take k) r h.pos h1
  have hn := h.n; have ht := h.t; have hl := h.len
  rw [hs, nsum_append] at hn; rw [hs, tsum_append] at ht
  simp only [nsum, tsum] at hn ht
  have := nsum_pos h2
  rw [List.length_take] at k4
  refine ⟨k1, h.pos' p (by rw [hs]; simp), by omega, by omega, by omega⟩
def checkF (e : List Part) (n : Int) : Int := if (sizesF e).2.2 = false ∨ (sizesF e).1 ≠ n then 30 else 0
def sizeE (e : List Part) : Int := if (sizesF e).2.2 = true then 0 else 30
def sizeF (e : List Part) : Int × Int := if (sizesF e).2.2 = true then ((sizesF e).1, (sizesF e).2.1) else (0, 0)
def replBad (n a k : Int) (s : ByteArray) : Prop := n < 0 ∨ 1099511627776 < n ∨ a < 0 ∨ n < a ∨ k < 0 ∨ n - a < k ∨ valid s = false ∨ 1099511627776 - n < (rcount s : Int)
instance (n a k : Int) (s : ByteArray) : Decidable (replBad n a k s) := by unfold replBad; infer_instance
def replF (n a k : Int) (s : ByteArray) : List Part := if replBad n a k s then [] else (addRs [] [keepP a, putP s, dropP k, keepP (n - a - k)]).reverse
def replE (n a k : Int) (s : ByteArray) : Int := if replBad n a k s then 30 else 0
def normF (l : List Part) : List Part := (addRs [] (l.filter fitsB)).reverse
def changesF (e : List Part) : Bool := e.any fun p => decide (p.kind ≠ 1)
def weightGo : List Part → Int → Int → Int × Int
  | [], a, b => (a, b)
  | p :: r, a, b => if fitsB p then weightGo r (if p.kind = 2 then a + p.n else a) (if p.kind = 3 then b + p.n else b) else (0, 0)
def weightF (e : List Part) : Int × Int := weightGo e 0 0
theorem sizesGo_ok : ∀ (e : List Part) (pv : Option Int) (f t : Int), (sizesGo pv e f t).2.2 = true → ∀ p ∈ e, fitsB p = true
  | [], _, _, _, _ => by simp
  | p :: r, pv, f, t, h => by
    simp only [sizesGo] at h
    split at h
    · cases h
    · rename_i h1
      split at h
      · cases h
      · intro q hq
        rcases List.mem_cons.1 hq with rfl | hq
        · exact stopB_fits (by simpa using h1)
        · exact sizesGo_ok r _ _ _ h q hq
theorem sizesGo_bound : ∀ (e : List Part) (pv : Option Int) (f t : Int), 0 ≤ f → f ≤ 1099511627776 → 0 ≤ t → t ≤ 1099511627776 → 0 ≤ (sizesGo pv e f t).1 ∧ (sizesGo pv e f t).1 ≤ 1099511627776 ∧ 0 ≤ (sizesGo pv e f t).2.1 ∧ (sizesGo pv e f t).2.1 ≤ 1099511627776
  | [], _, f, t, h1, h2, h3, h4 => ⟨h1, h2, h3, h4⟩
  | p :: r, pv, f, t, h1, h2, h3, h4 => by
    simp only [sizesGo]
    split
    · simp
    · rename_i hs
      split
      · simp
      · have := fitsB_n (stopB_fits (pv := pv) (p := p) (by simpa using hs))
        exact sizesGo_bound r _ _ _ (by unfold addF; split <;> omega) (by omega) (by unfold addT; split <;> omega) (by omega)
theorem sizesF_bound (e : List Part) : 0 ≤ (sizesF e).1 ∧ (sizesF e).1 ≤ 1099511627776 ∧ 0 ≤ (sizesF e).2.1 ∧ (sizesF e).2.1 ≤ 1099511627776 := sizesGo_bound e _ 0 0 (by omega) (by omega) (by omega) (by omega)
/-! ### A walk over an edit: what is left of it, and the text of the first one -/
def loadT : List Part → List Int → List Int
  | p :: _, tx => if p.kind = 2 then dec p.text else tx
  | [], tx => tx
def kindL : List Part → Int
  | [] => 0
  | p :: _ => p.kind
def takeQ (p : Part) (tx : List Int) (n : Int) : Part := ⟨p.kind, n, if p.kind = 2 then enc (tx.take n.toNat) else p.text⟩
def takeL (p : Part) (l : List Part) (n : Int) : List Part := if p.n - n = 0 then l else ⟨p.kind, p.n - n, p.text⟩ :: l
def takeT (p : Part) (l : List Part) (tx : List Int) (n : Int) : List Int := if p.n - n = 0 then loadT l (if p.kind = 2 then tx.drop n.toNat else tx) else (if p.kind = 2 then tx.drop n.toNat else tx)
theorem encs_cons (q : Part) (l : List Part) : encs (q :: l) = q.cs ++ encs l := rfl
theorem stH {q q' : Part} {l : List Part} {k : Nat} (j : Nat) (u : Value) (hk : k = j) (hq : q.cs.take j ++ [u] ++ q.cs.drop (j + 1) = q'.cs) (hj : j < 3) : (encs (q :: l)).take k ++ [u] ++ (encs (q :: l)).drop (k + 1) = encs (q' :: l) := by
  subst hk
  have hl : q.cs.length = 3 := rfl
  rw [encs_cons, encs_cons, ← hq, List.take_append, List.drop_append, hl, show k - 3 = 0 by omega, show k + 1 - 3 = 0 by omega]
  simp
theorem winTail {S : Nat → Prop} {w0 w : World} {L : List Res} {v : Value} {e : TypeId} {q : Part} {l : List Part} (h : Hp S w0 w (.win v e 3 (q :: l).length (encs (q :: l)) :: L)) : Hp S w0 w (.win (Value.cut v 1 (q :: l).length 3) e 3 l.length (encs l) :: L) := by
  have := win_cut h 1 (by simp)
  exact this
theorem lkH {p : Part} {l : List Part} {k : Nat} {v : Value} (j : Nat) (hk : k = j) (hj : j < 3) (hv : p.cs[j]? = some v) : (encs (p :: l))[k]? = some v := by
  subst hk
  rw [encs_cons, List.getElem?_append_left hj]; exact hv
end Go.SK
