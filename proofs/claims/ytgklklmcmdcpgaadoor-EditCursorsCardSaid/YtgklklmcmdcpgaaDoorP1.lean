/- Plain words on edits: composition and transformation, step by step, as the program goes. -/
import Derived.Test.YtgklklmcmdcpgaaDoorP0
set_option linter.unusedVariables false
set_option linter.unusedSimpArgs false
namespace Go.SK
open Go
def minI (a b : Int) : Int := if b < a then b else a
def compGo : Nat → List Part → List Part → List Part
  | 0, _, _ => []
  | f + 1, xs, ys =>
    if kindL xs = 0 ∧ kindL ys = 0 then []
    else if kindL xs = 3 then (match xs with
      | x :: xs' => x :: compGo f xs' ys
      | [] => [])
    else if kindL ys = 2 then (match ys with
      | y :: ys' => y :: compGo f xs ys'
      | [] => [])
    else match xs, ys with
      | x :: xs', y :: ys' => (if y.kind = 1 then [takeP x (minI x.n y.n)] else if x.kind = 1 then [takeP y (minI x.n y.n)] else []) ++ compGo f (restP x xs' (minI x.n y.n)) (restP y ys' (minI x.n y.n))
      | _, _ => []
def trGo : Nat → List Part → List Part → List Part × List Part
  | 0, _, _ => ([], [])
  | f + 1, xs, ys =>
    if kindL xs = 0 ∧ kindL ys = 0 then ([], [])
    else if kindL xs = 2 then (match xs with
      | x :: xs' => (x :: (trGo f xs' ys).1, keepP x.n :: (trGo f xs' ys).2)
      | [] => ([], []))
    else if kindL ys = 2 then (match ys with
      | y :: ys' => (keepP y.n :: (trGo f xs ys').1, y :: (trGo f xs ys').2)
      | [] => ([], []))
    else match xs, ys with
      | x :: xs', y :: ys' => ((if y.kind = 1 then [takeP x (minI x.n y.n)] else []) ++ (trGo f (restP x xs' (minI x.n y.n)) (restP y ys' (minI x.n y.n))).1,
          (if x.kind = 1 then [takeP y (minI x.n y.n)] else []) ++ (trGo f (restP x xs' (minI x.n y.n)) (restP y ys' (minI x.n y.n))).2)
      | _, _ => ([], [])
theorem compGo_stop {f : Nat} {xs ys : List Part} (h : kindL xs = 0 ∧ kindL ys = 0) : compGo (f + 1) xs ys = [] := by unfold compGo; rw [if_pos h]
theorem compGo_x {f : Nat} {x : Part} {xs ys : List Part} (hk : kindL (x :: xs) = 3) : compGo (f + 1) (x :: xs) ys = x :: compGo f xs ys := by
  conv => lhs; unfold compGo
  rw [if_neg (by omega), if_pos hk]
theorem compGo_y {f : Nat} {y : Part} {xs ys : List Part} (hx : ¬ kindL xs = 3) (hk : kindL (y :: ys) = 2) : compGo (f + 1) xs (y :: ys) = y :: compGo f xs ys := by
  conv => lhs; unfold compGo
  rw [if_neg (by omega), if_neg hx, if_pos hk]
theorem compGo_b {f : Nat} {x y : Part} {xs ys : List Part} (h0 : ¬ (kindL (x :: xs) = 0 ∧ kindL (y :: ys) = 0)) (hx : ¬ kindL (x :: xs) = 3) (hk : ¬ kindL (y :: ys) = 2) : compGo (f + 1) (x :: xs) (y :: ys) = (if y.kind = 1 then [takeP x (minI x.n y.n)] else if x.kind = 1 then [takeP y (minI x.n y.n)] else []) ++ compGo f (restP x xs (minI x.n y.n)) (restP y ys (minI x.n y.n)) := by
  conv => lhs; unfold compGo
  rw [if_neg h0, if_neg hx, if_neg hk]
theorem kindL_cons {xs : List Part} {k : Int} (h : kindL xs = k) (hk : k ≠ 0) : ∃ x xs', xs = x :: xs' ∧ x.kind = k := by
  cases xs with
  | nil => exact absurd h.symm hk
  | cons x xs' => exact ⟨x, xs', rfl, h⟩
theorem WS.nil {l : List Part} {tx : List Int} {ps : List Part} (h : WS l tx ps) (hl : ps = []) : l = [] := by subst hl; exact h
/-- A maker's bounds. -/
structure MB (r : List Part) (n k : Int) : Prop where
  pos : ∀ q ∈ r, 0 ≤ q.n
  n : nsum r + n ≤ 17592186044416
  t : (tsum r : Int) ≤ 4 * nsum r
  len : (r.length : Int) + k ≤ 549755813888
theorem MB.many {r : List Part} {n k : Int} (h : MB r n k) {p : Part} (hp : fitsB p = true) (hn : p.n ≤ n) (hk : 1 ≤ k) : ManyB r [p] := by
  have h1 := fitsB_n hp; have h2 := fits_size hp; have h3 := h.n; have h4 := h.t; have h5 := h.len
  refine ⟨h.pos, fun q hq => by rw [List.mem_singleton] at hq; subst hq; omega, ?_, ?_, by simp only [List.length_singleton]; omega⟩
  · simp only [nsum]; omega
  · simp only [tsum]; omega
theorem MB.add {r : List Part} {n k n' k' : Int} (h : MB r n k) {p : Part} (hp : fitsB p = true) (hn : n' + p.n ≤ n) (hk : k' + 1 ≤ k) : MB (addRs r [p]) n' k' := by
  have h1 := fitsB_n hp; have h2 := fits_size hp; have h3 := h.n; have h4 := h.t; have h5 := h.len
  obtain ⟨a1, a2, a3, a4⟩ := addRs_facts [p] r h.pos (fun q hq => by rw [List.mem_singleton] at hq; subst hq; omega)
  simp only [nsum, tsum, List.length_singleton] at a2 a3 a4
  exact ⟨a1, by omega, by omega, by omega⟩
theorem MB.less {r : List Part} {n k n' k' : Int} (h : MB r n k) (hn : n' ≤ n) (hk : k' ≤ k) : MB r n' k' := by
  have h3 := h.n; have h5 := h.len
  exact ⟨h.pos, by omega, h.t, by omega⟩
theorem tsum_mem : ∀ {r : List Part} {p : Part}, p ∈ r → p.text.size ≤ tsum r
  | q :: r, p, h => by
    simp only [tsum]
    rcases List.mem_cons.1 h with rfl | h
    · omega
    · have := tsum_mem h; omega
theorem MB.texts {r : List Part} {n k : Int} (h : MB r n k) (hn : 0 ≤ n) : ∀ p ∈ r, p.text.size < 9223372036854775807 := fun p hp => by
  have h1 := tsum_mem hp; have h2 := h.t; have h3 := h.n
  omega
theorem MB.nil {n k : Int} (hn : n ≤ 17592186044416) (hk : k ≤ 549755813888) : MB [] n k := ⟨by simp, by simp only [nsum]; omega, by simp [tsum, nsum], by simp only [List.length_nil]; omega⟩
/-- What a take asks. -/
structure TakeOk (q : Part) (l : List Part) (tx : List Int) (n : Int) : Prop where
  n0 : 0 ≤ n
  n1 : n ≤ q.n
  n2 : q.n ≤ 1099511627776
  tx : q.kind = 2 → n.toNat ≤ tx.length
  hs : ∀ p ∈ l, p.text.size ≤ 70368744177664
theorem WS.take {l : List Part} {tx : List Int} {p : Part} {r : List Part} (h : WS l tx (p :: r)) (hf : Fits (p :: r)) {n : Int} (h1 : 1 ≤ n) (h2 : n ≤ p.n) :
    ∃ q, l = q :: r ∧ q.n = p.n ∧ q.kind = p.kind ∧ TakeOk q r tx n ∧ takeQ q tx n = takeP p n ∧ WS (takeL q r n) (takeT q r tx n) (restP p r n) := by
  obtain ⟨q, e1, e2, e3, e4, e5⟩ := h.step hf h1 h2
  have hn := fitsB_n (hf p (.head _))
  exact ⟨q, e1, e2, by have := congrArg Part.kind e4; simpa [takeQ, takeP] using this, ⟨by omega, by omega, by omega, e3, fun x hx => by have := fits_sizeN (hf.tail x hx); omega⟩, e4, e5⟩
structure CInv (R0 : List Part) (f : Nat) (xs ys r lx : List Part) (tx : List Int) (ly : List Part) (ty : List Int) : Prop where
  fx : Fits xs
  fy : Fits ys
  wx : WS lx tx xs
  wy : WS ly ty ys
  bal : toS xs = fromS ys
  mb : MB r (nsum xs + nsum ys) (xs.length + ys.length)
  fuel : xs.length + ys.length ≤ f
  go : addRs r (compGo f xs ys) = R0
section
variable {R0 : List Part} {f : Nat} {xs ys r lx : List Part} {tx : List Int} {ly : List Part} {ty : List Int}
theorem CInv.stepX (h : CInv R0 f xs ys r lx tx ly ty) (hk : kindL lx = 3) :
    ∃ q l, lx = q :: l ∧ TakeOk q l tx q.n ∧ ManyB r [takeQ q tx q.n] ∧ ∃ f' xs', f' < f ∧ CInv R0 f' xs' ys (addRs r [takeQ q tx q.n]) (takeL q l q.n) (takeT q l tx q.n) ly ty := by
  rw [h.wx.kind] at hk
  obtain ⟨x, xs', rfl, hx⟩ := kindL_cons hk (by omega)
  have hn := fitsB_n (h.fx x (.head _))
  obtain ⟨q, e1, e2, e3, e4, e5, e6⟩ := h.wx.take h.fx hn.1 (Int.le_refl _)
  rw [← e2] at e4 e6
  have e5' : takeQ q tx q.n = x := by rw [e2, e5, take_all (h.fx x (.head _))]
  have hr : restP x xs' q.n = xs' := by rw [e2]; exact rest_all _ _
  have hfu := h.fuel; have hb := h.bal; have hgo := h.go
  have hnx := (fromS_pos h.fx.tail).2.2.2
  have hny := (fromS_pos h.fy).2.2.2
  simp only [List.length_cons] at hfu
  obtain ⟨f, rfl⟩ : ∃ m, f = m + 1 := ⟨f - 1, by omega⟩
  rw [hr] at e6
  refine ⟨q, xs', e1, e4, by rw [e5']; exact h.mb.many (h.fx x (.head _)) (by simp only [nsum]; omega) (by simp only [List.length_cons]; omega), f, xs', by omega, ?_⟩
  rw [e5']
  refine ⟨h.fx.tail, h.fy, e6, h.wy, ?_, h.mb.add (h.fx x (.head _)) (by simp only [nsum]; omega) (by simp only [List.length_cons]; omega), by omega, ?_⟩
  · simp only [toS, if_pos hx] at hb; omega
  · rw [compGo_x hk] at hgo
    rw [← hgo, addRs_cons]; rfl
theorem CInv.stepY (h : CInv R0 f xs ys r lx tx ly ty) (hx : ¬ kindL lx = 3) (hk : kindL ly = 2) :
    ∃ q l, ly = q :: l ∧ TakeOk q l ty q.n ∧ ManyB r [takeQ q ty q.n] ∧ ∃ f' ys', f' < f ∧ CInv R0 f' xs ys' (addRs r [takeQ q ty q.n]) lx tx (takeL q l q.n) (takeT q l ty q.n) := by
  rw [h.wy.kind] at hk
  rw [h.wx.kind] at hx
  obtain ⟨y, ys', rfl, hy⟩ := kindL_cons hk (by omega)
  have hn := fitsB_n (h.fy y (.head _))
  obtain ⟨q, e1, e2, e3, e4, e5, e6⟩ := h.wy.take h.fy hn.1 (Int.le_refl _)
  rw [← e2] at e4 e6
  have e5' : takeQ q ty q.n = y := by rw [e2, e5, take_all (h.fy y (.head _))]
  have hr : restP y ys' q.n = ys' := by rw [e2]; exact rest_all _ _
  have hfu := h.fuel; have hb := h.bal; have hgo := h.go
  have hnx := (fromS_pos h.fx).2.2.2
  have hny := (fromS_pos h.fy.tail).2.2.2
  simp only [List.length_cons] at hfu
  obtain ⟨f, rfl⟩ : ∃ m, f = m + 1 := ⟨f - 1, by omega⟩
  rw [hr] at e6
  refine ⟨q, ys', e1, e4, by rw [e5']; exact h.mb.many (h.fy y (.head _)) (by simp only [nsum]; omega) (by simp only [List.length_cons]; omega), f, ys', by omega, ?_⟩
  rw [e5']
  refine ⟨h.fx, h.fy.tail, h.wx, e6, ?_, h.mb.add (h.fy y (.head _)) (by simp only [nsum]; omega) (by simp only [List.length_cons]; omega), by omega, ?_⟩
  · simp only [fromS, if_pos hy] at hb; omega
  · rw [compGo_y hx hk] at hgo
    rw [← hgo, addRs_cons]; rfl
theorem minI_le (a b : Int) : minI a b ≤ a ∧ minI a b ≤ b ∧ (minI a b = a ∨ minI a b = b) := by unfold minI; split <;> omega
theorem CInv.stepB (h : CInv R0 f xs ys r lx tx ly ty) (h0 : kindL lx ≠ 0 ∨ kindL ly ≠ 0) (hx : ¬ kindL lx = 3) (hy : ¬ kindL ly = 2) :
    ∃ q l p l', lx = q :: l ∧ ly = p :: l' ∧ TakeOk q l tx (minI q.n p.n) ∧ TakeOk p l' ty (minI q.n p.n) ∧
      (p.kind = 1 → ManyB r [takeQ q tx (minI q.n p.n)] ∧ ∃ f' xs' ys', f' < f ∧ CInv R0 f' xs' ys' (addRs r [takeQ q tx (minI q.n p.n)]) (takeL q l (minI q.n p.n)) (takeT q l tx (minI q.n p.n)) (takeL p l' (minI q.n p.n)) (takeT p l' ty (minI q.n p.n))) ∧
      (¬ p.kind = 1 → q.kind = 1 → ManyB r [takeQ p ty (minI q.n p.n)] ∧ ∃ f' xs' ys', f' < f ∧ CInv R0 f' xs' ys' (addRs r [takeQ p ty (minI q.n p.n)]) (takeL q l (minI q.n p.n)) (takeT q l tx (minI q.n p.n)) (takeL p l' (minI q.n p.n)) (takeT p l' ty (minI q.n p.n))) ∧
      (¬ p.kind = 1 → ¬ q.kind = 1 → ∃ f' xs' ys', f' < f ∧ CInv R0 f' xs' ys' r (takeL q l (minI q.n p.n)) (takeT q l tx (minI q.n p.n)) (takeL p l' (minI q.n p.n)) (takeT p l' ty (minI q.n p.n))) := by
  rw [h.wx.kind, h.wy.kind] at h0
  rw [h.wx.kind] at hx
  rw [h.wy.kind] at hy
  have hb := h.bal; have hfu := h.fuel; have hgo := h.go
  have hxs : xs ≠ [] := by
    rintro rfl
    cases ys with
    | nil => simp [kindL] at h0
    | cons y ys' =>
      have h1 := fitsB_n (h.fy y (.head _)); have h2 := fromS_pos h.fy.tail
      have hy' : ¬ y.kind = 2 := hy
      simp only [toS, fromS, if_neg hy'] at hb; omega
  obtain ⟨x, xs', rfl⟩ := List.exists_cons_of_ne_nil hxs
  have hx' : ¬ x.kind = 3 := hx
  have hnx := fitsB_n (h.fx x (.head _)); have hnx2 := fromS_pos h.fx.tail
  have hys : ys ≠ [] := by
    rintro rfl
    simp only [toS, fromS, if_neg hx'] at hb; omega
  obtain ⟨y, ys', rfl⟩ := List.exists_cons_of_ne_nil hys
  have hy' : ¬ y.kind = 2 := hy
  have hny := fitsB_n (h.fy y (.head _)); have hny2 := fromS_pos h.fy.tail
  obtain ⟨m1, m2, m3⟩ := minI_le x.n y.n
  obtain ⟨q, e1, e2, e3, e4, e5, e6⟩ := h.wx.take h.fx (n := minI x.n y.n) (by omega) m1
  obtain ⟨p, g1, g2, g3, g4, g5, g6⟩ := h.wy.take h.fy (n := minI x.n y.n) (by omega) m2
  simp only [List.length_cons] at hfu
  obtain ⟨f, rfl⟩ : ∃ m, f = m + 1 := ⟨f - 1, by omega⟩
  have rx := rest_nsum x xs' (minI x.n y.n); have ry := rest_nsum y ys' (minI x.n y.n)
  have lx' := rest_len x xs' (minI x.n y.n); have ly' := rest_len y ys' (minI x.n y.n)
  have hbx := (rest_from x xs' (minI x.n y.n)).2; have hby := (rest_from y ys' (minI x.n y.n)).1
  rw [if_neg hx'] at hbx; rw [if_neg hy'] at hby
  have hfx := rest_fits h.fx (n := minI x.n y.n) (by omega) m1
  have hfy := rest_fits h.fy (n := minI x.n y.n) (by omega) m2
  have hll : (restP x xs' (minI x.n y.n)).length + (restP y ys' (minI x.n y.n)).length + 1 ≤ xs'.length + 1 + (ys'.length + 1) := by
    rw [lx', ly']
    rcases m3 with m3 | m3
    · rw [if_pos (show x.n - minI x.n y.n = 0 by omega)]; split <;> omega
    · rw [if_pos (show y.n - minI x.n y.n = 0 by omega)]; split <;> omega
  have hbal : toS (restP x xs' (minI x.n y.n)) = fromS (restP y ys' (minI x.n y.n)) := by omega
  rw [compGo_b (by rintro ⟨a1, a2⟩; omega) hx hy] at hgo
  have t1 := take_fits (h.fx x (.head _)) (n := minI x.n y.n) (by omega) m1
  have t2 := take_fits (h.fy y (.head _)) (n := minI x.n y.n) (by omega) m2
  have hm0 : 1 ≤ minI x.n y.n := by omega
  rw [← e2, ← g2] at e4 e5 e6 g4 g5 g6 hgo t1 t2 hbal hll hfx hfy rx ry m1 m2 hm0
  have tn1 : (takeP x (minI q.n p.n)).n = minI q.n p.n := rfl
  have tn2 : (takeP y (minI q.n p.n)).n = minI q.n p.n := rfl
  refine ⟨q, xs', p, ys', e1, g1, e4, g4, fun hk => ?_, fun hk hk' => ?_, fun hk hk' => ?_⟩
  · rw [e5]
    rw [g3] at hk
    refine ⟨h.mb.many t1 (by simp only [nsum]; omega) (by simp only [List.length_cons]; omega), f, _, _, by omega, hfx, hfy, e6, g6, hbal, h.mb.add t1 (by omega) (by simp only [List.length_cons]; omega), by omega, ?_⟩
    rw [if_pos hk, addRs_append] at hgo
    exact hgo
  · rw [g5]
    rw [g3] at hk; rw [e3] at hk'
    refine ⟨h.mb.many t2 (by simp only [nsum]; omega) (by simp only [List.length_cons]; omega), f, _, _, by omega, hfx, hfy, e6, g6, hbal, h.mb.add t2 (by omega) (by simp only [List.length_cons]; omega), by omega, ?_⟩
    rw [if_neg hk, if_pos hk', addRs_append] at hgo
    exact hgo
  · rw [g3] at hk; rw [e3] at hk'
    refine ⟨f, _, _, by omega, hfx, hfy, e6, g6, hbal, h.mb.less (by omega) (by simp only [List.length_cons]; omega), by omega, ?_⟩
    rw [if_neg hk, if_neg hk', List.nil_append] at hgo
    exact hgo
theorem CInv.stop (h : CInv R0 f xs ys r lx tx ly ty) (h1 : kindL lx = 0) (h2 : kindL ly = 0) : r = R0 := by
  have hgo := h.go
  rw [h.wx.kind] at h1; rw [h.wy.kind] at h2
  cases f with
  | zero => exact hgo
  | succ f => rw [compGo_stop ⟨h1, h2⟩] at hgo; exact hgo
end
def compBad (a b : List Part) : Prop := (sizesF a).2.2 = false ∨ (sizesF b).2.2 = false ∨ (sizesF b).1 ≠ (sizesF a).2.1
instance (a b : List Part) : Decidable (compBad a b) := by unfold compBad; infer_instance
def compR (a b : List Part) : List Part := addRs [] (compGo (a.length + b.length) a b)
def compE (a b : List Part) : Int := if compBad a b then 30 else if (sizesF (compR a b).reverse).2.2 = true then 0 else 4
def compF (a b : List Part) : List Part := if compE a b = 0 then (compR a b).reverse else []
theorem nsum_bound {e : List Part} (h : (sizesF e).2.2 = true) : 0 ≤ nsum e ∧ nsum e ≤ 2199023255552 := by
  have h1 := sizesF_sum h; have h2 := sizesF_bound e; have h3 := fromS_pos h1.2.2
  omega
theorem CInv.start {a b : List Part} (h : ¬ compBad a b) (hl : a.length ≤ 137438953472) (hl' : b.length ≤ 137438953472) : CInv (compR a b) (a.length + b.length) a b [] a (loadT a []) b (loadT b []) := by
  unfold compBad at h
  have ha : (sizesF a).2.2 = true := by cases hh : (sizesF a).2.2 <;> simp_all
  have hb : (sizesF b).2.2 = true := by cases hh : (sizesF b).2.2 <;> simp_all
  have h1 := sizesF_sum ha; have h2 := sizesF_sum hb
  have n1 := nsum_bound ha; have n2 := nsum_bound hb
  exact ⟨h1.2.2, h2.2.2, WS.start _ h1.2.2, WS.start _ h2.2.2, by rw [← h1.2.1, ← h2.1]; exact (by simpa [ha, hb] using h : (sizesF b).1 = (sizesF a).2.1).symm, MB.nil (by omega) (by omega), Nat.le_refl _, rfl⟩
theorem comp_bad {a b : List Part} (h : compBad a b) : compE a b = 30 ∧ compF a b = [] := by
  have h1 : compE a b = 30 := if_pos h
  exact ⟨h1, if_neg (by rw [h1]; decide)⟩
theorem comp_long {a b : List Part} (h : ¬ compBad a b) (h2 : ¬ (sizesF (compR a b).reverse).2.2 = true) : compE a b = 4 ∧ compF a b = [] := by
  have h1 : compE a b = 4 := by rw [compE, if_neg h, if_neg h2]
  exact ⟨h1, if_neg (by rw [h1]; decide)⟩
theorem comp_ok {a b : List Part} (h : ¬ compBad a b) (h2 : (sizesF (compR a b).reverse).2.2 = true) : compE a b = 0 ∧ compF a b = (compR a b).reverse := by
  have h1 : compE a b = 0 := by rw [compE, if_neg h, if_pos h2]
  exact ⟨h1, if_pos h1⟩
theorem CInv.texts {R0 : List Part} {f : Nat} {xs ys r lx : List Part} {tx : List Int} {ly : List Part} {ty : List Int} (h : CInv R0 f xs ys r lx tx ly ty) : ∀ p ∈ r, p.text.size < 9223372036854775807 :=
  h.mb.texts (by have := (fromS_pos h.fx).2.2.2; have := (fromS_pos h.fy).2.2.2; omega)
theorem fits_small {e : List Part} (h : Fits e) : ∀ p ∈ e, p.text.size ≤ 70368744177664 := fun p hp => by have := fits_sizeN (h p hp); omega
end Go.SK
