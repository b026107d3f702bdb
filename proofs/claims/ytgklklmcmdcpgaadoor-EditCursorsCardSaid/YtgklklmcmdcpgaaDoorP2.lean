/- Plain words on edits: transformation, step by step, as the program goes. -/
import Derived.Test.YtgklklmcmdcpgaaDoorP1
set_option linter.unusedVariables false
set_option linter.unusedSimpArgs false
namespace Go.SK
open Go
theorem trGo_stop {f : Nat} {xs ys : List Part} (h : kindL xs = 0 ∧ kindL ys = 0) : trGo (f + 1) xs ys = ([], []) := by unfold trGo; rw [if_pos h]
theorem trGo_x {f : Nat} {x : Part} {xs ys : List Part} (hk : kindL (x :: xs) = 2) : trGo (f + 1) (x :: xs) ys = (x :: (trGo f xs ys).1, keepP x.n :: (trGo f xs ys).2) := by
  conv => lhs; unfold trGo
  rw [if_neg (by omega), if_pos hk]
theorem trGo_y {f : Nat} {y : Part} {xs ys : List Part} (hx : ¬ kindL xs = 2) (hk : kindL (y :: ys) = 2) : trGo (f + 1) xs (y :: ys) = (keepP y.n :: (trGo f xs ys).1, y :: (trGo f xs ys).2) := by
  conv => lhs; unfold trGo
  rw [if_neg (by omega), if_neg hx, if_pos hk]
theorem trGo_b {f : Nat} {x y : Part} {xs ys : List Part} (h0 : ¬ (kindL (x :: xs) = 0 ∧ kindL (y :: ys) = 0)) (hx : ¬ kindL (x :: xs) = 2) (hk : ¬ kindL (y :: ys) = 2) : trGo (f + 1) (x :: xs) (y :: ys) = ((if y.kind = 1 then [takeP x (minI x.n y.n)] else []) ++ (trGo f (restP x xs (minI x.n y.n)) (restP y ys (minI x.n y.n))).1,
          (if x.kind = 1 then [takeP y (minI x.n y.n)] else []) ++ (trGo f (restP x xs (minI x.n y.n)) (restP y ys (minI x.n y.n))).2) := by
  conv => lhs; unfold trGo
  rw [if_neg h0, if_neg hx, if_neg hk]
theorem keep_fits {n : Int} (h1 : 1 ≤ n) (h2 : n ≤ 1099511627776) : fitsB (keepP n) = true := fitsB_mk h1 h2 (.inl ⟨rfl, rfl⟩)
structure TInv (R1 R2 : List Part) (f : Nat) (xs ys r o lx : List Part) (tx : List Int) (ly : List Part) (ty : List Int) : Prop where
  fx : Fits xs
  fy : Fits ys
  wx : WS lx tx xs
  wy : WS ly ty ys
  bal : fromS xs = fromS ys
  mb : MB r (nsum xs + nsum ys) (xs.length + ys.length)
  mo : MB o (nsum xs + nsum ys) (xs.length + ys.length)
  fuel : xs.length + ys.length ≤ f
  g1 : addRs r (trGo f xs ys).1 = R1
  g2 : addRs o (trGo f xs ys).2 = R2
section
variable {R1 R2 : List Part} {f : Nat} {xs ys r o lx : List Part} {tx : List Int} {ly : List Part} {ty : List Int}
theorem TInv.stepX (h : TInv R1 R2 f xs ys r o lx tx ly ty) (hk : kindL lx = 2) :
    ∃ q l, lx = q :: l ∧ TakeOk q l tx q.n ∧ ManyB r [takeQ q tx q.n] ∧ ManyB o [keepP q.n] ∧ ∃ f' xs', f' < f ∧ TInv R1 R2 f' xs' ys (addRs r [takeQ q tx q.n]) (addRs o [keepP q.n]) (takeL q l q.n) (takeT q l tx q.n) ly ty := by
  rw [h.wx.kind] at hk
  obtain ⟨x, xs', rfl, hx⟩ := kindL_cons hk (by omega)
  have hn := fitsB_n (h.fx x (.head _))
  obtain ⟨q, e1, e2, e3, e4, e5, e6⟩ := h.wx.take h.fx hn.1 (Int.le_refl _)
  rw [← e2] at e4 e6
  have e5' : takeQ q tx q.n = x := by rw [e2, e5, take_all (h.fx x (.head _))]
  have hr : restP x xs' q.n = xs' := by rw [e2]; exact rest_all _ _
  have hfu := h.fuel; have hb := h.bal; have hg1 := h.g1; have hg2 := h.g2
  have hnx := (fromS_pos h.fx.tail).2.2.2
  have hny := (fromS_pos h.fy).2.2.2
  simp only [List.length_cons] at hfu
  obtain ⟨f, rfl⟩ : ∃ m, f = m + 1 := ⟨f - 1, by omega⟩
  rw [hr] at e6
  have hkf := keep_fits hn.1 hn.2
  have hkn : (keepP x.n).n = x.n := rfl
  have hfx := h.fx x (.head _)
  refine ⟨q, xs', e1, e4, by rw [e5']; exact h.mb.many hfx (by simp only [nsum]; omega) (by simp only [List.length_cons]; omega), by rw [e2]; exact h.mo.many hkf (by simp only [nsum]; omega) (by simp only [List.length_cons]; omega), f, xs', by omega, ?_⟩
  rw [e5', e2]
  rw [e2] at e6
  rw [trGo_x hk] at hg1 hg2
  refine ⟨h.fx.tail, h.fy, e6, h.wy, ?_, h.mb.add hfx (by simp only [nsum]; omega) (by simp only [List.length_cons]; omega), h.mo.add hkf (by simp only [nsum]; omega) (by simp only [List.length_cons]; omega), by omega, ?_, ?_⟩
  · simp only [fromS, if_pos hx] at hb; omega
  · rw [← hg1, addRs_cons]; rfl
  · rw [← hg2, addRs_cons]; rfl
theorem TInv.stepY (h : TInv R1 R2 f xs ys r o lx tx ly ty) (hx : ¬ kindL lx = 2) (hk : kindL ly = 2) :
    ∃ q l, ly = q :: l ∧ TakeOk q l ty q.n ∧ ManyB r [keepP q.n] ∧ ManyB o [takeQ q ty q.n] ∧ ∃ f' ys', f' < f ∧ TInv R1 R2 f' xs ys' (addRs r [keepP q.n]) (addRs o [takeQ q ty q.n]) lx tx (takeL q l q.n) (takeT q l ty q.n) := by
  rw [h.wy.kind] at hk
  rw [h.wx.kind] at hx
  obtain ⟨y, ys', rfl, hy⟩ := kindL_cons hk (by omega)
  have hn := fitsB_n (h.fy y (.head _))
  obtain ⟨q, e1, e2, e3, e4, e5, e6⟩ := h.wy.take h.fy hn.1 (Int.le_refl _)
  rw [← e2] at e4 e6
  have e5' : takeQ q ty q.n = y := by rw [e2, e5, take_all (h.fy y (.head _))]
  have hr : restP y ys' q.n = ys' := by rw [e2]; exact rest_all _ _
  have hfu := h.fuel; have hb := h.bal; have hg1 := h.g1; have hg2 := h.g2
  have hnx := (fromS_pos h.fx).2.2.2
  have hny := (fromS_pos h.fy.tail).2.2.2
  simp only [List.length_cons] at hfu
  obtain ⟨f, rfl⟩ : ∃ m, f = m + 1 := ⟨f - 1, by omega⟩
  rw [hr] at e6
  have hkf := keep_fits hn.1 hn.2
  have hkn : (keepP y.n).n = y.n := rfl
  have hfy := h.fy y (.head _)
  refine ⟨q, ys', e1, e4, by rw [e2]; exact h.mb.many hkf (by simp only [nsum]; omega) (by simp only [List.length_cons]; omega), by rw [e5']; exact h.mo.many hfy (by simp only [nsum]; omega) (by simp only [List.length_cons]; omega), f, ys', by omega, ?_⟩
  rw [e5', e2]
  rw [e2] at e6
  rw [trGo_y hx hk] at hg1 hg2
  refine ⟨h.fx, h.fy.tail, h.wx, e6, ?_, h.mb.add hkf (by simp only [nsum]; omega) (by simp only [List.length_cons]; omega), h.mo.add hfy (by simp only [nsum]; omega) (by simp only [List.length_cons]; omega), by omega, ?_, ?_⟩
  · simp only [fromS, if_pos hy] at hb; omega
  · rw [← hg1, addRs_cons]; rfl
  · rw [← hg2, addRs_cons]; rfl
theorem TInv.stepB (h : TInv R1 R2 f xs ys r o lx tx ly ty) (h0 : kindL lx ≠ 0 ∨ kindL ly ≠ 0) (hx : ¬ kindL lx = 2) (hy : ¬ kindL ly = 2) :
    ∃ q l p l', lx = q :: l ∧ ly = p :: l' ∧ TakeOk q l tx (minI q.n p.n) ∧ TakeOk p l' ty (minI q.n p.n) ∧ ManyB r [takeQ q tx (minI q.n p.n)] ∧ ManyB o [takeQ p ty (minI q.n p.n)] ∧
      ∃ f' xs' ys', f' < f ∧ TInv R1 R2 f' xs' ys' (if p.kind = 1 then addRs r [takeQ q tx (minI q.n p.n)] else r) (if q.kind = 1 then addRs o [takeQ p ty (minI q.n p.n)] else o) (takeL q l (minI q.n p.n)) (takeT q l tx (minI q.n p.n)) (takeL p l' (minI q.n p.n)) (takeT p l' ty (minI q.n p.n)) := by
  rw [h.wx.kind, h.wy.kind] at h0
  rw [h.wx.kind] at hx
  rw [h.wy.kind] at hy
  have hb := h.bal; have hfu := h.fuel; have hg1 := h.g1; have hg2 := h.g2
  have hxs : xs ≠ [] := by
    rintro rfl
    cases ys with
    | nil => simp [kindL] at h0
    | cons y ys' =>
      have h1 := fitsB_n (h.fy y (.head _)); have h2 := fromS_pos h.fy.tail
      have hy' : ¬ y.kind = 2 := hy
      simp only [fromS, if_neg hy'] at hb; omega
  obtain ⟨x, xs', rfl⟩ := List.exists_cons_of_ne_nil hxs
  have hx' : ¬ x.kind = 2 := hx
  have hnx := fitsB_n (h.fx x (.head _)); have hnx2 := fromS_pos h.fx.tail
  have hys : ys ≠ [] := by
    rintro rfl
    simp only [fromS, if_neg hx'] at hb; omega
  obtain ⟨y, ys', rfl⟩ := List.exists_cons_of_ne_nil hys
  have hy' : ¬ y.kind = 2 := hy
  have hny := fitsB_n (h.fy y (.head _)); have hny2 := fromS_pos h.fy.tail
  obtain ⟨m1, m2, m3⟩ := minI_le x.n y.n
  obtain ⟨q, e1, e2, e3, e4, e5, e6⟩ := h.wx.take h.fx (n := minI x.n y.n) (by omega) m1
  obtain ⟨p, k1, k2, k3, k4, k5, k6⟩ := h.wy.take h.fy (n := minI x.n y.n) (by omega) m2
  simp only [List.length_cons] at hfu
  obtain ⟨f, rfl⟩ : ∃ m, f = m + 1 := ⟨f - 1, by omega⟩
  have rx := rest_nsum x xs' (minI x.n y.n); have ry := rest_nsum y ys' (minI x.n y.n)
  have lx' := rest_len x xs' (minI x.n y.n); have ly' := rest_len y ys' (minI x.n y.n)
  have hbx := (rest_from x xs' (minI x.n y.n)).1; have hby := (rest_from y ys' (minI x.n y.n)).1
  rw [if_neg hx'] at hbx; rw [if_neg hy'] at hby
  have hfx := rest_fits h.fx (n := minI x.n y.n) (by omega) m1
  have hfy := rest_fits h.fy (n := minI x.n y.n) (by omega) m2
  have hll : (restP x xs' (minI x.n y.n)).length + (restP y ys' (minI x.n y.n)).length + 1 ≤ xs'.length + 1 + (ys'.length + 1) := by
    rw [lx', ly']
    rcases m3 with m3 | m3
    · rw [if_pos (show x.n - minI x.n y.n = 0 by omega)]; split <;> omega
    · rw [if_pos (show y.n - minI x.n y.n = 0 by omega)]; split <;> omega
  have hbal : fromS (restP x xs' (minI x.n y.n)) = fromS (restP y ys' (minI x.n y.n)) := by omega
  rw [trGo_b (by rintro ⟨a1, a2⟩; omega) hx hy] at hg1 hg2
  have t1 := take_fits (h.fx x (.head _)) (n := minI x.n y.n) (by omega) m1
  have t2 := take_fits (h.fy y (.head _)) (n := minI x.n y.n) (by omega) m2
  have hm0 : 1 ≤ minI x.n y.n := by omega
  rw [← e2, ← k2] at e4 e5 e6 k4 k5 k6 hg1 hg2 t1 t2 hbal hll hfx hfy rx ry m1 m2 hm0
  have tn1 : (takeP x (minI q.n p.n)).n = minI q.n p.n := rfl
  have tn2 : (takeP y (minI q.n p.n)).n = minI q.n p.n := rfl
  simp only at hg1 hg2
  refine ⟨q, xs', p, ys', e1, k1, e4, k4, ?_, ?_, f, _, _, by omega, hfx, hfy, e6, k6, hbal, ?_, ?_, by omega, ?_, ?_⟩
  · rw [e5]; exact h.mb.many t1 (by simp only [nsum]; omega) (by simp only [List.length_cons]; omega)
  · rw [k5]; exact h.mo.many t2 (by simp only [nsum]; omega) (by simp only [List.length_cons]; omega)
  · split
    · rw [e5]; exact h.mb.add t1 (by omega) (by simp only [List.length_cons]; omega)
    · exact h.mb.less (by omega) (by simp only [List.length_cons]; omega)
  · split
    · rw [k5]; exact h.mo.add t2 (by omega) (by simp only [List.length_cons]; omega)
    · exact h.mo.less (by omega) (by simp only [List.length_cons]; omega)
  · rw [k3, e5]
    split
    · rename_i hk; rw [if_pos hk, addRs_append] at hg1; exact hg1
    · rename_i hk; rw [if_neg hk] at hg1; exact hg1
  · rw [e3, k5]
    split
    · rename_i hk; rw [if_pos hk, addRs_append] at hg2; exact hg2
    · rename_i hk; rw [if_neg hk] at hg2; exact hg2
theorem TInv.stop (h : TInv R1 R2 f xs ys r o lx tx ly ty) (h1 : kindL lx = 0) (h2 : kindL ly = 0) : r = R1 ∧ o = R2 := by
  have hg1 := h.g1; have hg2 := h.g2
  rw [h.wx.kind] at h1; rw [h.wy.kind] at h2
  cases f with
  | zero => exact ⟨hg1, hg2⟩
  | succ f => rw [trGo_stop ⟨h1, h2⟩] at hg1 hg2; exact ⟨hg1, hg2⟩
theorem TInv.texts (h : TInv R1 R2 f xs ys r o lx tx ly ty) : (∀ p ∈ r, p.text.size < 9223372036854775807) ∧ (∀ p ∈ o, p.text.size < 9223372036854775807) :=
  ⟨h.mb.texts (by have := (fromS_pos h.fx).2.2.2; have := (fromS_pos h.fy).2.2.2; omega), h.mo.texts (by have := (fromS_pos h.fx).2.2.2; have := (fromS_pos h.fy).2.2.2; omega)⟩
end
def trBad (a b : List Part) : Prop := (sizesF a).2.2 = false ∨ (sizesF b).2.2 = false ∨ (sizesF a).1 ≠ (sizesF b).1
instance (a b : List Part) : Decidable (trBad a b) := by unfold trBad; infer_instance
def trR1 (a b : List Part) : List Part := addRs [] (trGo (a.length + b.length) a b).1
def trR2 (a b : List Part) : List Part := addRs [] (trGo (a.length + b.length) a b).2
def trLong (a b : List Part) : Prop := (sizesF (trR1 a b).reverse).2.2 = false ∨ (sizesF (trR2 a b).reverse).2.2 = false
instance (a b : List Part) : Decidable (trLong a b) := by unfold trLong; infer_instance
def trE (a b : List Part) : Int := if trBad a b then 30 else if trLong a b then 4 else 0
def trF1 (a b : List Part) : List Part := if trE a b = 0 then (trR1 a b).reverse else []
def trF2 (a b : List Part) : List Part := if trE a b = 0 then (trR2 a b).reverse else []
theorem TInv.start {a b : List Part} (h : ¬ trBad a b) (hl : a.length ≤ 137438953472) (hl' : b.length ≤ 137438953472) : TInv (trR1 a b) (trR2 a b) (a.length + b.length) a b [] [] a (loadT a []) b (loadT b []) := by
  unfold trBad at h
  have ha : (sizesF a).2.2 = true := by cases hh : (sizesF a).2.2 <;> simp_all
  have hb : (sizesF b).2.2 = true := by cases hh : (sizesF b).2.2 <;> simp_all
  have h1 := sizesF_sum ha; have h2 := sizesF_sum hb
  have n1 := nsum_bound ha; have n2 := nsum_bound hb
  exact ⟨h1.2.2, h2.2.2, WS.start _ h1.2.2, WS.start _ h2.2.2, by rw [← h1.1, ← h2.1]; exact (by simpa [ha, hb] using h), MB.nil (by omega) (by omega), MB.nil (by omega) (by omega), Nat.le_refl _, rfl, rfl⟩
theorem tr_bad {a b : List Part} (h : trBad a b) : trE a b = 30 ∧ trF1 a b = [] ∧ trF2 a b = [] := by
  have h1 : trE a b = 30 := if_pos h
  exact ⟨h1, if_neg (by rw [h1]; decide), if_neg (by rw [h1]; decide)⟩
theorem tr_long {a b : List Part} (h : ¬ trBad a b) (h2 : trLong a b) : trE a b = 4 ∧ trF1 a b = [] ∧ trF2 a b = [] := by
  have h1 : trE a b = 4 := by rw [trE, if_neg h, if_pos h2]
  exact ⟨h1, if_neg (by rw [h1]; decide), if_neg (by rw [h1]; decide)⟩
theorem tr_ok {a b : List Part} (h : ¬ trBad a b) (h2 : ¬ trLong a b) : trE a b = 0 ∧ trF1 a b = (trR1 a b).reverse ∧ trF2 a b = (trR2 a b).reverse := by
  have h1 : trE a b = 0 := by rw [trE, if_neg h, if_neg h2]
  exact ⟨h1, if_pos h1, if_pos h1⟩
end Go.SK
