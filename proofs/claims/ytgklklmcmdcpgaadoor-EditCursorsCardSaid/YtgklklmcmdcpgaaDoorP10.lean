/- Plain words: what composition, transformation and inverse do. -/
import Derived.Test.YtgklklmcmdcpgaaDoorP9
set_option linter.unusedVariables false
set_option linter.unusedSimpArgs false
set_option maxRecDepth 100000
namespace Go.SK
open Go
theorem fitsU_of {e : List Part} (h : Fits e) : FitsU e := fun p hp => fitU_of (h p hp)
theorem kindL_nil {e : List Part} (h : Fits e) (hk : kindL e = 0) : e = [] := by
  cases e with
  | nil => rfl
  | cons p r => have := (fitU_of (h p (.head _))).kinds; simp only [kindL] at hk; omega
theorem take_facts {x : Part} {xs : List Part} (h : Fits (x :: xs)) {n : Int} (h1 : 1 ≤ n) (h2 : n ≤ x.n) : FitU (takeP x n) ∧ Fits (restP x xs n) := ⟨fitU_of (take_fits (h x (.head _)) h1 h2), rest_fits h h1 h2⟩
/-- What a step over both takes. -/
theorem both_len (x y : Part) (xs ys : List Part) : (restP x xs (minI x.n y.n)).length + (restP y ys (minI x.n y.n)).length + 1 ≤ xs.length + 1 + (ys.length + 1) := by
  have m3 := (minI_le x.n y.n).2.2
  rw [rest_len, rest_len]
  rcases m3 with m3 | m3
  · rw [if_pos (show x.n - minI x.n y.n = 0 by omega)]; split <;> omega
  · rw [if_pos (show y.n - minI x.n y.n = 0 by omega)]; split <;> omega
section
variable {β : Type} (ι : Int → β)
theorem ot_keep {p : Part} (h : p.kind = 1) (l : List β) : ot ι p l = l.take p.n.toNat ∧ rs p l = l.drop p.n.toNat := by unfold ot rs; simp only [if_pos h, and_self]
theorem ot_drop {p : Part} (h : p.kind = 3) (l : List β) : ot ι p l = [] ∧ rs p l = l.drop p.n.toNat := by unfold ot rs; simp only [if_neg (show ¬ p.kind = 1 by omega), if_pos h, and_self]
theorem ot_put {p : Part} (h : p.kind = 2) (l : List β) : ot ι p l = (dec p.text).map ι ∧ rs p l = l := by unfold ot rs; simp only [if_neg (show ¬ p.kind = 1 by omega), if_neg (show ¬ p.kind = 3 by omega), and_self]
theorem comp_run : ∀ (f : Nat) (xs ys : List Part) (l : List β), Fits xs → Fits ys → toS xs = fromS ys → xs.length + ys.length ≤ f → (l.length : Int) = fromS xs →
    FitsU (compGo f xs ys) ∧ fromS (compGo f xs ys) = fromS xs ∧ (runS ι (compGo f xs ys) l).1 = (runS ι ys (runS ι xs l).1).1
  | 0, xs, ys, l, hx, hy, hb, hf, hl => by
    obtain rfl : xs = [] := List.length_eq_zero_iff.1 (by omega)
    obtain rfl : ys = [] := List.length_eq_zero_iff.1 (by omega)
    exact ⟨fun _ h => (by cases h), rfl, rfl⟩
  | f + 1, xs, ys, l, hx, hy, hb, hf, hl => by
    by_cases h0 : kindL xs = 0 ∧ kindL ys = 0
    · obtain rfl := kindL_nil hx h0.1
      obtain rfl := kindL_nil hy h0.2
      rw [compGo_stop h0]
      exact ⟨fun _ h => (by cases h), rfl, rfl⟩
    · by_cases h3 : kindL xs = 3
      · obtain ⟨x, xs', rfl, hk⟩ := kindL_cons h3 (by omega)
        rw [compGo_x h3]
        have hn := fitsB_n (hx x (.head _))
        have hp := fromS_posU (fitsU_of hx.tail)
        simp only [fromS, toS, List.length_cons, if_pos hk] at hb hf hl ⊢
        rw [if_neg (show ¬ x.kind = 2 by omega)] at hl ⊢
        obtain ⟨i1, i2, i3⟩ := comp_run f xs' ys (l.drop x.n.toNat) hx.tail hy (by omega) (by omega) (by rw [List.length_drop]; omega)
        refine ⟨FitsU.cons (fitU_of (hx x (.head _))) i1, by rw [i2], ?_⟩
        rw [runS_cons, runS_cons, (ot_drop ι hk l).1, (ot_drop ι hk l).2, i3]
        rfl
      · by_cases h2 : kindL ys = 2
        · obtain ⟨y, ys', rfl, hk⟩ := kindL_cons h2 (by omega)
          rw [compGo_y h3 h2]
          simp only [fromS, toS, List.length_cons, if_pos hk] at hb hf hl ⊢
          obtain ⟨i1, i2, i3⟩ := comp_run f xs ys' l hx hy.tail (by omega) (by omega) hl
          refine ⟨FitsU.cons (fitU_of (hy y (.head _))) i1, by rw [i2]; omega, ?_⟩
          rw [runS_cons, runS_cons, (ot_put ι hk _).1, (ot_put ι hk _).2, (ot_put ι hk _).1, (ot_put ι hk _).2, i3]
        · have hxs : xs ≠ [] := by
            rintro rfl
            cases ys with
            | nil => exact h0 ⟨rfl, rfl⟩
            | cons y ys' =>
              have h1 := fitsB_n (hy y (.head _)); have h4 := fromS_posU (fitsU_of hy.tail)
              have hy' : ¬ y.kind = 2 := h2
              simp only [toS, fromS, if_neg hy'] at hb; omega
          obtain ⟨x, xs', rfl⟩ := List.exists_cons_of_ne_nil hxs
          have hx' : ¬ x.kind = 3 := h3
          have hnx := fitsB_n (hx x (.head _)); have hnx2 := fromS_posU (fitsU_of hx.tail)
          have hys : ys ≠ [] := by
            rintro rfl
            simp only [toS, fromS, if_neg hx'] at hb; omega
          obtain ⟨y, ys', rfl⟩ := List.exists_cons_of_ne_nil hys
          have hy' : ¬ y.kind = 2 := h2
          have hny := fitsB_n (hy y (.head _)); have hny2 := fromS_posU (fitsU_of hy.tail)
          obtain ⟨m1, m2, m3⟩ := minI_le x.n y.n
          have hll := both_len x y xs' ys'
          have rx := rest_from x xs' (minI x.n y.n); have ry := rest_from y ys' (minI x.n y.n)
          rw [compGo_b h0 h3 h2]
          obtain ⟨tx1, tx2⟩ := take_facts hx (n := minI x.n y.n) (by omega) m1
          obtain ⟨ty1, ty2⟩ := take_facts hy (n := minI x.n y.n) (by omega) m2
          generalize hN : minI x.n y.n = n at *
          have hn1 : 1 ≤ n := by omega
          have kx : (takeP x n).kind = x.kind := rfl
          have ky : (takeP y n).kind = y.kind := rfl
          have nx : (takeP x n).n = n := rfl
          have ny : (takeP y n).n = n := rfl
          rw [if_neg hx'] at rx
          rw [if_neg hy'] at ry
          simp only [List.length_cons] at hf
          have ky3 : y.kind = 1 ∨ y.kind = 3 := by have := (fitU_of (hy y (.head _))).kinds; omega
          have kx3 : x.kind = 1 ∨ x.kind = 2 := by have := (fitU_of (hx x (.head _))).kinds; omega
          have hol := ot_len ι tx1 (l := l) (by rw [kx, nx]; split <;> rename_i hk <;> (first | rw [if_pos hk] at rx | rw [if_neg hk] at rx) <;> have := fromS_posU (fitsU_of tx2) <;> omega)
          rw [kx, nx, if_neg hx'] at hol
          have ih := comp_run f (restP x xs' n) (restP y ys' n) (rs (takeP x n) l) tx2 ty2 (by omega) (by omega) (by rw [hol.2]; omega)
          obtain ⟨i1, i2, i3⟩ := ih
          rw [ot_cut ι (hx x (.head _)) hn1 m1, ot_cut ι (hy y (.head _)) hn1 m2]
          have hA : (ot ι (takeP x n) l).length = n.toNat := by omega
          rcases ky3 with ky1 | ky1
          · rw [if_pos ky1]
            refine ⟨FitsU.cons tx1 i1, by rw [List.cons_append, List.nil_append, fromS, i2, kx, nx]; omega, ?_⟩
            rw [List.cons_append, List.nil_append, runS_cons, i3]
            simp only
            rw [(ot_keep ι (p := takeP y n) (by rw [ky]; exact ky1) _).1, (ot_keep ι (p := takeP y n) (by rw [ky]; exact ky1) _).2, ny, List.take_left' hA, List.drop_left' hA]
          · rw [if_neg (show ¬ y.kind = 1 by omega)]
            rcases kx3 with kx1 | kx1
            · rw [if_pos kx1]
              rw [if_neg (show ¬ x.kind = 2 by omega)] at rx
              refine ⟨FitsU.cons ty1 i1, by rw [List.cons_append, List.nil_append, fromS, i2, ky, ny, if_neg hy']; omega, ?_⟩
              rw [List.cons_append, List.nil_append, runS_cons]
              simp only
              rw [(ot_drop ι (p := takeP y n) (by rw [ky]; exact ky1) _).1, (ot_drop ι (p := takeP y n) (by rw [ky]; exact ky1) _).2, ny, (ot_drop ι (p := takeP y n) (by rw [ky]; exact ky1) _).1, (ot_drop ι (p := takeP y n) (by rw [ky]; exact ky1) _).2, ny, List.drop_left' hA]
              rw [(ot_keep ι (p := takeP x n) (by rw [kx]; exact kx1) l).2, nx] at i3
              rw [i3, (ot_keep ι (p := takeP x n) (by rw [kx]; exact kx1) l).2, nx]
            · rw [if_neg (show ¬ x.kind = 1 by omega), List.nil_append]
              rw [if_pos kx1] at rx
              refine ⟨i1, by rw [i2]; omega, ?_⟩
              simp only
              rw [(ot_drop ι (p := takeP y n) (by rw [ky]; exact ky1) _).1, (ot_drop ι (p := takeP y n) (by rw [ky]; exact ky1) _).2, ny, List.drop_left' hA]
              rw [(ot_put ι (p := takeP x n) (by rw [kx]; exact kx1) l).2] at i3
              rw [i3, (ot_put ι (p := takeP x n) (by rw [kx]; exact kx1) l).2]
              rfl
end
end Go.SK
