/- Plain words: what transformation and the inverse do; what composition makes is an edit. -/
import Derived.Test.YtgklklmcmdcpgaaDoorP10
set_option linter.unusedVariables false
set_option linter.unusedSimpArgs false
set_option maxRecDepth 100000
namespace Go.SK
open Go
section
variable {β : Type} (ι : Int → β)
theorem put_len {x : Part} (h : FitU x) (k : x.kind = 2) : ((dec x.text).map ι).length = x.n.toNat := by
  have : ((dec x.text).length : Int) = x.n := by rcases h.2 with y | y | y <;> first | omega | exact y.2.2
  rw [List.length_map]; omega
theorem keepP_fit {n : Int} (h : 1 ≤ n) : FitU (keepP n) := ⟨h, .inl ⟨rfl, rfl⟩⟩
theorem tr_run : ∀ (f : Nat) (xs ys : List Part) (l : List β), Fits xs → Fits ys → fromS xs = fromS ys → xs.length + ys.length ≤ f → (l.length : Int) = fromS xs →
    FitsU (trGo f xs ys).1 ∧ FitsU (trGo f xs ys).2 ∧ fromS (trGo f xs ys).1 = toS ys ∧ fromS (trGo f xs ys).2 = toS xs ∧ (runS ι (trGo f xs ys).1 (runS ι ys l).1).1 = (runS ι (trGo f xs ys).2 (runS ι xs l).1).1
  | 0, xs, ys, l, hx, hy, hb, hf, hl => by
    obtain rfl : xs = [] := List.length_eq_zero_iff.1 (by omega)
    obtain rfl : ys = [] := List.length_eq_zero_iff.1 (by omega)
    exact ⟨fun _ h => (by cases h), fun _ h => (by cases h), rfl, rfl, rfl⟩
  | f + 1, xs, ys, l, hx, hy, hb, hf, hl => by
    by_cases h0 : kindL xs = 0 ∧ kindL ys = 0
    · obtain rfl := kindL_nil hx h0.1
      obtain rfl := kindL_nil hy h0.2
      rw [trGo_stop h0]
      exact ⟨fun _ h => (by cases h), fun _ h => (by cases h), rfl, rfl, rfl⟩
    · by_cases h3 : kindL xs = 2
      · obtain ⟨x, xs', rfl, hk⟩ := kindL_cons h3 (by omega)
        rw [trGo_x h3]
        have hn := fitsB_n (hx x (.head _))
        have hfx := fitU_of (hx x (.head _))
        simp only [fromS, toS, List.length_cons, if_pos hk] at hb hf hl ⊢
        rw [if_neg (show ¬ x.kind = 3 by omega)]
        obtain ⟨i1, i2, i3, i4, i5⟩ := tr_run f xs' ys l hx.tail hy (by omega) (by omega) (by omega)
        have kk : (keepP x.n).kind = 1 := rfl
        have kn : (keepP x.n).n = x.n := rfl
        refine ⟨FitsU.cons hfx i1, FitsU.cons (keepP_fit hn.1) i2, by omega, by rw [kk, kn, if_neg (by omega)]; omega, ?_⟩
        rw [runS_cons, runS_cons, runS_cons, (ot_put ι hk _).1, (ot_put ι hk _).2, (ot_put ι hk _).1, (ot_put ι hk _).2]
        simp only
        rw [(ot_keep ι kk _).1, (ot_keep ι kk _).2, kn, List.take_left' (put_len ι hfx hk), List.drop_left' (put_len ι hfx hk), i5]
      · by_cases h2 : kindL ys = 2
        · obtain ⟨y, ys', rfl, hk⟩ := kindL_cons h2 (by omega)
          rw [trGo_y h3 h2]
          have hn := fitsB_n (hy y (.head _))
          have hfy := fitU_of (hy y (.head _))
          simp only [fromS, toS, List.length_cons, if_pos hk] at hb hf hl ⊢
          rw [if_neg (show ¬ y.kind = 3 by omega)]
          obtain ⟨i1, i2, i3, i4, i5⟩ := tr_run f xs ys' l hx hy.tail (by omega) (by omega) hl
          have kk : (keepP y.n).kind = 1 := rfl
          have kn : (keepP y.n).n = y.n := rfl
          refine ⟨FitsU.cons (keepP_fit hn.1) i1, FitsU.cons hfy i2, by rw [kk, kn, if_neg (by omega)]; omega, by omega, ?_⟩
          rw [runS_cons, runS_cons, runS_cons, (ot_put ι hk _).1, (ot_put ι hk _).2, (ot_put ι hk _).1, (ot_put ι hk _).2]
          simp only
          rw [(ot_keep ι kk _).1, (ot_keep ι kk _).2, kn, List.take_left' (put_len ι hfy hk), List.drop_left' (put_len ι hfy hk), i5]
        · have hxs : xs ≠ [] := by
            rintro rfl
            cases ys with
            | nil => exact h0 ⟨rfl, rfl⟩
            | cons y ys' =>
              have h1 := fitsB_n (hy y (.head _)); have h4 := fromS_posU (fitsU_of hy.tail)
              have hy' : ¬ y.kind = 2 := h2
              simp only [fromS, if_neg hy'] at hb; omega
          obtain ⟨x, xs', rfl⟩ := List.exists_cons_of_ne_nil hxs
          have hx' : ¬ x.kind = 2 := h3
          have hnx := fitsB_n (hx x (.head _)); have hnx2 := fromS_posU (fitsU_of hx.tail)
          have hys : ys ≠ [] := by
            rintro rfl
            simp only [fromS, if_neg hx'] at hb; omega
          obtain ⟨y, ys', rfl⟩ := List.exists_cons_of_ne_nil hys
          have hy' : ¬ y.kind = 2 := h2
          have hny := fitsB_n (hy y (.head _)); have hny2 := fromS_posU (fitsU_of hy.tail)
          obtain ⟨m1, m2, m3⟩ := minI_le x.n y.n
          have hll := both_len x y xs' ys'
          have rx := rest_from x xs' (minI x.n y.n); have ry := rest_from y ys' (minI x.n y.n)
          rw [trGo_b h0 h3 h2]
          obtain ⟨tx1, tx2⟩ := take_facts hx (n := minI x.n y.n) (by omega) m1
          obtain ⟨ty1, ty2⟩ := take_facts hy (n := minI x.n y.n) (by omega) m2
          generalize hN : minI x.n y.n = n at *
          have hn1 : 1 ≤ n := by omega
          have kx : (takeP x n).kind = x.kind := rfl
          have ky : (takeP y n).kind = y.kind := rfl
          have nx : (takeP x n).n = n := rfl
          have ny : (takeP y n).n = n := rfl
          rw [if_neg hx'] at rx
          rw [if_neg hy'] at ry
          simp only [List.length_cons] at hf
          have ky3 : y.kind = 1 ∨ y.kind = 3 := by have := (fitU_of (hy y (.head _))).kinds; omega
          have kx3 : x.kind = 1 ∨ x.kind = 3 := by have := (fitU_of (hx x (.head _))).kinds; omega
          have hfr := fromS_posU (fitsU_of tx2)
          have hln : n.toNat ≤ l.length := by omega
          obtain ⟨i1, i2, i3, i4, i5⟩ := tr_run f (restP x xs' n) (restP y ys' n) (l.drop n.toNat) tx2 ty2 (by omega) (by omega) (by rw [List.length_drop]; omega)
          rw [ot_cut ι (hx x (.head _)) hn1 m1, ot_cut ι (hy y (.head _)) hn1 m2]
          have hA : (l.take n.toNat).length = n.toNat := by rw [List.length_take]; omega
          have okx : ∀ (t : List β), x.kind = 1 → ot ι (takeP x n) t = t.take n.toNat ∧ rs (takeP x n) t = t.drop n.toNat := fun t h => ot_keep ι (p := takeP x n) (by rw [kx]; exact h) t
          have oky : ∀ (t : List β), y.kind = 1 → ot ι (takeP y n) t = t.take n.toNat ∧ rs (takeP y n) t = t.drop n.toNat := fun t h => ot_keep ι (p := takeP y n) (by rw [ky]; exact h) t
          have odx : ∀ (t : List β), x.kind = 3 → ot ι (takeP x n) t = [] ∧ rs (takeP x n) t = t.drop n.toNat := fun t h => ot_drop ι (p := takeP x n) (by rw [kx]; exact h) t
          have ody : ∀ (t : List β), y.kind = 3 → ot ι (takeP y n) t = [] ∧ rs (takeP y n) t = t.drop n.toNat := fun t h => ot_drop ι (p := takeP y n) (by rw [ky]; exact h) t
          rcases kx3 with kx1 | kx1 <;> rcases ky3 with ky1 | ky1
          · rw [if_pos kx1, if_pos ky1, (okx l kx1).1, (okx l kx1).2, (oky l ky1).1, (oky l ky1).2]
            refine ⟨FitsU.cons tx1 i1, FitsU.cons ty1 i2, ?_, ?_, ?_⟩
            · simp only [List.cons_append, List.nil_append, fromS, i3, kx, nx, if_neg hx']; omega
            · simp only [List.cons_append, List.nil_append, fromS, i4, ky, ny, if_neg hy']; omega
            · simp only [List.cons_append, List.nil_append]
              rw [runS_cons, runS_cons]
              simp only
              rw [(okx _ kx1).1, (okx _ kx1).2, (oky _ ky1).1, (oky _ ky1).2, List.take_left' hA, List.drop_left' hA, List.take_left' hA, List.drop_left' hA, i5]
          · rw [if_pos kx1, if_neg (show ¬ y.kind = 1 by omega), (okx l kx1).1, (okx l kx1).2, (ody l ky1).1, (ody l ky1).2]
            refine ⟨i1, FitsU.cons ty1 i2, ?_, ?_, ?_⟩
            · simp only [List.nil_append, i3]; omega
            · simp only [List.cons_append, List.nil_append, fromS, i4, ky, ny, if_neg hy']; omega
            · simp only [List.cons_append, List.nil_append]
              rw [runS_cons]
              simp only
              rw [(ody _ ky1).1, (ody _ ky1).2, List.drop_left' hA, i5, List.nil_append]
          · rw [if_neg (show ¬ x.kind = 1 by omega), if_pos ky1, (odx l kx1).1, (odx l kx1).2, (oky l ky1).1, (oky l ky1).2]
            refine ⟨FitsU.cons tx1 i1, i2, ?_, ?_, ?_⟩
            · simp only [List.cons_append, List.nil_append, fromS, i3, kx, nx, if_neg hx']; omega
            · simp only [List.nil_append, i4]; omega
            · simp only [List.cons_append, List.nil_append]
              rw [runS_cons]
              simp only
              rw [(odx _ kx1).1, (odx _ kx1).2, List.drop_left' hA, i5, List.nil_append]
          · rw [if_neg (show ¬ x.kind = 1 by omega), if_neg (show ¬ y.kind = 1 by omega), (odx l kx1).1, (odx l kx1).2, (ody l ky1).1, (ody l ky1).2]
            refine ⟨i1, i2, ?_, ?_, ?_⟩
            · simp only [List.nil_append, i3]; omega
            · simp only [List.nil_append, i4]; omega
            · simp only [List.nil_append]
              exact i5
end
/-! ### What composition makes -/
theorem len_list (n : Int) (h : 0 ≤ n) : ((List.replicate n.toNat (0 : Int)).length : Int) = n := by rw [List.length_replicate]; omega
theorem not_compBad {a b : List Part} (h : ¬ compBad a b) : Ok a ∧ Ok b ∧ toS a = fromS b := by
  unfold compBad at h
  have ha : (sizesF a).2.2 = true := by cases hh : (sizesF a).2.2 <;> simp_all
  have hb : (sizesF b).2.2 = true := by cases hh : (sizesF b).2.2 <;> simp_all
  have oa := ok_iff.1 ha; have ob := ok_iff.1 hb
  refine ⟨oa, ob, ?_⟩
  rw [oa.sizes, ob.sizes] at h
  simp only [Bool.true_eq_false, false_or] at h
  omega
theorem compBad_iff {a b : List Part} : ¬ compBad a b ↔ Ok a ∧ Ok b ∧ toS a = fromS b := by
  refine ⟨not_compBad, fun ⟨oa, ob, e⟩ h => ?_⟩
  unfold compBad at h
  rw [oa.sizes, ob.sizes] at h
  simp only [Bool.true_eq_false, false_or] at h
  omega
theorem compGo_facts {a b : List Part} (oa : Ok a) (ob : Ok b) (e : toS a = fromS b) : FitsU (compGo (a.length + b.length) a b) ∧ fromS (compGo (a.length + b.length) a b) = fromS a ∧ toS (compGo (a.length + b.length) a b) = toS b := by
  have pa := fromS_posU oa.1; have pb := fromS_posU ob.1
  have hl := len_list (fromS a) pa.1
  obtain ⟨h1, h2, h3⟩ := comp_run (id : Int → Int) _ a b (List.replicate (fromS a).toNat 0) oa.fits ob.fits e (Nat.le_refl _) hl
  refine ⟨h1, h2, ?_⟩
  have l1 := (runS_len id (compGo (a.length + b.length) a b) (List.replicate (fromS a).toNat 0) h1 (by omega)).1
  have l2 := (runS_len id a (List.replicate (fromS a).toNat 0) oa.1 (by omega)).1
  have l3 := (runS_len id b (runS id a (List.replicate (fromS a).toNat 0)).1 ob.1 (by omega)).1
  rw [h3] at l1; omega
/-- Two edits that fit make one. -/
theorem comp_law {a b : List Part} (oa : Ok a) (ob : Ok b) (e : toS a = fromS b) :
    compE a b = 0 ∧ Ok (compF a b) ∧ fromS (compF a b) = fromS a ∧ toS (compF a b) = toS b ∧
    ∀ {β : Type} (ι : Int → β) (l : List β), (l.length : Int) = fromS a → (runS ι (compF a b) l).1 = (runS ι b (runS ι a l).1).1 := by
  obtain ⟨h1, h2, h3⟩ := compGo_facts oa ob e
  have nb := compBad_iff.2 ⟨oa, ob, e⟩
  obtain ⟨m1, m2, m3⟩ := addRs_mk (compGo (a.length + b.length) a b) [] MK.nil h1
  have z0 : fromS ([] : List Part) = 0 := rfl
  have z1 : toS ([] : List Part) = 0 := rfl
  have hok : Ok (compR a b).reverse := m1.ok (by have := oa.2.2.1; omega) (by have := ob.2.2.2; omega)
  obtain ⟨c1, c2⟩ := comp_ok nb (ok_iff.2 hok)
  have hrev := fromS_rev (compR a b)
  have hR : compR a b = addRs [] (compGo (a.length + b.length) a b) := rfl
  rw [c2]
  refine ⟨c1, hok, by rw [hrev.1, hR]; omega, by rw [hrev.2, hR]; omega, fun ι l hl => ?_⟩
  rw [hR, maker_run ι h1]
  exact (comp_run ι _ a b l oa.fits ob.fits e (Nat.le_refl _) hl).2.2
/-! ### What transformation makes -/
theorem trBad_iff {a b : List Part} : ¬ trBad a b ↔ Ok a ∧ Ok b ∧ fromS a = fromS b := by
  unfold trBad
  constructor
  · intro h
    have ha : (sizesF a).2.2 = true := by cases hh : (sizesF a).2.2 <;> simp_all
    have hb : (sizesF b).2.2 = true := by cases hh : (sizesF b).2.2 <;> simp_all
    have oa := ok_iff.1 ha; have ob := ok_iff.1 hb
    refine ⟨oa, ob, ?_⟩
    rw [oa.sizes, ob.sizes] at h
    simp only [Bool.true_eq_false, false_or] at h
    omega
  · rintro ⟨oa, ob, e⟩ h
    rw [oa.sizes, ob.sizes] at h
    simp only [Bool.true_eq_false, false_or] at h
    omega
end Go.SK
