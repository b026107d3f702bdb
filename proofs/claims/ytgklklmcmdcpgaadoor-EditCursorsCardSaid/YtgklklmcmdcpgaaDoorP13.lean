/- Plain words: how much is put and dropped behind another edit. -/
import Derived.Test.YtgklklmcmdcpgaaDoorP12
set_option linter.unusedVariables false
set_option linter.unusedSimpArgs false
set_option maxRecDepth 100000
namespace Go.SK
open Go
def putsN : List Part → Int
  | [] => 0
  | p :: r => (if p.kind = 2 then p.n else 0) + putsN r
def dvP (p : Part) : List Bool := if p.kind = 1 then List.replicate p.n.toNat false else if p.kind = 3 then List.replicate p.n.toNat true else []
/-- Which places an edit drops. -/
def dv : List Part → List Bool
  | [] => []
  | p :: r => dvP p ++ dv r
theorem dv_len : ∀ {e : List Part}, FitsU e → ((dv e).length : Int) = fromS e
  | [], _ => rfl
  | p :: r, h => by
    have h1 := h p (.head _)
    have h0 := h1.1
    simp only [dv, List.length_append, fromS, dvP]
    have := dv_len h.tail
    rcases h1.kinds with k | k | k <;> simp [k] <;> omega
theorem dv_cut {x : Part} (hk : ¬ x.kind = 2) {n : Int} (h1 : 1 ≤ n) (h2 : n ≤ x.n) (xs : List Part) : dv (x :: xs) = dvP (takeP x n) ++ dv (restP x xs n) := by
  have kx : (takeP x n).kind = x.kind := rfl
  have nx : (takeP x n).n = n := rfl
  unfold restP
  split
  · have : x.n = n := by omega
    subst this
    simp only [dv, dvP, kx, nx]
  · have kl : (leftP x n).kind = x.kind := rfl
    have nl : (leftP x n).n = x.n - n := rfl
    have hN : x.n.toNat = n.toNat + (x.n - n).toNat := by omega
    simp only [dv, dvP, kx, nx, kl, nl]
    rw [← List.append_assoc]
    congr 1
    split
    · rw [hN, List.replicate_append_replicate]
    · split
      · rw [hN, List.replicate_append_replicate]
      · rfl
theorem putsN_cut {x : Part} (hk : ¬ x.kind = 2) (xs : List Part) (n : Int) : putsN (restP x xs n) = putsN (x :: xs) := by
  unfold restP
  split
  · simp only [putsN, if_neg hk]; omega
  · have kl : (leftP x n).kind = x.kind := rfl
    simp only [putsN, kl, if_neg hk]
theorem dvP_len {x : Part} {n : Int} (hk : ¬ x.kind = 2) (h3 : x.kind = 1 ∨ x.kind = 3) : (dvP (takeP x n)).length = n.toNat := by
  have kx : (takeP x n).kind = x.kind := rfl
  have nx : (takeP x n).n = n := rfl
  simp only [dvP, kx, nx]
  rcases h3 with k | k <;> simp [k]
abbrev fls : Int → Bool := fun _ => false
theorem tr_dv : ∀ (f : Nat) (xs ys : List Part), Fits xs → Fits ys → fromS xs = fromS ys → xs.length + ys.length ≤ f →
    putsN (trGo f xs ys).1 = putsN xs ∧ dv (trGo f xs ys).1 = (runS fls ys (dv xs)).1
  | 0, xs, ys, hx, hy, hb, hf => by
    obtain rfl : xs = [] := List.length_eq_zero_iff.1 (by omega)
    obtain rfl : ys = [] := List.length_eq_zero_iff.1 (by omega)
    exact ⟨rfl, rfl⟩
  | f + 1, xs, ys, hx, hy, hb, hf => by
    by_cases h0 : kindL xs = 0 ∧ kindL ys = 0
    · obtain rfl := kindL_nil hx h0.1
      obtain rfl := kindL_nil hy h0.2
      rw [trGo_stop h0]
      exact ⟨rfl, rfl⟩
    · by_cases h3 : kindL xs = 2
      · obtain ⟨x, xs', rfl, hk⟩ := kindL_cons h3 (by omega)
        rw [trGo_x h3]
        simp only [fromS, List.length_cons, if_pos hk] at hb hf
        obtain ⟨i1, i2⟩ := tr_dv f xs' ys hx.tail hy (by omega) (by omega)
        have hd : dvP x = [] := by unfold dvP; rw [if_neg (by omega), if_neg (by omega)]
        simp only [putsN, dv, i1, i2, hd, List.nil_append, and_self]
      · by_cases h2 : kindL ys = 2
        · obtain ⟨y, ys', rfl, hk⟩ := kindL_cons h2 (by omega)
          rw [trGo_y h3 h2]
          have hfy := fitU_of (hy y (.head _))
          simp only [fromS, List.length_cons, if_pos hk] at hb hf
          obtain ⟨i1, i2⟩ := tr_dv f xs ys' hx hy.tail (by omega) (by omega)
          have kk : (keepP y.n).kind = 1 := rfl
          have kn : (keepP y.n).n = y.n := rfl
          have hl := put_len fls hfy hk
          have hm : (dec y.text).map fls = List.replicate y.n.toNat false := by
            rw [List.eq_replicate_iff]
            exact ⟨hl, fun b hb => by obtain ⟨a, _, rfl⟩ := List.mem_map.1 hb; rfl⟩
          refine ⟨by simp only [putsN, i1, kk]; rw [if_neg (by omega)]; omega, ?_⟩
          rw [runS_cons, (ot_put fls hk _).1, (ot_put fls hk _).2, hm, ← i2]
          simp only [dv, dvP, kk, kn, if_true]
        · have hxs : xs ≠ [] := by
            rintro rfl
            cases ys with
            | nil => exact h0 ⟨rfl, rfl⟩
            | cons y ys' =>
              have h1 := fitsB_n (hy y (.head _)); have h4 := fromS_posU (fitsU_of hy.tail)
              have hy' : ¬ y.kind = 2 := h2
              simp only [fromS, if_neg hy'] at hb; omega
          obtain ⟨x, xs', rfl⟩ := List.exists_cons_of_ne_nil hxs
          have hx' : ¬ x.kind = 2 := h3
          have hnx := fitsB_n (hx x (.head _)); have hnx2 := fromS_posU (fitsU_of hx.tail)
          have hys : ys ≠ [] := by
            rintro rfl
            simp only [fromS, if_neg hx'] at hb; omega
          obtain ⟨y, ys', rfl⟩ := List.exists_cons_of_ne_nil hys
          have hy' : ¬ y.kind = 2 := h2
          have hny := fitsB_n (hy y (.head _)); have hny2 := fromS_posU (fitsU_of hy.tail)
          obtain ⟨m1, m2, m3⟩ := minI_le x.n y.n
          have hll := both_len x y xs' ys'
          have rx := rest_from x xs' (minI x.n y.n); have ry := rest_from y ys' (minI x.n y.n)
          rw [trGo_b h0 h3 h2]
          obtain ⟨tx1, tx2⟩ := take_facts hx (n := minI x.n y.n) (by omega) m1
          obtain ⟨ty1, ty2⟩ := take_facts hy (n := minI x.n y.n) (by omega) m2
          generalize hN : minI x.n y.n = n at *
          have hn1 : 1 ≤ n := by omega
          have kx : (takeP x n).kind = x.kind := rfl
          have ky : (takeP y n).kind = y.kind := rfl
          have nx : (takeP x n).n = n := rfl
          have ny : (takeP y n).n = n := rfl
          rw [if_neg hx'] at rx
          rw [if_neg hy'] at ry
          simp only [List.length_cons] at hf
          have ky3 : y.kind = 1 ∨ y.kind = 3 := by have := (fitU_of (hy y (.head _))).kinds; omega
          have kx3 : x.kind = 1 ∨ x.kind = 3 := by have := (fitU_of (hx x (.head _))).kinds; omega
          obtain ⟨i1, i2⟩ := tr_dv f (restP x xs' n) (restP y ys' n) tx2 ty2 (by omega) (by omega)
          have hA := dvP_len (x := x) (n := n) hx' kx3
          rw [ot_cut fls (hy y (.head _)) hn1 m2, dv_cut hx' hn1 m1]
          have pc := putsN_cut hx' xs' n
          rcases ky3 with ky1 | ky1
          · have hk : (takeP y n).kind = 1 := by rw [ky]; exact ky1
            rw [if_pos ky1]
            simp only [List.cons_append, List.nil_append]
            rw [(ot_keep fls hk _).1, (ot_keep fls hk _).2, ny, List.take_left' hA, List.drop_left' hA, ← i2]
            exact ⟨by rw [putsN, kx, if_neg hx', i1, pc]; omega, rfl⟩
          · have hk : (takeP y n).kind = 3 := by rw [ky]; exact ky1
            rw [if_neg (show ¬ y.kind = 1 by omega)]
            simp only [List.nil_append]
            rw [(ot_drop fls hk _).1, (ot_drop fls hk _).2, ny, List.drop_left' hA, ← i2]
            exact ⟨by rw [i1, pc], rfl⟩
end Go.SK
