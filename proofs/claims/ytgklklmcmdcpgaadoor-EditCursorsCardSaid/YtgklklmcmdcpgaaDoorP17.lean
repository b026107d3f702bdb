/- Plain words: what is answered is an edit or nothing, and of few parts. -/
import Derived.Test.YtgklklmcmdcpgaaDoorP16
set_option linter.unusedVariables false
set_option linter.unusedSimpArgs false
set_option maxRecDepth 100000
namespace Go.SK
open Go
theorem fits_nil : Fits [] := fun p hp => by cases hp
theorem compE_z {a b : List Part} (h : compE a b = 0) : ¬ compBad a b ∧ (sizesF (compR a b).reverse).2.2 = true ∧ compF a b = (compR a b).reverse := by
  unfold compE at h
  split at h
  · cases h
  · split at h
    · rename_i h1 h2; exact ⟨h1, h2, (comp_ok h1 h2).2⟩
    · cases h
theorem compF_fits (a b : List Part) : Fits (compF a b) := by
  by_cases h : compE a b = 0
  · obtain ⟨_, h2, h3⟩ := compE_z h
    rw [h3]; exact (ok_iff.1 h2).fits
  · rw [compF, if_neg h]; exact fits_nil
theorem trE_z {a b : List Part} (h : trE a b = 0) : ¬ trBad a b ∧ ¬ trLong a b ∧ trF1 a b = (trR1 a b).reverse ∧ trF2 a b = (trR2 a b).reverse := by
  unfold trE at h
  split at h
  · cases h
  · split at h
    · cases h
    · rename_i h1 h2; exact ⟨h1, h2, (tr_ok h1 h2).2⟩
theorem trF_fits (a b : List Part) : Fits (trF1 a b) ∧ Fits (trF2 a b) := by
  by_cases h : trE a b = 0
  · obtain ⟨_, h2, h3, h4⟩ := trE_z h
    unfold trLong at h2
    rw [h3, h4]
    refine ⟨(ok_iff.1 ?_).fits, (ok_iff.1 ?_).fits⟩
    · cases hh : (sizesF (trR1 a b).reverse).2.2 <;> simp_all
    · cases hh : (sizesF (trR2 a b).reverse).2.2 <;> simp_all
  · rw [trF1, if_neg h, trF2, if_neg h]; exact ⟨fits_nil, fits_nil⟩
theorem invE_z {e : List Part} {s : ByteArray} (h : invE e s = 0) : ¬ applyBad e s ∧ (sizesF (invR e s).reverse).2.2 = true ∧ invF e s = (invR e s).reverse := by
  unfold invE at h
  split at h
  · cases h
  · split at h
    · rename_i h1 h2; exact ⟨h1, h2, (inv_ok h1 h2).2⟩
    · cases h
theorem invF_fits (e : List Part) (s : ByteArray) : Fits (invF e s) := by
  by_cases h : invE e s = 0
  · obtain ⟨_, h2, h3⟩ := invE_z h
    rw [h3]; exact (ok_iff.1 h2).fits
  · rw [invF, if_neg h]; exact fits_nil
theorem addRs_len : ∀ (ps r : List Part), (addRs r ps).length ≤ r.length + ps.length
  | [], r => by simp [addRs]
  | p :: ps, r => by
    rw [addRs_cons]
    have h1 := addRs_len ps (addR r p)
    have h2 : ∀ (r : List Part), (addR r p).length ≤ r.length + 1 := by
      intro r
      by_cases hn : p.n = 0
      · rw [addR_zero hn]; omega
      · induction r with
        | nil => rw [addR_nil hn]; simp
        | cons q r ih =>
          by_cases c1 : q.kind = p.kind
          · rw [addR_more hn c1]; simp
          · by_cases c2 : p.kind ≠ 2 ∨ q.kind ≠ 3
            · rw [addR_push hn c1 c2]; simp
            · rw [addR_deep hn c1 c2]; simp only [List.length_cons]; omega
    have := h2 r
    simp only [List.length_cons]; omega
theorem compGo_len : ∀ (f : Nat) (xs ys : List Part), (compGo f xs ys).length ≤ f
  | 0, xs, ys => by simp [compGo]
  | f + 1, xs, ys => by
    unfold compGo
    split
    · simp
    · split
      · split
        · simp only [List.length_cons]; have := compGo_len f ‹_› ys; omega
        · simp
      · split
        · split
          · simp only [List.length_cons]; have := compGo_len f xs ‹_›; omega
          · simp
        · split
          · rename_i x xs' y ys' _ _ _
            have := compGo_len f (restP x xs' (minI x.n y.n)) (restP y ys' (minI x.n y.n))
            rw [List.length_append]
            split
            · simp only [List.length_singleton]; omega
            · split <;> simp only [List.length_singleton, List.length_nil] <;> omega
          · simp
theorem compF_len (a b : List Part) : (compF a b).length ≤ a.length + b.length := by
  unfold compF
  split
  · have h1 := addRs_len (compGo (a.length + b.length) a b) []
    have h2 := compGo_len (a.length + b.length) a b
    rw [List.length_reverse]; unfold compR; simp only [List.length_nil] at h1; omega
  · simp
theorem invGo_len : ∀ (e : List Part) (l : List Int), (invGo e l).length = e.length
  | [], _ => rfl
  | p :: r, l => by
    unfold invGo
    split
    · simp [invGo_len r]
    · split <;> simp [invGo_len r]
theorem invF_len (e : List Part) (s : ByteArray) : (invF e s).length ≤ e.length := by
  unfold invF
  split
  · have h1 := addRs_len (invGo e (dec s)) []
    have h2 := invGo_len e (dec s)
    rw [List.length_reverse]; unfold invR; simp only [List.length_nil] at h1; omega
  · simp
theorem trGo_len : ∀ (f : Nat) (xs ys : List Part), (trGo f xs ys).1.length ≤ f ∧ (trGo f xs ys).2.length ≤ f
  | 0, xs, ys => by simp [trGo]
  | f + 1, xs, ys => by
    unfold trGo
    split
    · simp
    · split
      · split
        · rename_i xs' _ _
          have := trGo_len f xs' ys; simp only [List.length_cons]; omega
        · simp
      · split
        · split
          · rename_i ys' _ _
            have := trGo_len f xs ys'; simp only [List.length_cons]; omega
          · simp
        · split
          · rename_i x xs' y ys' _ _ _
            have := trGo_len f (restP x xs' (minI x.n y.n)) (restP y ys' (minI x.n y.n))
            simp only [List.length_append]
            constructor
            · split <;> simp only [List.length_singleton, List.length_nil] <;> omega
            · split <;> simp only [List.length_singleton, List.length_nil] <;> omega
          · simp
theorem trF_len (a b : List Part) : (trF1 a b).length ≤ a.length + b.length ∧ (trF2 a b).length ≤ a.length + b.length := by
  have h2 := trGo_len (a.length + b.length) a b
  unfold trF1 trF2
  split
  · have h1 := addRs_len (trGo (a.length + b.length) a b).1 []
    have h3 := addRs_len (trGo (a.length + b.length) a b).2 []
    simp only [List.length_reverse]
    unfold trR1 trR2; simp only [List.length_nil] at h1 h3; omega
  · simp
end Go.SK
