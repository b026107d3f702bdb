/- Plain words: what an edit makes of a text, and its inverse. -/
import Derived.Test.YtgklklmcmdcpgaaDoorP11
set_option linter.unusedVariables false
set_option linter.unusedSimpArgs false
set_option maxRecDepth 100000
namespace Go.SK
open Go
theorem runS_scalar : ∀ (e : List Part) (l : List Int), FitsU e → (∀ x ∈ l, scalar x) → ∀ x ∈ (runS id e l).1, scalar x
  | [], l, _, _, x, hx => by simp [runS] at hx
  | p :: r, l, h, hl, x, hx => by
    rw [runS_cons] at hx
    simp only at hx
    have hrs : ∀ y ∈ rs p l, scalar y := by
      intro y hy
      unfold rs at hy
      split at hy
      · exact hl y (List.mem_of_mem_drop hy)
      · split at hy
        · exact hl y (List.mem_of_mem_drop hy)
        · exact hl y hy
    rcases List.mem_append.1 hx with hx | hx
    · unfold ot at hx
      split at hx
      · exact hl x (List.mem_of_mem_take hx)
      · split at hx
        · cases hx
        · rename_i k1 k3
          rw [List.map_id] at hx
          have hv : valid p.text = true := by rcases (h p (.head _)).2 with y | y | y <;> first | omega | exact y.2.1
          exact dec_scalar hv x hx
    · exact runS_scalar r (rs p l) h.tail hrs x hx
theorem inv_run : ∀ (e : List Part) (l : List Int), Fits e → fromS e = l.length → (∀ x ∈ l, scalar x) →
    FitsU (invGo e l) ∧ fromS (invGo e l) = toS e ∧ toS (invGo e l) = fromS e ∧ (runS id (invGo e l) (runS id e l).1).1 = l
  | [], l, _, hl, _ => by
    obtain rfl : l = [] := List.length_eq_zero_iff.1 (by simp only [fromS] at hl; omega)
    exact ⟨fun _ h => (by cases h), rfl, rfl, rfl⟩
  | p :: r, l, h, hl, hs => by
    have hn := fitsB_n (h p (.head _))
    have hp := fromS_posU (fitsU_of h.tail)
    have hf := fitU_of (h p (.head _))
    simp only [fromS] at hl
    rw [invGo, runS_cons]
    rcases hf.kinds with k | k | k
    · rw [if_neg (by omega)] at hl
      obtain ⟨i1, i2, i3, i4⟩ := inv_run r (l.drop p.n.toNat) h.tail (by rw [List.length_drop]; omega) (fun x hx => hs x (List.mem_of_mem_drop hx))
      have hA : (l.take p.n.toNat).length = p.n.toNat := by rw [List.length_take]; omega
      rw [if_pos k, runS_cons]
      refine ⟨FitsU.cons hf i1, ?_, ?_, ?_⟩
      · simp only [fromS, toS, i2]; split <;> split <;> omega
      · simp only [fromS, toS, i3]; split <;> split <;> omega
      · simp only
        rw [(ot_keep id k l).1, (ot_keep id k l).2, (ot_keep id k _).1, (ot_keep id k _).2, List.take_left' hA, List.drop_left' hA, i4, List.take_append_drop]
    · rw [if_pos k] at hl
      obtain ⟨i1, i2, i3, i4⟩ := inv_run r l h.tail (by omega) hs
      have kd : (dropP p.n).kind = 3 := rfl
      have nd : (dropP p.n).n = p.n := rfl
      rw [if_neg (by omega), if_neg (by omega), runS_cons]
      refine ⟨FitsU.cons ⟨hn.1, .inr (.inl ⟨rfl, rfl⟩)⟩ i1, ?_, ?_, ?_⟩
      · simp only [fromS, toS, i2, kd, nd]; rw [if_neg (by omega), if_neg (by omega)]
      · simp only [fromS, toS, i3, kd, nd]; rw [if_pos trivial, if_pos k]
      · simp only
        rw [(ot_put id k l).1, (ot_put id k l).2, (ot_drop id kd _).1, (ot_drop id kd _).2, nd, List.drop_left' (put_len id hf k), i4]
        rfl
    · rw [if_neg (by omega)] at hl
      obtain ⟨i1, i2, i3, i4⟩ := inv_run r (l.drop p.n.toNat) h.tail (by rw [List.length_drop]; omega) (fun x hx => hs x (List.mem_of_mem_drop hx))
      have hA : (l.take p.n.toNat).length = p.n.toNat := by rw [List.length_take]; omega
      have hsc : ∀ x ∈ l.take p.n.toNat, scalar x := fun x hx => hs x (List.mem_of_mem_take hx)
      obtain ⟨q1, q2⟩ := put_fits hsc (by omega) (by omega)
      have kp : (putP (enc (l.take p.n.toNat))).kind = 2 := rfl
      rw [if_neg (by omega), if_pos k, runS_cons]
      refine ⟨FitsU.cons (fitU_of q1) i1, ?_, ?_, ?_⟩
      · simp only [fromS, toS, i2, kp]; rw [if_pos trivial, if_pos k]
      · simp only [fromS, toS, i3, kp, q2]; rw [if_neg (by omega), if_neg (by omega)]; omega
      · simp only
        rw [(ot_drop id k l).1, (ot_drop id k l).2, (ot_put id kp _).1, (ot_put id kp _).2, List.nil_append, i4]
        have : dec (putP (enc (l.take p.n.toNat))).text = l.take p.n.toNat := dec_enc hsc
        rw [this, List.map_id, List.take_append_drop]
theorem applyBad_iff {e : List Part} {s : ByteArray} : ¬ applyBad e s ↔ valid s = true ∧ Ok e ∧ fromS e = (dec s).length := by
  unfold applyBad
  constructor
  · intro h
    have hv : valid s = true := by cases hh : valid s <;> simp_all
    have hc : checkF e (dec s).length = 0 := by
      by_cases hc : checkF e (dec s).length = 0
      · exact hc
      · exact absurd (Or.inr hc) h
    exact ⟨hv, checkF_iff.1 hc⟩
  · rintro ⟨hv, h⟩ (h1 | h1)
    · rw [hv] at h1; cases h1
    · exact h1 (checkF_iff.2 h)
/-- What an edit makes of a text. -/
theorem apply_law {e : List Part} {s : ByteArray} (hv : valid s = true) (h : Ok e) (hn : fromS e = (dec s).length) :
    applyE e s = 0 ∧ applyF e s = enc (runS id e (dec s)).1 ∧ valid (applyF e s) = true ∧ dec (applyF e s) = (runS id e (dec s)).1 ∧ ((dec (applyF e s)).length : Int) = toS e := by
  have hb := applyBad_iff.2 ⟨hv, h, hn⟩
  obtain ⟨a1, a2⟩ := apply_ok hb
  rw [apGo_run, List.nil_append] at a1
  have hsc := runS_scalar e (dec s) h.1 (dec_scalar hv)
  have hd : dec (applyF e s) = (runS id e (dec s)).1 := by rw [a1]; exact dec_enc hsc
  refine ⟨a2, a1, by rw [a1]; exact valid_enc hsc, hd, ?_⟩
  rw [hd]; exact (runS_len id e (dec s) h.1 (by omega)).1
theorem inv_law {e : List Part} {s : ByteArray} (hv : valid s = true) (h : Ok e) (hn : fromS e = (dec s).length) :
    invE e s = 0 ∧ Ok (invF e s) ∧ fromS (invF e s) = toS e ∧ toS (invF e s) = fromS e ∧ applyE (invF e s) (applyF e s) = 0 ∧ applyF (invF e s) (applyF e s) = s := by
  have hb := applyBad_iff.2 ⟨hv, h, hn⟩
  obtain ⟨i1, i2, i3, i4⟩ := inv_run e (dec s) h.fits hn (dec_scalar hv)
  obtain ⟨m1, m2, m3⟩ := addRs_mk (invGo e (dec s)) [] MK.nil i1
  have z0 : fromS ([] : List Part) = 0 := rfl
  have z1 : toS ([] : List Part) = 0 := rfl
  have hR : invR e s = addRs [] (invGo e (dec s)) := rfl
  have hok : Ok (invR e s).reverse := m1.ok (by have := h.2.2.2; omega) (by have := h.2.2.1; omega)
  obtain ⟨c1, c2⟩ := inv_ok hb (ok_iff.2 hok)
  have hrev := fromS_rev (invR e s)
  obtain ⟨a1, a2, a3, a4, a5⟩ := apply_law hv h hn
  have hf : fromS (invF e s) = toS e := by rw [c2, hrev.1, hR]; omega
  obtain ⟨b1, b2, b3, b4, b5⟩ := apply_law (e := invF e s) a3 (by rw [c2]; exact hok) (by rw [hf]; exact a5.symm)
  refine ⟨c1, by rw [c2]; exact hok, hf, by rw [c2, hrev.2, hR]; omega, b1, ?_⟩
  rw [b2, a4, c2, hR, maker_run id i1, i4]
  exact enc_dec hv
end Go.SK
