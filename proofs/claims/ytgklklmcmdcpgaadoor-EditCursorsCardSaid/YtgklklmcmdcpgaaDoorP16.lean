/- Plain words: cursors keep their order. -/
import Derived.Test.YtgklklmcmdcpgaaDoorP15
set_option linter.unusedVariables false
set_option linter.unusedSimpArgs false
set_option maxRecDepth 100000
namespace Go.SK
open Go
section
variable {p : Part} {r : List Part} {i to : Int} {ah : Bool}
theorem cur_put (h : p.kind = 2 ∧ (0 < i ∨ ah = true)) : curGo (p :: r) i ah to = curGo r i ah (to + p.n) := by rw [curGo, if_pos h]
theorem cur_zero (h : ¬ (p.kind = 2 ∧ (0 < i ∨ ah = true))) (hi : i = 0) : curGo (p :: r) i ah to = to := by rw [curGo, if_neg h, if_pos hi]
theorem cur_part (h : ¬ (p.kind = 2 ∧ (0 < i ∨ ah = true))) (hi : ¬ i = 0) (hl : i < p.n) : curGo (p :: r) i ah to = if p.kind = 1 then to + i else to := by
  have e : minI p.n i = i := by unfold minI; rw [if_pos hl]
  rw [curGo, if_neg h, if_neg hi, e, if_pos hl]
theorem cur_next (h : ¬ (p.kind = 2 ∧ (0 < i ∨ ah = true))) (hi : ¬ i = 0) (hl : ¬ i < p.n) : curGo (p :: r) i ah to = curGo r (i - p.n) ah (if p.kind = 1 then to + p.n else to) := by
  have e : minI p.n i = p.n := by unfold minI; rw [if_neg hl]
  rw [curGo, if_neg h, if_neg hi, e, if_neg (by omega)]
end
theorem cur_in : ∀ (e : List Part) (i to : Int) (ah : Bool), FitsU e → 0 ≤ i → to ≤ curGo e i ah to ∧ curGo e i ah to ≤ to + toS e
  | [], i, to, ah, _, _ => by simp [curGo, toS]
  | p :: r, i, to, ah, h, hi => by
    have hp := h p (.head _)
    have h1 := hp.1
    have hr := fromS_posU h.tail
    by_cases c : p.kind = 2 ∧ (0 < i ∨ ah = true)
    · rw [cur_put c]
      have := cur_in r i (to + p.n) ah h.tail hi
      simp only [toS]; rw [if_neg (by omega)]; omega
    · by_cases z : i = 0
      · rw [cur_zero c z]; simp only [toS]; split <;> omega
      · by_cases l : i < p.n
        · rw [cur_part c z l]; simp only [toS]; split <;> split <;> omega
        · rw [cur_next c z l]
          have := cur_in r (i - p.n) (if p.kind = 1 then to + p.n else to) ah h.tail (by omega)
          have hk : ¬ p.kind = 2 := fun k => c ⟨k, .inl (by omega)⟩
          simp only [toS]
          split at this <;> split <;> omega
theorem cur_ahead : ∀ (e : List Part) (i to : Int), FitsU e → 0 ≤ i → curGo e i false to ≤ curGo e i true to
  | [], i, to, _, _ => by simp [curGo]
  | p :: r, i, to, h, hi => by
    have h1 := (h p (.head _)).1
    by_cases z : i = 0
    · rw [cur_zero (by rintro ⟨_, x | x⟩ <;> first | omega | cases x) z]
      exact (cur_in (p :: r) i to true h hi).1
    · by_cases k : p.kind = 2
      · rw [cur_put ⟨k, .inl (by omega)⟩, cur_put ⟨k, .inl (by omega)⟩]
        exact cur_ahead r i _ h.tail hi
      · by_cases l : i < p.n
        · rw [cur_part (fun c => k c.1) z l, cur_part (fun c => k c.1) z l]; exact Int.le_refl _
        · rw [cur_next (fun c => k c.1) z l, cur_next (fun c => k c.1) z l]
          exact cur_ahead r _ _ h.tail (by omega)
theorem cur_mono : ∀ (e : List Part) (i k to : Int) (ah : Bool), FitsU e → 0 ≤ i → i ≤ k → curGo e i ah to ≤ curGo e k ah to
  | [], i, k, to, ah, _, _, _ => by simp [curGo]
  | p :: r, i, k, to, ah, h, hi, hk => by
    have h1 := (h p (.head _)).1
    by_cases c : p.kind = 2 ∧ (0 < i ∨ ah = true)
    · rw [cur_put c, cur_put ⟨c.1, c.2.imp (fun x => by omega) id⟩]
      exact cur_mono r i k _ ah h.tail hi hk
    · by_cases z : i = 0
      · rw [cur_zero c z]; exact (cur_in (p :: r) k to ah h (by omega)).1
      · have hk2 : ¬ p.kind = 2 := fun x => c ⟨x, .inl (by omega)⟩
        have c' : ¬ (p.kind = 2 ∧ (0 < k ∨ ah = true)) := fun x => hk2 x.1
        by_cases l : i < p.n
        · rw [cur_part c z l]
          by_cases l' : k < p.n
          · rw [cur_part c' (by omega) l']; split <;> omega
          · rw [cur_next c' (by omega) l']
            have := (cur_in r (k - p.n) (if p.kind = 1 then to + p.n else to) ah h.tail (by omega)).1
            split at this <;> split <;> omega
        · rw [cur_next c z l, cur_next c' (by omega) (by omega)]
          exact cur_mono r _ _ _ ah h.tail (by omega) (by omega)
end Go.SK
