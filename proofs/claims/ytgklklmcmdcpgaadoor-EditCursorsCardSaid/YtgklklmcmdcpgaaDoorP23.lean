/- Plain words: how large what the document's own answer makes is. -/
import Derived.Test.YtgklklmcmdcpgaaDoorP22
set_option linter.unusedVariables false
set_option linter.unusedSimpArgs false
set_option maxRecDepth 100000
namespace Go.SK
open Go Go.RowKit
theorem get_set {α : Type} {l : List α} {i : Nat} {d b : α} (h : i < l.length) : (l.set i b).getD i d = b := by
  rw [List.getD_eq_getElem?_getD, List.getElem?_set_self h]; rfl
theorem psum_tail (P : List (List Int)) : psum P = (P.headD []).length + psum P.tail := by cases P with | nil => rfl | cons a r => rfl
theorem psum_dropLe : ∀ (P : List (List Int)) (n : Nat), psum (P.drop n) ≤ psum P
  | [], n => by simp
  | t :: r, 0 => by simp
  | t :: r, n + 1 => by have := psum_dropLe r n; simp only [List.drop_succ_cons, psum]; omega
theorem psum_mem {P : List (List Int)} {t : List Int} (h : t ∈ P) : (t.length : Int) ≤ psum P := by
  obtain ⟨A, B, rfl⟩ := List.append_of_mem h
  have := psum_pos A; have := psum_pos B
  rw [psum_append]; simp only [psum]; omega
theorem psum_get {P : List (List Int)} {i : Nat} {t : List Int} (h : P.getD i [] = t) : (t.length : Int) ≤ psum P := by
  have hp := psum_pos P
  rcases Nat.lt_or_ge i P.length with hi | hi
  · rw [List.getD_eq_getElem?_getD, List.getElem?_eq_getElem hi] at h
    subst h; exact psum_mem (List.getElem_mem hi)
  · rw [List.getD_eq_getElem?_getD, List.getElem?_eq_none hi] at h
    subst h; simpa using hp
theorem wv_len : ∀ (t : List Int) (P : List (List Int)) (D : List Bool), ((wv t P D).1.length : Int) + psum (P.drop t.length) ≤ t.length + psum P
  | [], P, D => by simp [wv]
  | c :: t, P, D => by
    have ih := wv_len t P.tail D.tail
    rw [psum_tail P]
    simp only [wv, List.length_append, List.length_cons]
    rw [show P.drop (t.length + 1) = P.tail.drop t.length by simp]
    split <;> simp only [List.length_nil, List.length_cons] <;> omega
theorem cz_psum : ∀ (D : List Bool) (P : List (List Int)) (yP : List (List Int)) (yD : List Bool), psum (cz P D yP yD).1 ≤ psum P + psum yP
  | [], P, yP, yD => by
    have h1 := wv_len (P.headD []) yP yD
    have h2 := psum_tail P; have h3 := psum_tail (yP.drop (P.headD []).length)
    have h4 := psum_pos P.tail; have h5 := psum_pos (yP.drop (P.headD []).length).tail
    simp only [cz, psum, List.length_append, wv_left]; omega
  | true :: D, P, yP, yD => by
    have h1 := wv_len (P.headD []) yP yD
    have h2 := psum_tail P
    have ih := cz_psum D P.tail (yP.drop (P.headD []).length) (yD.drop (P.headD []).length)
    simp only [cz, psum, wv_left]; omega
  | false :: D, P, yP, yD => by
    have h1 := wv_len (P.headD []) yP yD
    have h2 := psum_tail P; have h3 := psum_tail (yP.drop (P.headD []).length)
    have ih := cz_psum D P.tail (yP.drop (P.headD []).length).tail (yD.drop (P.headD []).length).tail
    simp only [cz, psum, List.length_append, wv_left]; omega
theorem psum_psh (k : Nat) (cur : List Int) : psum (psh k cur) + (cur' k cur).length = cur.length := by
  unfold psh cur'
  split
  · simp [psum]
  · simp only [psum, psum_rep, List.length_nil]; omega
theorem iv_psum : ∀ (D : List Bool) (P : List (List Int)) (l cur : List Int), psum (iv P D l cur).1 ≤ cur.length + l.length
  | [], P, l, cur => by simp only [iv, psum, psum_rep]; omega
  | true :: D, P, l, cur => by
    have ih := iv_psum D P.tail (l.drop 1) (cur' (P.headD []).length cur ++ l.take 1)
    have h := psum_psh (P.headD []).length cur
    simp only [iv, psum_append]
    rw [List.length_append, List.length_drop, List.length_take] at ih
    omega
  | false :: D, P, l, cur => by
    have ih := iv_psum D P.tail (l.drop 1) []
    have h := psum_psh (P.headD []).length cur
    simp only [iv, psum_append, psum]
    rw [List.length_drop] at ih
    simp only [List.length_nil] at ih
    omega
theorem iv_false : ∀ (D : List Bool) (P : List (List Int)) (l cur : List Int), (iv P D l cur).2.count false = D.count false
  | [], P, l, cur => by simp [iv, List.count_replicate]
  | true :: D, P, l, cur => by simp [iv, List.count_append, List.count_replicate, iv_false D]
  | false :: D, P, l, cur => by simp [iv, List.count_append, List.count_replicate, iv_false D]
theorem iv_clb {e : List Part} {s : ByteArray} (hv : valid s = true) (oe : Ok e) (hn : fromS e = (dec s).length) (hs : s.size ≤ 1073741824) : CLB (iv (spP e) (dv e) (dec s) []).1 (iv (spP e) (dv e) (dec s) []).2 := by
  have h1 := iv_D (dv e) (spP e) (dec s) []
  have h2 := madeN_sp oe.1
  have h3 := iv_psum (dv e) (spP e) (dec s) []
  have h4 := dec_len s
  have h5 : (dv e).count false ≤ (dv e).length := List.count_le_length
  have h6 := dv_len oe.1
  have h7 := oe.2.2.2
  simp only [List.length_nil] at h3
  exact ⟨iv_sc _ _ _ _ (dec_scalar hv) (fun x hx => (by cases hx)), iv_len _ _ _ _, by rw [h1]; omega, by rw [iv_false]; omega⟩
theorem cz_clb {a b : List Part} (oa : Ok a) (ob : Ok b) (ha : fromS a ≤ 1073741824) : CLB (cz (spP a) (dv a) (spP b) (dv b)).1 (cz (spP a) (dv a) (spP b) (dv b)).2 := by
  have hl := cz_len (dv a) (spP a) (spP b) (dv b)
  have h1 := cz_psum (dv a) (spP a) (spP b) (dv b)
  have h2 := psum_sp oa.1; have h3 := psum_sp ob.1
  have h4 := puts_le oa.1; have h5 := puts_le ob.1
  have h6 := dv_len oa.1
  have h7 := oa.2.2.2; have h8 := ob.2.2.2
  have h9 : (cz (spP a) (dv a) (spP b) (dv b)).2.count false ≤ (cz (spP a) (dv a) (spP b) (dv b)).2.length := List.count_le_length
  exact ⟨cz_sc _ _ _ _ (spP_sc oa.1) (spP_sc ob.1), by omega, by omega, by omega⟩
/-- What a spread edit puts at a place, as a text. -/
theorem sp_get {e : List Part} (oe : Ok e) {i : Nat} {t : List Int} (h : (spP e).getD i [] = t) : (∀ x ∈ t, scalar x) ∧ (t.length : Int) ≤ 1099511627776 ∧ (enc t).size ≤ 4398046511104 := by
  have h1 := psum_get h
  rw [psum_sp oe.1] at h1
  have h2 := puts_le oe.1; have h3 := oe.2.2.2; have h4 := (enc_size t).2
  refine ⟨?_, by omega, by omega⟩
  rcases Nat.lt_or_ge i (spP e).length with hi | hi
  · rw [List.getD_eq_getElem?_getD, List.getElem?_eq_getElem hi] at h
    subst h; exact spP_sc oe.1 _ (List.getElem_mem hi)
  · rw [List.getD_eq_getElem?_getD, List.getElem?_eq_none hi] at h
    subst h; intro x hx; cases hx
theorem ZIn.accLe {a b : List Part} (oa : Ok a) (ob : Ok b) {Z : List (List Int) × List Bool} {i k j : Nat} {t acc : List Int} {P : List (List Int)} {D : List Bool} (h : ZIn (spP a) (dv a) (spP b) (dv b) Z i k t j acc P D) (ht : (t.length : Int) ≤ 1099511627776) : (enc acc).size ≤ 17592186044416 := by
  have e1 := congrArg List.length h.acc_
  rw [List.length_append] at e1
  have h1 := wv_len t ((spP b).drop k) ((dv b).drop k)
  have h2 := psum_dropLe (spP b) k
  have h3 := psum_pos (((spP b).drop k).drop t.length)
  rw [psum_sp ob.1] at h2
  have h4 := puts_le ob.1; have h5 := ob.2.2.2; have h6 := (enc_size acc).2
  omega
theorem VIn.lastLe {wP P : List (List Int)} {wD D : List Bool} {l : List Int} {Z : List (List Int) × List Bool} {i j : Nat} (h : VIn wP wD l Z i j P D) (hb : CLB Z.1 Z.2) : (enc (P.getD (P.length - 1) [])).size ≤ 17592186044416 := by
  obtain ⟨hj0, P0, D0, cur, h1, h2, h3, h4⟩ := h
  obtain ⟨Q, q1, _, _⟩ := iv_addH (wD.drop i) (wP.drop i) (l.drop i) cur
  have e1 := congrArg psum h3
  rw [q1, psum_append, psum_addH] at e1
  have := psum_pos P0; have := psum_pos Q; have := hb.n
  have e : P = (P0 ++ psh j cur) ++ [cur' j cur] := by rw [h1, List.append_assoc]
  have hl : P.getD (P.length - 1) [] = cur' j cur := by
    have hn : (P0 ++ psh j cur).length = P.length - 1 := by rw [e]; simp
    rw [← hn, e]; exact get_mid rfl
  have hc : (cur' j cur).length ≤ cur.length := by unfold cur'; split <;> simp
  have := (enc_size (cur' j cur)).2
  rw [hl]; omega
theorem applyBad_of {e : List Part} {s : ByteArray} (h : runesF s.data.toList < 0 ∨ checkF e (runesF s.data.toList) ≠ 0) : applyBad e s := by
  rcases runesF_cases s with ⟨h1, h2⟩ | ⟨h1, h2⟩
  · rw [h2] at h
    rcases h with h | h
    · omega
    · rw [rcount_dec] at h; exact .inr h
  · exact .inl h1
theorem applyOk_of {e : List Part} {s : ByteArray} (h : ¬ runesF s.data.toList < 0) (h' : ¬ checkF e (runesF s.data.toList) ≠ 0) : runesF s.data.toList = ((dec s).length : Int) ∧ valid s = true ∧ Ok e ∧ fromS e = (dec s).length := by
  rcases runesF_cases s with ⟨h1, h2⟩ | ⟨h1, h2⟩
  · rw [h2, rcount_dec] at h' ⊢
    have := checkF_iff.1 (Decidable.not_not.1 h')
    exact ⟨rfl, h1, this.1, this.2⟩
  · omega
theorem curBad_of {e : List Part} {i : Int} (h : sizeE e ≠ 0 ∨ i < 0 ∨ (sizeF e).1 < i) : curBad e i := by
  unfold curBad
  by_cases o : Ok e
  · have := ok_size o
    rw [o.sizes]
    rcases h with h | h | h
    · exact absurd this.1 h
    · exact .inr (.inl h)
    · exact .inr (.inr (by rw [this.2.1] at h; exact h))
  · exact .inl (not_ok o)
theorem curW_le {e : List Part} (oe : Ok e) {i : Int} (ah : Bool) (h0 : 0 ≤ i) (h1 : i ≤ fromS e) : curW (spP e) (dv e) i.toNat ah ≤ 1099511627776 ∧ curF e i ah = curW (spP e) (dv e) i.toNat ah ∧ curE e i = 0 := by
  have h2 := curW_go e i.toNat ah oe.1 (by omega)
  rw [Int.toNat_of_nonneg h0] at h2
  have h3 := cur_in e i 0 ah oe.1 h0
  have h4 := oe.2.2.2
  have h5 : ¬ curBad e i := by unfold curBad; rw [oe.sizes]; simp only [Bool.true_eq_false, false_or]; omega
  exact ⟨by rw [h2]; omega, by rw [(cur_ok h5).1, h2], (cur_ok (ah := ah) h5).2⟩
theorem compBad_of {a b : List Part} (h : sizeE a ≠ 0 ∨ sizeE b ≠ 0 ∨ (sizeF b).1 ≠ (sizeF a).2) : compBad a b := by
  rw [← Decidable.not_not (p := compBad a b), compBad_iff]
  rintro ⟨oa, ob, e⟩
  have h1 := ok_size oa; have h2 := ok_size ob
  rcases h with h | h | h
  · exact h h1.1
  · exact h h2.1
  · rw [h1.2.2, h2.2.1] at h; exact h e.symm
end Go.SK
