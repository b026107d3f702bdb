/- Plain words on edits: what is left of one, composition and transformation step by step. -/
import Derived.Test.YtgklklmcmdcpgaaDoorE0
set_option linter.unusedVariables false
set_option linter.unusedSimpArgs false
namespace Go.SK
open Go
def fromS : List Part → Int
  | [] => 0
  | p :: r => (if p.kind = 2 then 0 else p.n) + fromS r
def toS : List Part → Int
  | [] => 0
  | p :: r => (if p.kind = 3 then 0 else p.n) + toS r
def Fits (e : List Part) : Prop := ∀ p ∈ e, fitsB p = true
theorem Fits.tail {p : Part} {e : List Part} (h : Fits (p :: e)) : Fits e := fun q hq => h q (.tail _ hq)
theorem Fits.cons {p : Part} {e : List Part} (h : fitsB p = true) (h' : Fits e) : Fits (p :: e) := fun q hq => (List.mem_cons.1 hq).elim (fun x => x ▸ h) (h' q)
theorem fitsB_cases {p : Part} (h : fitsB p = true) : 1 ≤ p.n ∧ p.n ≤ 1099511627776 ∧ ((p.kind = 1 ∧ p.text = ⟨#[]⟩) ∨ (p.kind = 3 ∧ p.text = ⟨#[]⟩) ∨ (p.kind = 2 ∧ valid p.text = true ∧ ((dec p.text).length : Int) = p.n)) := by
  have hn := fitsB_n h
  refine ⟨hn.1, hn.2, ?_⟩
  unfold fitsB at h
  rw [if_neg (by omega), if_neg (by omega)] at h
  split at h
  · rename_i hk; exact .inl ⟨hk, by simpa using h⟩
  · split at h
    · rename_i hk; exact .inr (.inl ⟨hk, by simpa using h⟩)
    · split at h
      · rename_i hk
        simp only [Bool.and_eq_true, decide_eq_true_eq] at h
        refine .inr (.inr ⟨hk, h.1, ?_⟩)
        rw [← rcount_dec]; exact h.2
      · cases h
theorem fitsB_mk {p : Part} (h1 : 1 ≤ p.n) (h2 : p.n ≤ 1099511627776) (h : (p.kind = 1 ∧ p.text = ⟨#[]⟩) ∨ (p.kind = 3 ∧ p.text = ⟨#[]⟩) ∨ (p.kind = 2 ∧ valid p.text = true ∧ ((dec p.text).length : Int) = p.n)) : fitsB p = true := by
  unfold fitsB
  rw [if_neg (by omega), if_neg (by omega)]
  rcases h with ⟨hk, ht⟩ | ⟨hk, ht⟩ | ⟨hk, hv, hl⟩
  · rw [if_pos hk]; simp [ht]
  · rw [if_neg (by omega), if_pos hk]; simp [ht]
  · rw [if_neg (by omega), if_neg (by omega), if_pos hk]
    simp only [Bool.and_eq_true, decide_eq_true_eq]
    exact ⟨hv, by rw [rcount_dec]; exact hl⟩
theorem sizesGo_sum : ∀ (e : List Part) (pv : Option Int) (f t : Int), (sizesGo pv e f t).2.2 = true → (sizesGo pv e f t).1 = f + fromS e ∧ (sizesGo pv e f t).2.1 = t + toS e
  | [], _, f, t, _ => by simp [sizesGo, fromS, toS]
  | p :: r, pv, f, t, h => by
    simp only [sizesGo] at h ⊢
    split at h
    · cases h
    · split at h
      · cases h
      · rename_i h1 h2
        rw [if_neg h1, if_neg h2]
        obtain ⟨k1, k2⟩ := sizesGo_sum r _ _ _ h
        rw [k1, k2]
        simp only [addF, addT, fromS, toS]
        constructor <;> split <;> omega
theorem sizesF_sum {e : List Part} (h : (sizesF e).2.2 = true) : (sizesF e).1 = fromS e ∧ (sizesF e).2.1 = toS e ∧ Fits e := by
  have := sizesGo_sum e none 0 0 h
  exact ⟨by have := this.1; simpa [sizesF] using this, by have := this.2; simpa [sizesF] using this, sizesGo_ok e none 0 0 h⟩
theorem fromS_pos : ∀ {e : List Part}, Fits e → 0 ≤ fromS e ∧ 0 ≤ toS e ∧ nsum e ≤ fromS e + toS e ∧ 0 ≤ nsum e
  | [], _ => by simp [fromS, toS, nsum]
  | p :: r, h => by
    have h1 := fitsB_cases (h p (.head _))
    have h2 := fromS_pos h.tail
    simp only [fromS, toS, nsum]
    split <;> split <;> omega
/-! ### Apply -/
def apGo : List Part → List Int → List Int → List Int
  | [], _, out => out
  | p :: r, l, out => if p.kind = 1 then apGo r (l.drop p.n.toNat) (out ++ l.take p.n.toNat) else if p.kind = 3 then apGo r (l.drop p.n.toNat) out else apGo r l (out ++ dec p.text)
def applyBad (e : List Part) (s : ByteArray) : Prop := valid s = false ∨ checkF e (dec s).length ≠ 0
instance (e : List Part) (s : ByteArray) : Decidable (applyBad e s) := by unfold applyBad; infer_instance
def applyF (e : List Part) (s : ByteArray) : ByteArray := if applyBad e s then ⟨#[]⟩ else enc (apGo e (dec s) [])
def applyE (e : List Part) (s : ByteArray) : Int := if applyBad e s then 30 else 0
theorem checkF_ok {e : List Part} {n : Int} (h : checkF e n = 0) : (sizesF e).2.2 = true ∧ fromS e = n ∧ Fits e ∧ toS e ≤ 1099511627776 := by
  unfold checkF at h
  split at h
  · cases h
  · rename_i h1
    have h2 : (sizesF e).2.2 = true := by cases hh : (sizesF e).2.2 <;> simp_all
    have h3 := sizesF_sum h2
    have h4 := sizesF_bound e
    refine ⟨h2, by rw [← h3.1]; simpa [h2] using h1, h3.2.2, by rw [← h3.2.1]; exact h4.2.2.2⟩
/-! ### What is left of an edit -/
def takeP (p : Part) (n : Int) : Part := ⟨p.kind, n, if p.kind = 2 then enc ((dec p.text).take n.toNat) else p.text⟩
def leftP (p : Part) (n : Int) : Part := ⟨p.kind, p.n - n, if p.kind = 2 then enc ((dec p.text).drop n.toNat) else p.text⟩
def restP (p : Part) (l : List Part) (n : Int) : List Part := if p.n - n = 0 then l else leftP p n :: l
/-- What is in memory, of what is left of an edit. -/
def WS (l : List Part) (tx : List Int) : List Part → Prop
  | [] => l = []
  | p :: r => ∃ raw, l = ⟨p.kind, p.n, raw⟩ :: r ∧ (p.kind = 2 → tx = dec p.text) ∧ (p.kind ≠ 2 → raw = p.text) ∧ (raw.size ≤ 70368744177664)
theorem fits_size {p : Part} (h : fitsB p = true) : (p.text.size : Int) ≤ 4 * p.n := by
  obtain ⟨h1, h2, h3⟩ := fitsB_cases h
  rcases h3 with ⟨_, ht⟩ | ⟨_, ht⟩ | ⟨_, hv, hl⟩
  · rw [ht]; show ((0 : Nat) : Int) ≤ _; omega
  · rw [ht]; show ((0 : Nat) : Int) ≤ _; omega
  · have := (enc_size (dec p.text)).2
    rw [enc_dec hv] at this
    omega
theorem fits_sizeN {p : Part} (h : fitsB p = true) : p.text.size ≤ 4398046511104 := by have := fits_size h; have := fitsB_n h; omega
theorem WS.start {e : List Part} (tx : List Int) (h : Fits e) : WS e (loadT e tx) e := by
  cases e with
  | nil => rfl
  | cons p r => exact ⟨p.text, rfl, fun hk => by simp only [loadT, if_pos hk], fun _ => rfl, by have := fits_sizeN (h p (.head _)); omega⟩
theorem WS.kind {l : List Part} {tx : List Int} : ∀ {ps : List Part}, WS l tx ps → kindL l = kindL ps
  | [], h => by rw [show l = [] from h]
  | p :: r, ⟨raw, h, _⟩ => by rw [h]; rfl
theorem take_fits {p : Part} {n : Int} (h : fitsB p = true) (h1 : 1 ≤ n) (h2 : n ≤ p.n) : fitsB (takeP p n) = true := by
  obtain ⟨k1, k2, k3⟩ := fitsB_cases h
  refine fitsB_mk h1 (by simp only [takeP]; omega) ?_
  simp only [takeP]
  rcases k3 with ⟨hk, ht⟩ | ⟨hk, ht⟩ | ⟨hk, hv, hl⟩
  · exact .inl ⟨hk, by rw [if_neg (by omega)]; exact ht⟩
  · exact .inr (.inl ⟨hk, by rw [if_neg (by omega)]; exact ht⟩)
  · refine .inr (.inr ⟨hk, ?_, ?_⟩)
    · rw [if_pos hk]; exact valid_enc fun r hr => dec_scalar hv r (List.mem_of_mem_take hr)
    · rw [if_pos hk, dec_enc fun r hr => dec_scalar hv r (List.mem_of_mem_take hr), List.length_take]; omega
theorem left_fits {p : Part} {n : Int} (h : fitsB p = true) (h1 : 1 ≤ n) (h2 : n < p.n) : fitsB (leftP p n) = true := by
  obtain ⟨k1, k2, k3⟩ := fitsB_cases h
  refine fitsB_mk (by simp only [leftP]; omega) (by simp only [leftP]; omega) ?_
  simp only [leftP]
  rcases k3 with ⟨hk, ht⟩ | ⟨hk, ht⟩ | ⟨hk, hv, hl⟩
  · exact .inl ⟨hk, by rw [if_neg (by omega)]; exact ht⟩
  · exact .inr (.inl ⟨hk, by rw [if_neg (by omega)]; exact ht⟩)
  · refine .inr (.inr ⟨hk, ?_, ?_⟩)
    · rw [if_pos hk]; exact valid_enc fun r hr => dec_scalar hv r (List.mem_of_mem_drop hr)
    · rw [if_pos hk, dec_enc fun r hr => dec_scalar hv r (List.mem_of_mem_drop hr), List.length_drop]; omega
theorem rest_fits {p : Part} {l : List Part} {n : Int} (h : Fits (p :: l)) (h1 : 1 ≤ n) (h2 : n ≤ p.n) : Fits (restP p l n) := by
  unfold restP
  split
  · exact h.tail
  · exact Fits.cons (left_fits (h p (.head _)) h1 (by omega)) h.tail
theorem take_all {p : Part} (h : fitsB p = true) : takeP p p.n = p := by
  obtain ⟨k1, k2, k3⟩ := fitsB_cases h
  cases p with
  | mk k n t =>
    simp only [takeP, Part.mk.injEq, true_and]
    rcases k3 with ⟨hk, ht⟩ | ⟨hk, ht⟩ | ⟨hk, hv, hl⟩
    · rw [if_neg (by simp only at hk; omega)]
    · rw [if_neg (by simp only at hk; omega)]
    · simp only at hk hv hl
      rw [if_pos hk, List.take_of_length_le (by omega), enc_dec hv]
theorem rest_all (p : Part) (l : List Part) : restP p l p.n = l := by unfold restP; rw [if_pos (by omega)]
/-- A step over what is in memory is a step over what it stands for. -/
theorem WS.step {l : List Part} {tx : List Int} {p : Part} {r : List Part} (h : WS l tx (p :: r)) (hf : Fits (p :: r)) {n : Int} (h1 : 1 ≤ n) (h2 : n ≤ p.n) :
    ∃ q, l = q :: r ∧ q.n = p.n ∧ (q.kind = 2 → n.toNat ≤ tx.length) ∧ takeQ q tx n = takeP p n ∧ WS (takeL q r n) (takeT q r tx n) (restP p r n) := by
  obtain ⟨raw, rfl, k1, k2, k3⟩ := h
  obtain ⟨c1, c2, c3⟩ := fitsB_cases (hf p (.head _))
  refine ⟨_, rfl, rfl, fun hk => ?_, ?_, ?_⟩
  · rw [k1 hk]
    rcases c3 with ⟨hk', _⟩ | ⟨hk', _⟩ | ⟨_, _, hl⟩
    · simp only at hk; omega
    · simp only at hk; omega
    · omega
  · simp only [takeQ, takeP, Part.mk.injEq, true_and]
    split
    · rename_i hk; rw [k1 hk]
    · rename_i hk; exact k2 hk
  · unfold takeL takeT restP
    simp only
    by_cases h0 : p.n - n = 0
    · rw [if_pos h0, if_pos h0, if_pos h0]
      exact WS.start _ hf.tail
    · rw [if_neg h0, if_neg h0, if_neg h0]
      refine ⟨raw, rfl, fun hk => ?_, fun hk => ?_, k3⟩
      · simp only [leftP] at hk ⊢
        rw [if_pos hk, if_pos hk, k1 hk]
        rcases c3 with ⟨hk', _⟩ | ⟨hk', _⟩ | ⟨_, hv, hl⟩
        · omega
        · omega
        · exact (dec_enc fun x hx => dec_scalar hv x (List.mem_of_mem_drop hx)).symm
      · simp only [leftP] at hk ⊢
        rw [if_neg hk]; exact k2 hk
theorem rest_nsum (p : Part) (l : List Part) (n : Int) : nsum (restP p l n) + n = nsum (p :: l) := by
  unfold restP
  split
  · simp only [nsum]; omega
  · simp only [nsum, leftP]; omega
theorem rest_len (p : Part) (l : List Part) (n : Int) : (restP p l n).length = l.length + if p.n - n = 0 then 0 else 1 := by
  unfold restP; split <;> simp
theorem rest_from (p : Part) (l : List Part) (n : Int) : fromS (restP p l n) + (if p.kind = 2 then 0 else n) = fromS (p :: l) ∧ toS (restP p l n) + (if p.kind = 3 then 0 else n) = toS (p :: l) := by
  unfold restP
  split
  · simp only [fromS, toS]; constructor <;> split <;> omega
  · simp only [fromS, toS, leftP]; constructor <;> split <;> omega
end Go.SK
