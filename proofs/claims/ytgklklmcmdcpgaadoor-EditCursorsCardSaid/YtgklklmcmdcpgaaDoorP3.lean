/- Plain words on edits: inverse, one form, cursors, weights, step by step. -/
import Derived.Test.YtgklklmcmdcpgaaDoorP2
set_option linter.unusedVariables false
set_option linter.unusedSimpArgs false
namespace Go.SK
open Go
theorem apply_bad {e : List Part} {s : ByteArray} (h : applyBad e s) : applyF e s = ⟨#[]⟩ ∧ applyE e s = 30 := ⟨if_pos h, if_pos h⟩
theorem apply_ok {e : List Part} {s : ByteArray} (h : ¬ applyBad e s) : applyF e s = enc (apGo e (dec s) []) ∧ applyE e s = 0 := ⟨if_neg h, if_neg h⟩
structure AInv (e : List Part) (k : Nat) (l out : List Int) (R0 : List Int) : Prop where
  kle : k ≤ e.length
  go : apGo (e.drop k) l out = R0
  from_ : fromS (e.drop k) = l.length
  to_ : (out.length : Int) + toS (e.drop k) ≤ 1099511627776
theorem ok_facts {e : List Part} {s : ByteArray} (h : ¬ applyBad e s) : valid s = true ∧ (sizesF e).2.2 = true ∧ fromS e = (dec s).length ∧ Fits e ∧ toS e ≤ 1099511627776 := by
  unfold applyBad at h
  have hv : valid s = true := by cases hh : valid s <;> simp_all
  have hc : checkF e (dec s).length = 0 := by simp [hv] at h; exact h
  exact ⟨hv, checkF_ok hc⟩
theorem AInv.start {e : List Part} {s : ByteArray} (h : ¬ applyBad e s) : AInv e 0 (dec s) [] (apGo e (dec s) []) := by
  obtain ⟨h1, h2, h3, h4, h5⟩ := ok_facts h
  exact ⟨Nat.zero_le _, rfl, h3, by simp; exact h5⟩
section
variable {e : List Part} {k : Nat} {l out R0 : List Int} {p : Part}
theorem AInv.stepK (h : AInv e k l out R0) (hf : Fits e) (hk : k < e.length) (hp : e.getD k default = p) (h1 : p.kind = 1) : p.n.toNat ≤ l.length ∧ 0 ≤ p.n ∧ AInv e (k + 1) (l.drop p.n.toNat) (out ++ l.take p.n.toNat) R0 := by
  have hd := drop_getD hk hp
  have h2 := h.go; have h3 := h.from_; have h4 := h.to_
  have hfd : Fits (e.drop k) := fun q hq => hf q (List.mem_of_mem_drop hq)
  rw [hd] at h2 h3 h4 hfd
  have h5 := fitsB_cases (hfd p (.head _)); have h6 := fromS_pos hfd.tail
  simp only [fromS, toS] at h3 h4
  rw [if_neg (by omega)] at h3 h4
  refine ⟨by omega, by omega, by omega, ?_, ?_, ?_⟩
  · rw [apGo, if_pos h1] at h2; exact h2
  · rw [List.length_drop]; omega
  · rw [List.length_append, List.length_take]; omega
theorem AInv.stepD (h : AInv e k l out R0) (hf : Fits e) (hk : k < e.length) (hp : e.getD k default = p) (h1 : ¬ p.kind = 1) (h3' : p.kind = 3) : p.n.toNat ≤ l.length ∧ 0 ≤ p.n ∧ AInv e (k + 1) (l.drop p.n.toNat) out R0 := by
  have hd := drop_getD hk hp
  have h2 := h.go; have h3 := h.from_; have h4 := h.to_
  have hfd : Fits (e.drop k) := fun q hq => hf q (List.mem_of_mem_drop hq)
  rw [hd] at h2 h3 h4 hfd
  have h5 := fitsB_cases (hfd p (.head _)); have h6 := fromS_pos hfd.tail
  simp only [fromS, toS] at h3 h4
  rw [if_neg (by omega)] at h3
  rw [if_pos h3'] at h4
  refine ⟨by omega, by omega, by omega, ?_, ?_, ?_⟩
  · rw [apGo, if_neg h1, if_pos h3'] at h2; exact h2
  · rw [List.length_drop]; omega
  · omega
theorem AInv.stepP (h : AInv e k l out R0) (hf : Fits e) (hk : k < e.length) (hp : e.getD k default = p) (h1 : ¬ p.kind = 1) (h3' : ¬ p.kind = 3) : (dec p.text).length ≤ 1099511627776 ∧ AInv e (k + 1) l (out ++ dec p.text) R0 := by
  have hd := drop_getD hk hp
  have h2 := h.go; have h3 := h.from_; have h4 := h.to_
  have hfd : Fits (e.drop k) := fun q hq => hf q (List.mem_of_mem_drop hq)
  rw [hd] at h2 h3 h4 hfd
  have h5 := fitsB_cases (hfd p (.head _)); have h6 := fromS_pos hfd.tail
  simp only [fromS, toS] at h3 h4
  have hk2 : p.kind = 2 := by omega
  have hl : ((dec p.text).length : Int) = p.n := by
    rcases h5.2.2 with ⟨x, _⟩ | ⟨x, _⟩ | ⟨_, _, x⟩
    · omega
    · omega
    · exact x
  rw [if_pos hk2] at h3
  rw [if_neg h3'] at h4
  refine ⟨by omega, by omega, ?_, by omega, ?_⟩
  · rw [apGo, if_neg h1, if_neg h3'] at h2; exact h2
  · rw [List.length_append]; omega
theorem AInv.stop (h : AInv e k l out R0) (hk : ¬ k < e.length) : out = R0 := by
  have h2 := h.go
  rw [List.drop_eq_nil_of_le (by omega)] at h2; exact h2
end
/-! ### Inverse -/
def invGo : List Part → List Int → List Part
  | [], _ => []
  | p :: r, l => if p.kind = 1 then p :: invGo r (l.drop p.n.toNat) else if p.kind = 3 then putP (enc (l.take p.n.toNat)) :: invGo r (l.drop p.n.toNat) else dropP p.n :: invGo r l
def invR (e : List Part) (s : ByteArray) : List Part := addRs [] (invGo e (dec s))
def invE (e : List Part) (s : ByteArray) : Int := if applyBad e s then 30 else if (sizesF (invR e s).reverse).2.2 = true then 0 else 4
def invF (e : List Part) (s : ByteArray) : List Part := if invE e s = 0 then (invR e s).reverse else []
structure IInv (e : List Part) (k : Nat) (l : List Int) (r R0 : List Part) : Prop where
  kle : k ≤ e.length
  go : addRs r (invGo (e.drop k) l) = R0
  from_ : fromS (e.drop k) = l.length
  sc : ∀ x ∈ l, scalar x
  mb : MB r (nsum (e.drop k)) ((e.drop k).length)
theorem IInv.start {e : List Part} {s : ByteArray} (h : ¬ applyBad e s) (hl : e.length ≤ 137438953472) : IInv e 0 (dec s) [] (invR e s) := by
  obtain ⟨h1, h2, h3, h4, h5⟩ := ok_facts h
  have := nsum_bound h2
  exact ⟨Nat.zero_le _, rfl, h3, dec_scalar h1, MB.nil (by rw [List.drop_zero]; omega) (by rw [List.drop_zero]; omega)⟩
theorem drop_fits {n : Int} (h1 : 1 ≤ n) (h2 : n ≤ 1099511627776) : fitsB (dropP n) = true := fitsB_mk h1 h2 (.inr (.inl ⟨rfl, rfl⟩))
theorem put_fits {t : List Int} (h : ∀ x ∈ t, scalar x) (h1 : 1 ≤ t.length) (h2 : t.length ≤ 1099511627776) : fitsB (putP (enc t)) = true ∧ (putP (enc t)).n = t.length := by
  have hn : (putP (enc t)).n = t.length := by simp only [putP, rcount_dec, dec_enc h]
  exact ⟨fitsB_mk (by omega) (by omega) (.inr (.inr ⟨rfl, valid_enc h, by rw [hn]; simp only [putP, dec_enc h]⟩)), hn⟩
section
variable {e : List Part} {k : Nat} {l : List Int} {r R0 : List Part} {p : Part}
theorem IInv.stepK (h : IInv e k l r R0) (hf : Fits e) (hk : k < e.length) (hp : e.getD k default = p) (h1 : p.kind = 1) : p.n.toNat ≤ l.length ∧ 0 ≤ p.n ∧ ManyB r [p] ∧ IInv e (k + 1) (l.drop p.n.toNat) (addRs r [p]) R0 := by
  have hd := drop_getD hk hp
  have h2 := h.go; have h3 := h.from_; have h4 := h.mb
  have hfd : Fits (e.drop k) := fun q hq => hf q (List.mem_of_mem_drop hq)
  rw [hd] at h2 h3 h4 hfd
  have h5 := fitsB_cases (hfd p (.head _)); have h6 := fromS_pos hfd.tail
  simp only [fromS] at h3
  rw [if_neg (by omega)] at h3
  simp only [nsum, List.length_cons] at h4
  refine ⟨by omega, by omega, h4.many (hfd p (.head _)) (by omega) (by omega), by omega, ?_, ?_, fun x hx => h.sc x (List.mem_of_mem_drop hx), h4.add (hfd p (.head _)) (by omega) (by omega)⟩
  · rw [invGo, if_pos h1] at h2; exact h2
  · rw [List.length_drop]; omega
theorem IInv.stepD (h : IInv e k l r R0) (hf : Fits e) (hk : k < e.length) (hp : e.getD k default = p) (h1 : ¬ p.kind = 1) (h3' : p.kind = 3) : p.n.toNat ≤ l.length ∧ 0 ≤ p.n ∧ p.n ≤ 1099511627776 ∧ ManyB r [putP (enc (l.take p.n.toNat))] ∧ IInv e (k + 1) (l.drop p.n.toNat) (addRs r [putP (enc (l.take p.n.toNat))]) R0 := by
  have hd := drop_getD hk hp
  have h2 := h.go; have h3 := h.from_; have h4 := h.mb
  have hfd : Fits (e.drop k) := fun q hq => hf q (List.mem_of_mem_drop hq)
  rw [hd] at h2 h3 h4 hfd
  have h5 := fitsB_cases (hfd p (.head _)); have h6 := fromS_pos hfd.tail
  simp only [fromS] at h3
  rw [if_neg (by omega)] at h3
  simp only [nsum, List.length_cons] at h4
  have hpf := put_fits (t := l.take p.n.toNat) (fun x hx => h.sc x (List.mem_of_mem_take hx)) (by rw [List.length_take]; omega) (by rw [List.length_take]; omega)
  have hpn : (putP (enc (l.take p.n.toNat))).n = p.n := by rw [hpf.2, List.length_take]; omega
  refine ⟨by omega, by omega, by omega, h4.many hpf.1 (by omega) (by omega), by omega, ?_, ?_, fun x hx => h.sc x (List.mem_of_mem_drop hx), h4.add hpf.1 (by omega) (by omega)⟩
  · rw [invGo, if_neg h1, if_pos h3'] at h2; exact h2
  · rw [List.length_drop]; omega
theorem IInv.stepP (h : IInv e k l r R0) (hf : Fits e) (hk : k < e.length) (hp : e.getD k default = p) (h1 : ¬ p.kind = 1) (h3' : ¬ p.kind = 3) : ManyB r [dropP p.n] ∧ IInv e (k + 1) l (addRs r [dropP p.n]) R0 := by
  have hd := drop_getD hk hp
  have h2 := h.go; have h3 := h.from_; have h4 := h.mb
  have hfd : Fits (e.drop k) := fun q hq => hf q (List.mem_of_mem_drop hq)
  rw [hd] at h2 h3 h4 hfd
  have h5 := fitsB_cases (hfd p (.head _)); have h6 := fromS_pos hfd.tail
  have hk2 : p.kind = 2 := by omega
  simp only [fromS] at h3
  rw [if_pos hk2] at h3
  simp only [nsum, List.length_cons] at h4
  have hdf := drop_fits h5.1 h5.2.1
  have hdn : (dropP p.n).n = p.n := rfl
  refine ⟨h4.many hdf (by omega) (by omega), by omega, ?_, by omega, h.sc, h4.add hdf (by omega) (by omega)⟩
  rw [invGo, if_neg h1, if_neg h3'] at h2; exact h2
theorem IInv.stop (h : IInv e k l r R0) (hk : ¬ k < e.length) : r = R0 := by
  have h2 := h.go
  rw [List.drop_eq_nil_of_le (by omega)] at h2; exact h2
theorem IInv.texts (h : IInv e k l r R0) (hf : Fits e) : ∀ p ∈ r, p.text.size < 9223372036854775807 := h.mb.texts (fromS_pos (fun q hq => hf q (List.mem_of_mem_drop hq))).2.2.2
end
theorem inv_bad {e : List Part} {s : ByteArray} (h : applyBad e s) : invE e s = 30 ∧ invF e s = [] := by
  have h1 : invE e s = 30 := if_pos h
  exact ⟨h1, if_neg (by rw [h1]; decide)⟩
theorem inv_long {e : List Part} {s : ByteArray} (h : ¬ applyBad e s) (h2 : ¬ (sizesF (invR e s).reverse).2.2 = true) : invE e s = 4 ∧ invF e s = [] := by
  have h1 : invE e s = 4 := by rw [invE, if_neg h, if_neg h2]
  exact ⟨h1, if_neg (by rw [h1]; decide)⟩
theorem inv_ok {e : List Part} {s : ByteArray} (h : ¬ applyBad e s) (h2 : (sizesF (invR e s).reverse).2.2 = true) : invE e s = 0 ∧ invF e s = (invR e s).reverse := by
  have h1 : invE e s = 0 := by rw [invE, if_neg h, if_pos h2]
  exact ⟨h1, if_pos h1⟩
/-! ### One form -/
theorem fits_nsum : ∀ {e : List Part}, Fits e → 0 ≤ nsum e ∧ nsum e ≤ e.length * 1099511627776 ∧ (tsum e : Int) ≤ 4 * nsum e
  | [], _ => by simp [nsum, tsum]
  | p :: r, h => by
    have h1 := fitsB_n (h p (.head _)); have h2 := fits_size (h p (.head _)); have h3 := fits_nsum h.tail
    simp only [nsum, tsum, List.length_cons]
    omega
theorem norm_many {l : List Part} {p : Part} (hf : Fits l) (hl : l.length ≤ 524288) (hp : fitsB p = true) : ManyB (addRs [] l) [p] := by
  obtain ⟨a1, a2, a3, a4⟩ := addRs_facts l [] (by simp) (fun q hq => by have := fitsB_n (hf q hq); omega)
  have h1 := fits_nsum hf; have h2 := fitsB_n hp; have h3 := fits_size hp
  simp only [nsum, tsum, List.length_nil] at a2 a3 a4
  refine ⟨a1, fun q hq => by rw [List.mem_singleton] at hq; subst hq; omega, ?_, ?_, by simp only [List.length_singleton]; omega⟩
  · simp only [nsum]; omega
  · simp only [tsum]; omega
theorem filter_fits (l : List Part) : Fits (l.filter fitsB) := fun p hp => (List.mem_filter.1 hp).2
theorem filter_take {l : List Part} {k : Nat} {p : Part} (hk : k < l.length) (hp : l.getD k default = p) : (l.take (k + 1)).filter fitsB = (l.take k).filter fitsB ++ (if fitsB p = true then [p] else []) := by
  rw [take_getD hk hp, List.filter_append]
  congr 1
  rw [List.filter_cons, List.filter_nil]
/-! ### Cursors and weights -/
def curGo : List Part → Int → Bool → Int → Int
  | [], _, _, to => to
  | p :: r, at', ah, to => if p.kind = 2 ∧ (0 < at' ∨ ah = true) then curGo r at' ah (to + p.n) else if at' = 0 then to else
      if minI p.n at' < p.n then (if p.kind = 1 then to + minI p.n at' else to) else curGo r (at' - minI p.n at') ah (if p.kind = 1 then to + minI p.n at' else to)
def curBad (e : List Part) (at' : Int) : Prop := (sizesF e).2.2 = false ∨ at' < 0 ∨ (sizesF e).1 < at'
instance (e : List Part) (i : Int) : Decidable (curBad e i) := by unfold curBad; infer_instance
def curF (e : List Part) (at' : Int) (ah : Bool) : Int := if curBad e at' then 0 else curGo e at' ah 0
def curE (e : List Part) (at' : Int) : Int := if curBad e at' then 30 else 0
structure UInv (e : List Part) (k : Nat) (i : Int) (ah : Bool) (to R0 : Int) : Prop where
  kle : k ≤ e.length
  go : curGo (e.drop k) i ah to = R0
  i0 : 0 ≤ i
  i1 : i ≤ 1099511627776
  t0 : 0 ≤ to
  t1 : to + toS (e.drop k) ≤ 1099511627776
theorem UInv.start {e : List Part} {i : Int} {ah : Bool} (h : ¬ curBad e i) : UInv e 0 i ah 0 (curGo e i ah 0) ∧ Fits e := by
  unfold curBad at h
  have h1 : (sizesF e).2.2 = true := by cases hh : (sizesF e).2.2 <;> simp_all
  have h2 := sizesF_sum h1; have h3 := sizesF_bound e
  exact ⟨⟨Nat.zero_le _, rfl, by omega, by omega, by omega, by rw [List.drop_zero]; omega⟩, h2.2.2⟩
section
variable {e : List Part} {k : Nat} {i : Int} {ah : Bool} {to R0 : Int} {p : Part}
theorem UInv.pos (h : UInv e k i ah to R0) (hf : Fits e) (hk : k < e.length) (hp : e.getD k default = p) : 1 ≤ p.n ∧ p.n ≤ 1099511627776 ∧ to ≤ 1099511627776 := by
  have hd := drop_getD hk hp
  have hfd : Fits (e.drop k) := fun q hq => hf q (List.mem_of_mem_drop hq)
  have h4 := h.t1; have h6 := fromS_pos hfd
  rw [hd] at hfd
  have := fitsB_n (hfd p (.head _))
  omega
theorem UInv.stepP (h : UInv e k i ah to R0) (hf : Fits e) (hk : k < e.length) (hp : e.getD k default = p) (h1 : p.kind = 2) (h2 : 0 < i ∨ ah = true) : UInv e (k + 1) i ah (to + p.n) R0 := by
  have hd := drop_getD hk hp
  have h0 := h.pos hf hk hp
  have h3 := h.go; have h4 := h.t1
  rw [hd] at h3 h4
  simp only [toS] at h4
  rw [if_neg (by omega)] at h4
  rw [curGo, if_pos ⟨h1, h2⟩] at h3
  have := h.t0
  exact ⟨by omega, h3, h.i0, h.i1, by omega, by omega⟩
theorem UInv.ret0 (h : UInv e k i ah to R0) (hk : k < e.length) (hp : e.getD k default = p) (h1 : ¬ (p.kind = 2 ∧ (0 < i ∨ ah = true))) (h2 : i = 0) : to = R0 := by
  have h3 := h.go
  rw [drop_getD hk hp, curGo, if_neg h1, if_pos h2] at h3
  exact h3
theorem UInv.ret1 (h : UInv e k i ah to R0) (hk : k < e.length) (hp : e.getD k default = p) (h1 : ¬ (p.kind = 2 ∧ (0 < i ∨ ah = true))) (h2 : ¬ i = 0) (h4 : minI p.n i < p.n) : (if p.kind = 1 then to + minI p.n i else to) = R0 := by
  have h3 := h.go
  rw [drop_getD hk hp, curGo, if_neg h1, if_neg h2, if_pos h4] at h3
  exact h3
theorem UInv.stepB (h : UInv e k i ah to R0) (hf : Fits e) (hk : k < e.length) (hp : e.getD k default = p) (h1 : ¬ (p.kind = 2 ∧ (0 < i ∨ ah = true))) (h2 : ¬ i = 0) (h4 : ¬ minI p.n i < p.n) : UInv e (k + 1) (i - minI p.n i) ah (if p.kind = 1 then to + minI p.n i else to) R0 := by
  have hd := drop_getD hk hp
  have h0 := h.pos hf hk hp
  have h3 := h.go; have h5 := h.t1; have h6 := h.t0; have h7 := h.i0; have h8 := h.i1
  rw [hd] at h3 h5
  simp only [toS] at h5
  rw [curGo, if_neg h1, if_neg h2, if_neg h4] at h3
  have hm := minI_le p.n i
  refine ⟨by omega, h3, by omega, by omega, ?_, ?_⟩
  · split <;> omega
  · split
    · rw [if_neg (by omega)] at h5; omega
    · split at h5 <;> omega
theorem UInv.stop (h : UInv e k i ah to R0) (hk : ¬ k < e.length) : to = R0 := by
  have h2 := h.go
  rw [List.drop_eq_nil_of_le (by omega)] at h2; exact h2
end
theorem cur_bad {e : List Part} {i : Int} {ah : Bool} (h : curBad e i) : curF e i ah = 0 ∧ curE e i = 30 := ⟨if_pos h, if_pos h⟩
theorem cur_ok {e : List Part} {i : Int} {ah : Bool} (h : ¬ curBad e i) : curF e i ah = curGo e i ah 0 ∧ curE e i = 0 := ⟨if_neg h, if_neg h⟩
end Go.SK
