/- Plain words: what the laws of several edits ask, as the program's answers tell it. -/
import Derived.Test.YtgklklmcmdcpgaaDoorP18
import Derived.Test.YtgklklmcmdcpgaaDoorP8
set_option linter.unusedVariables false
set_option linter.unusedSimpArgs false
set_option maxRecDepth 100000
namespace Go.SK
open Go
theorem sizeE_ok {e : List Part} (h : sizeE e = 0) : Ok e ∧ (sizeF e).1 = fromS e ∧ (sizeF e).2 = toS e := by
  have h1 : (sizesF e).2.2 = true := by unfold sizeE at h; by_cases c : (sizesF e).2.2 = true; exact c; rw [if_neg c] at h; omega
  have o := ok_iff.1 h1
  unfold sizeF
  rw [if_pos h1, o.sizes]; exact ⟨o, rfl, rfl⟩
theorem ok_size {e : List Part} (o : Ok e) : sizeE e = 0 ∧ (sizeF e).1 = fromS e ∧ (sizeF e).2 = toS e := by
  have h1 := ok_iff.2 o
  unfold sizeE sizeF
  rw [if_pos h1, if_pos h1, o.sizes]; exact ⟨rfl, rfl, rfl⟩
theorem applyE_z {e : List Part} {s : ByteArray} (h : applyE e s = 0) : valid s = true ∧ Ok e ∧ fromS e = (dec s).length := by
  refine applyBad_iff.1 fun hb => ?_
  rw [(apply_bad hb).2] at h; omega
theorem applyE_nz {e : List Part} {s : ByteArray} (h : applyE e s ≠ 0) : applyF e s = ⟨#[]⟩ := by
  by_cases hb : applyBad e s
  · exact (apply_bad hb).1
  · exact absurd (apply_ok hb).2 h
theorem applyF_size (e : List Part) (s : ByteArray) : (applyF e s).size ≤ 4398046511104 := by
  by_cases hb : applyBad e s
  · rw [(apply_bad hb).1]; decide
  · obtain ⟨hv, o, hn⟩ := applyBad_iff.1 hb
    obtain ⟨_, h2, _, h4, h5⟩ := apply_law hv o hn
    have h6 := (enc_size (runS id e (dec s)).1).2
    rw [← h4] at h6
    rw [h2, ← h4]
    have := o.2.2.2; omega
theorem repl_len (n a k : Int) (s : ByteArray) : (replF n a k s).length ≤ 4 := by
  unfold replF
  split
  · simp
  · rw [List.length_reverse]; exact addRs_len _ []
theorem square_z {a b : List Part} (z : trE a b = 0) : compE a (trF2 a b) = 0 ∧ compE b (trF1 a b) = 0 ∧ compF a (trF2 a b) = compF b (trF1 a b) := by
  obtain ⟨hb, _, h3, h4⟩ := trE_z z
  obtain ⟨oa, ob, e1⟩ := trBad_iff.1 hb
  rcases trE_cases oa ob with ⟨_, _, o1, _⟩ | ⟨h, _⟩ | ⟨h, _⟩
  · obtain ⟨l1, l2, l3, _⟩ := square_law oa ob e1 (by rw [← h3]; exact o1.2.2.2)
    exact ⟨l1, l2, l3⟩
  · omega
  · omega
theorem tr_nz {a b : List Part} (h : trE a b ≠ 0) : trF1 a b = [] ∧ trF2 a b = [] := ⟨if_neg h, if_neg h⟩
theorem anyway_z {a b c : List Part} (z1 : compE a b = 0) (z2 : compE b c = 0) : compE (compF a b) c = 0 ∧ compE a (compF b c) = 0 ∧ compF (compF a b) c = compF a (compF b c) := by
  obtain ⟨oa, ob, e1⟩ := compBad_iff.1 (compE_z z1).1
  obtain ⟨_, oc, e2⟩ := compBad_iff.1 (compE_z z2).1
  exact anyway_law oa ob oc e1 e2
theorem row_z {a b : List Part} {s : ByteArray} (z1 : applyE a s = 0) (z2 : applyE b (applyF a s) = 0) : compE a b = 0 ∧ applyE (compF a b) s = 0 ∧ applyF (compF a b) s = applyF b (applyF a s) := by
  obtain ⟨hv, oa, hn⟩ := applyE_z z1
  obtain ⟨hv2, ob, hn2⟩ := applyE_z z2
  obtain ⟨a1, a2, a3, a4, a5⟩ := apply_law hv oa hn
  obtain ⟨b1, b2, b3, b4, b5⟩ := apply_law hv2 ob hn2
  obtain ⟨c1, c2, c3, c4, c5⟩ := comp_law oa ob (by omega)
  obtain ⟨d1, d2, d3, d4, d5⟩ := apply_law hv c2 (by omega)
  refine ⟨c1, d1, ?_⟩
  rw [d2, b2, c5 id (dec s) hn.symm, a4]
theorem back_z {e : List Part} {s : ByteArray} (z : applyE e s = 0) : invE e s = 0 ∧ applyE (invF e s) (applyF e s) = 0 ∧ applyF (invF e s) (applyF e s) = s ∧ invE (invF e s) (applyF e s) = 0 ∧
    applyE (invF (invF e s) (applyF e s)) s = 0 ∧ applyF (invF (invF e s) (applyF e s)) s = applyF e s := by
  obtain ⟨hv, oe, hn⟩ := applyE_z z
  obtain ⟨a1, a2, a3, a4, a5⟩ := apply_law hv oe hn
  obtain ⟨b1, b2, b3, b4, b5, b6⟩ := inv_law hv oe hn
  obtain ⟨c1, c2, c3, c4, c5, c6⟩ := inv_law a3 b2 (by omega)
  rw [b6] at c5 c6
  exact ⟨b1, b5, b6, c1, c5, c6⟩
theorem nothing_z {e : List Part} (z : sizeE e = 0) :
    replE (sizeF e).1 0 0 ⟨#[]⟩ = 0 ∧ replE (sizeF e).2 0 0 ⟨#[]⟩ = 0 ∧ compE (replF (sizeF e).1 0 0 ⟨#[]⟩) e = 0 ∧ compE e (replF (sizeF e).2 0 0 ⟨#[]⟩) = 0 ∧ trE e (replF (sizeF e).1 0 0 ⟨#[]⟩) = 0 ∧
    compF (replF (sizeF e).1 0 0 ⟨#[]⟩) e = e ∧ compF e (replF (sizeF e).2 0 0 ⟨#[]⟩) = e ∧ trF1 e (replF (sizeF e).1 0 0 ⟨#[]⟩) = e ∧ trF2 e (replF (sizeF e).1 0 0 ⟨#[]⟩) = replF (sizeF e).2 0 0 ⟨#[]⟩ := by
  obtain ⟨oe, h1, h2⟩ := sizeE_ok z
  rw [h1, h2]
  exact nothing_law oe rfl rfl
theorem form_z {a b : List Part} (za : sizeE a = 0) (zb : sizeE b = 0) :
    (compE a b = 0 → sizeE (compF a b) = 0 ∧ (sizeF (compF a b)).1 = (sizeF a).1 ∧ (sizeF (compF a b)).2 = (sizeF b).2 ∧ (sizeF a).2 = (sizeF b).1 ∧ normF (compF a b) = compF a b) ∧
    (compE a b ≠ 0 → compE a b = 30 ∧ (sizeF a).2 ≠ (sizeF b).1) ∧
    (trE a b ≠ 0 → decide (trE a b = 30) = decide ((sizeF a).1 ≠ (sizeF b).1)) ∧
    (trE a b = 0 → sizeE (trF1 a b) = 0 ∧ sizeE (trF2 a b) = 0 ∧ (sizeF (trF1 a b)).1 = (sizeF b).2 ∧ (sizeF (trF2 a b)).1 = (sizeF a).2 ∧ (sizeF (trF1 a b)).2 = (sizeF (trF2 a b)).2) := by
  obtain ⟨oa, a1, a2⟩ := sizeE_ok za
  obtain ⟨ob, b1, b2⟩ := sizeE_ok zb
  refine ⟨fun h => ?_, fun h => ?_, fun h => ?_, fun h => ?_⟩
  · rcases compE_cases oa ob with ⟨_, e⟩ | ⟨h', _⟩
    · obtain ⟨c1, c2, c3, c4, _⟩ := comp_law oa ob e
      obtain ⟨d1, d2, d3⟩ := ok_size c2
      exact ⟨d1, by omega, by omega, by omega, norm_ok c2⟩
    · omega
  · rcases compE_cases oa ob with ⟨h', e⟩ | ⟨h', e⟩
    · exact absurd h' h
    · exact ⟨h', by omega⟩
  · rcases trE_cases oa ob with ⟨h', _⟩ | ⟨h', e⟩ | ⟨h', e⟩
    · exact absurd h' h
    · rw [h', a1, b1]; simp [e]
    · rw [h', a1, b1]; simp [e]
  · rcases trE_cases oa ob with ⟨_, _, o1, o2, f1, f2, t⟩ | ⟨h', e⟩ | ⟨h', e⟩
    · obtain ⟨d1, d2, d3⟩ := ok_size o1
      obtain ⟨g1, g2, g3⟩ := ok_size o2
      exact ⟨d1, g1, by omega, by omega, by omega⟩
    · omega
    · omega
theorem through_z {a b c : List Part} (z1 : compE b c = 0) (z2 : trE a b = 0) (ha : Narrow a) (hb : Narrow b) (hc : Narrow c) :
    trE (trF1 a b) c = 0 ∧ trE a (compF b c) = 0 ∧ (sizeF (trF1 a (compF b c))).1 = (sizeF (trF1 (trF1 a b) c)).1 ∧ weightF (trF1 (trF1 a b) c) = weightF (trF1 a (compF b c)) := by
  obtain ⟨ob, oc, e2⟩ := compBad_iff.1 (compE_z z1).1
  obtain ⟨oa, _, e1⟩ := trBad_iff.1 (trE_z z2).1
  obtain ⟨a1, a2, a3⟩ := ok_size oa
  obtain ⟨b1, b2, b3⟩ := ok_size ob
  obtain ⟨c1, c2, c3⟩ := ok_size oc
  have ha' := ha a1; have hb' := hb b1; have hc' := hc c1
  obtain ⟨l1, l2, l3, l4, l5, l6⟩ := through_law oa ob oc e1 e2 z2 (by omega) (by omega) (by omega) (by omega)
  exact ⟨l1, l2, by rw [(ok_size l5).2.1, (ok_size l6).2.1]; exact l3, l4⟩
theorem cur_z {e : List Part} {i : Int} (h : curE e i = 0) : 0 ≤ i ∧ i ≤ fromS e ∧ Ok e := by
  have hb : ¬ curBad e i := fun hb => by rw [(cur_bad (ah := false) hb).2] at h; omega
  unfold curBad at hb
  have o : Ok e := ok_iff.1 (by by_cases c : (sizesF e).2.2 = true; exact c; exact absurd (.inl (by simpa using c)) hb)
  have := (cur_E o).1 h
  exact ⟨this.1, this.2, o⟩
/-- Where a cursor goes stays within what is made. -/
theorem cur_out {e : List Part} {i : Int} (ah : Bool) (h : curE e i = 0) : 0 ≤ curF e i ah ∧ curF e i ah ≤ toS e := by
  obtain ⟨h0, h1, o⟩ := cur_z h
  have hb : ¬ curBad e i := fun hb => by rw [(cur_bad (ah := false) hb).2] at h; omega
  rw [(cur_ok hb).1]
  have := cur_in e i 0 ah o.1 h0
  omega
theorem dropN_pos : ∀ {e : List Part}, FitsU e → 0 ≤ dropN e
  | [], _ => by simp [dropN]
  | p :: r, h => by have h1 := (h p (.head _)).1; have := dropN_pos h.tail; simp only [dropN]; split <;> omega
theorem dropN_le : ∀ {e : List Part}, FitsU e → dropN e ≤ fromS e
  | [], _ => by simp [dropN, fromS]
  | p :: r, h => by have h1 := (h p (.head _)).1; have := dropN_le h.tail; simp only [dropN, fromS]; split <;> split <;> omega
theorem go_z {a b : List Part} {i : Int} {ah : Bool} (z : compE a b = 0) (hc : curE a i = 0) :
    curE b (curF a i ah) = 0 ∧ curE (compF a b) i = 0 ∧ 0 ≤ (weightF a).2 ∧ 0 ≤ (weightF b).2 ∧ (weightF a).2 ≤ 1099511627776 ∧ (weightF b).2 ≤ 1099511627776 ∧
    (¬ 0 < (weightF a).2 + (weightF b).2 → curF (compF a b) i ah = curF b (curF a i ah) ah) := by
  obtain ⟨oa, ob, e⟩ := compBad_iff.1 (compE_z z).1
  obtain ⟨h0, h1, _⟩ := cur_z hc
  obtain ⟨k0, k1⟩ := cur_out ah hc
  obtain ⟨_, c2, c3, _⟩ := comp_law oa ob e
  have wa := weight_ok oa.fits
  have wb := weight_ok ob.fits
  have da := dropN_pos oa.1; have db := dropN_pos ob.1
  have da2 := dropN_le oa.1; have db2 := dropN_le ob.1
  have fa := oa.2.2.1; have fb := ob.2.2.1
  rw [wa, wb]
  refine ⟨(cur_E ob).2 ⟨k0, by omega⟩, (cur_E c2).2 ⟨h0, by omega⟩, da, db, by omega, by omega, fun hd => ?_⟩
  exact go_law oa ob e (noDrop_of oa.1 (by omega)) (noDrop_of ob.1 (by omega)) ah h0 h1
theorem order_z {e : List Part} {i k : Int} (z : sizeE e = 0) (hi : 0 ≤ i) (hi2 : i ≤ (sizeF e).1) (hk : 0 ≤ k) (hk2 : k ≤ (sizeF e).1) :
    ∀ lo hi, lo = minI i k → (hi = i ∨ hi = k) → i ≤ hi → k ≤ hi → curE e lo = 0 ∧ curE e hi = 0 ∧ 0 ≤ curF e lo false ∧ curF e lo false ≤ curF e lo true ∧ curF e lo true ≤ (sizeF e).2 ∧ curF e lo false ≤ curF e hi false := by
  obtain ⟨oe, h1, h2⟩ := sizeE_ok z
  intro lo up hlo hup h3 h4
  have hm := minI_le i k
  have l0 : curE e lo = 0 := (cur_E oe).2 ⟨by omega, by omega⟩
  have u0 : curE e up = 0 := (cur_E oe).2 ⟨by omega, by omega⟩
  have lb : ¬ curBad e lo := fun hb => by rw [(cur_bad (ah := false) hb).2] at l0; omega
  have ub : ¬ curBad e up := fun hb => by rw [(cur_bad (ah := false) hb).2] at u0; omega
  have o1 := cur_out false l0
  have o2 := cur_out true l0
  refine ⟨l0, u0, o1.1, ?_, by omega, ?_⟩
  · rw [(cur_ok lb).1, (cur_ok lb).1]; exact cur_ahead e lo 0 oe.1 (by omega)
  · rw [(cur_ok lb).1, (cur_ok ub).1]; exact cur_mono e lo up 0 false oe.1 (by omega) (by omega)
/-! ### Two edits of one text -/
theorem puts_tl : ∀ {e : List Part}, FitsU e → (∀ p ∈ e, p.text.size < 4096) → putsN e ≤ tl e
  | [], _, _ => by simp [putsN, tl]
  | p :: r, h, hs => by
    have ih := puts_tl h.tail fun q hq => hs q (.tail _ hq)
    have h1 := hs p (.head _)
    have h2 := dec_len p.text
    have hm : minI (p.text.size : Int) 4096 = p.text.size := by unfold minI; rw [if_neg (by omega)]
    simp only [putsN, tl, hm]
    rcases (h p (.head _)).2 with ⟨k, _⟩ | ⟨k, _⟩ | ⟨k, _, k2⟩
    · rw [if_neg (by omega)]; omega
    · rw [if_neg (by omega)]; omega
    · rw [if_pos k]; omega
theorem tl_pos : ∀ (e : List Part), 0 ≤ tl e
  | [] => by simp [tl]
  | p :: r => by have := tl_pos r; have := minI_le (p.text.size : Int) 4096; simp only [tl]; omega
theorem tl_long : ∀ {e : List Part} {p : Part}, p ∈ e → minI p.text.size 4096 ≤ tl e
  | q :: r, p, h => by
    have := tl_pos r; have := minI_le (q.text.size : Int) 4096
    simp only [tl]
    rcases List.mem_cons.1 h with rfl | h
    · omega
    · have := tl_long h; omega
theorem tl_zero : ∀ {e : List Part}, FitsU e → tl e ≤ 0 → putsN e = 0
  | [], _, _ => rfl
  | p :: r, h, hz => by
    have h3 := tl_pos r; have hm := minI_le (p.text.size : Int) 4096
    simp only [tl] at hz
    have h2 := dec_len p.text
    simp only [putsN, tl_zero h.tail (by omega)]
    rcases (h p (.head _)).2 with ⟨k, _⟩ | ⟨k, _⟩ | ⟨k, _, k2⟩
    · rw [if_neg (by omega)]; omega
    · rw [if_neg (by omega)]; omega
    · rw [if_pos k]; omega
/-- What the dropped and kept ones are. -/
theorem toS_eq : ∀ {e : List Part}, FitsU e → toS e = fromS e - dropN e + putsN e
  | [], _ => rfl
  | p :: r, h => by
    have := toS_eq h.tail
    simp only [toS, fromS, dropN, putsN]
    rcases (h p (.head _)).kinds with k | k | k
    · rw [if_neg (by omega), if_neg (by omega), if_neg (by omega), if_neg (by omega)]; omega
    · rw [if_neg (by omega), if_pos k, if_neg (by omega), if_pos k]; omega
    · rw [if_pos k, if_neg (by omega), if_pos k, if_neg (by omega)]; omega
theorem diamond_small {a b : List Part} (oa : Ok a) (ob : Ok b) (e : fromS a = fromS b) (hn : fromS a ≤ 4096) (hl : tl a + tl b ≤ 4096) : toS (trR1 a b).reverse ≤ 1099511627776 := by
  obtain ⟨m1, m2, f1, f2, t, hp, _, _⟩ := tr_law oa ob e
  have hu : ∀ {r : List Part}, MK r → FitsU r.reverse := fun h q hq => h.fit q (List.mem_reverse.1 hq)
  have h1 := (toS_puts (hu m1)).1
  have h2 := toS_eq (hu m1)
  have h3 := dropN_pos (hu m1)
  have pa := fromS_posU oa.1; have pb := fromS_posU ob.1
  have ta := toS_eq oa.1; have tb := toS_eq ob.1
  have da := dropN_pos oa.1; have db := dropN_pos ob.1
  have qa := (toS_puts oa.1).2; have qb := (toS_puts ob.1).2
  have la := tl_pos a; have lb := tl_pos b
  have dla := dropN_le oa.1
  have dlb := dropN_le ob.1
  have fa := oa.2.2; have fb := ob.2.2
  by_cases hb0 : ∀ p ∈ b, p.text.size < 4096
  · by_cases ha0 : ∀ p ∈ a, p.text.size < 4096
    · have := puts_tl oa.1 ha0; have := puts_tl ob.1 hb0; omega
    · -- a long text in a: nothing is put in b
      obtain ⟨p, hp1, hp2⟩ : ∃ p ∈ a, ¬ p.text.size < 4096 := by
        by_cases h : ∃ p ∈ a, ¬ p.text.size < 4096
        · exact h
        · exact absurd (fun p hp => Decidable.not_not.1 fun hn => h ⟨p, hp, hn⟩) ha0
      have h5 := tl_long hp1
      have hm : minI (p.text.size : Int) 4096 = 4096 ∨ minI (p.text.size : Int) 4096 = p.text.size := by unfold minI; split; exact .inl rfl; exact .inr rfl
      have hz := tl_zero ob.1 (by omega)
      rw [f1, hp] at h2
      -- what b makes is no longer than what it is of
      have d1 : dropN (trR1 a b).reverse ≥ dropN a - dropN b := by
        obtain ⟨_, _, _, _, _, _, hv, _⟩ := tr_law oa ob e
        have c1 := dv_drop (hu m1)
        rw [hv] at c1
        have c2 := dv_drop oa.1
        have c3 := run_count b (dv a) ob.1 (by rw [dv_len oa.1]; omega)
        have c4 := c3.1
        rw [c3.2 (by rw [dv_len oa.1]; omega)] at c4
        simp only [List.count_nil] at c4
        omega
      omega
  · obtain ⟨p, hp1, hp2⟩ : ∃ p ∈ b, ¬ p.text.size < 4096 := by
      by_cases h : ∃ p ∈ b, ¬ p.text.size < 4096
      · exact h
      · exact absurd (fun p hp => Decidable.not_not.1 fun hn => h ⟨p, hp, hn⟩) hb0
    have h5 := tl_long hp1
    have hm : minI (p.text.size : Int) 4096 = 4096 ∨ minI (p.text.size : Int) 4096 = p.text.size := by unfold minI; split; exact .inl rfl; exact .inr rfl
    have hz := tl_zero oa.1 (by omega)
    omega
theorem diamond_z {a b : List Part} {s : ByteArray} (z1 : applyE a s = 0) (z2 : applyE b s = 0) (hs : s.size ≤ 4096) (hl : tl a + tl b ≤ 4096) :
    trE a b = 0 ∧ applyE (trF2 a b) (applyF a s) = 0 ∧ applyE (trF1 a b) (applyF b s) = 0 ∧ compE a (trF2 a b) = 0 ∧ compE b (trF1 a b) = 0 ∧ applyF (trF2 a b) (applyF a s) = applyF (trF1 a b) (applyF b s) ∧
    compF a (trF2 a b) = compF b (trF1 a b) ∧ checkF (compF a (trF2 a b)) (rcount s) = 0 ∧ checkF (compF b (trF1 a b)) (rcount s) = 0 := by
  obtain ⟨hv, oa, hna⟩ := applyE_z z1
  obtain ⟨_, ob, hnb⟩ := applyE_z z2
  have hd := dec_len s
  have hle := diamond_small oa ob (by omega) (by omega) hl
  obtain ⟨m1, m2, f1, f2, t, _, _, r⟩ := tr_law oa ob (by omega)
  obtain ⟨c1, c2, c3, o1, o2⟩ := tr_law_ok oa ob (by omega) hle
  rw [← c2] at f1 r t; rw [← c3] at f2 r t
  obtain ⟨g1, g2, g3, g4, g5⟩ := square_law oa ob (by omega) hle
  obtain ⟨a1, a2, a3, a4, a5⟩ := apply_law hv oa hna
  obtain ⟨b1, b2, b3, b4, b5⟩ := apply_law hv ob hnb
  obtain ⟨p1, p2, _⟩ := apply_law a3 o2 (by omega)
  obtain ⟨q1, q2, _⟩ := apply_law b3 o1 (by omega)
  have ck : checkF (compF a (trF2 a b)) (rcount s) = 0 := checkF_iff.2 ⟨g4, by rw [g5, rcount_dec]; exact hna⟩
  refine ⟨c1, p1, q1, g1, g2, ?_, g3, ck, by rw [← g3]; exact ck⟩
  rw [p2, q2, a4, b4, r id (dec s) hna.symm]
end Go.SK
