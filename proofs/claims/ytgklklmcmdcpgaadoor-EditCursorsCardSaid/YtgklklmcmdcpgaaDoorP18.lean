/- Plain words: edits that keep all, an edit's one form, what it weighs, and cursors through two that drop nothing. -/
import Derived.Test.YtgklklmcmdcpgaaDoorP17
set_option linter.unusedVariables false
set_option linter.unusedSimpArgs false
set_option maxRecDepth 100000
namespace Go.SK
open Go
/-! ### Edits that keep all -/
def allKeep (e : List Part) : Prop := ∀ p ∈ e, p.kind = 1
theorem allKeep.tail {p : Part} {r : List Part} (h : allKeep (p :: r)) : allKeep r := fun q hq => h q (.tail _ hq)
theorem allKeep.cons {p : Part} {r : List Part} (h : p.kind = 1) (h' : allKeep r) : allKeep (p :: r) := fun q hq => (List.mem_cons.1 hq).elim (fun x => x ▸ h) (h' q)
theorem allKeep.nil : allKeep [] := fun p hp => by cases hp
theorem allKeep.append {a b : List Part} (h : allKeep a) (h' : allKeep b) : allKeep (a ++ b) := fun q hq => (List.mem_append.1 hq).elim (h q) (h' q)
theorem allKeep.rest {y : Part} {ys : List Part} (h : allKeep (y :: ys)) (n : Int) : allKeep (restP y ys n) := by
  unfold restP
  split
  · exact h.tail
  · exact allKeep.cons (h y (.head _)) h.tail
section
variable {β : Type} (ι : Int → β)
theorem run_keep : ∀ (e : List Part) (l : List β), FitsU e → allKeep e → (l.length : Int) = fromS e → (runS ι e l).1 = l
  | [], l, _, _, hl => by
    simp only [fromS] at hl
    have : l = [] := List.length_eq_zero_iff.1 (by omega)
    rw [this]; rfl
  | p :: r, l, hf, hk, hl => by
    have h1 := (hf p (.head _)).1
    have hk1 := hk p (.head _)
    have hp := fromS_posU hf.tail
    simp only [fromS, if_neg (show ¬ p.kind = 2 by omega)] at hl
    rw [runS_cons, (ot_keep ι hk1 l).1, (ot_keep ι hk1 l).2]
    show _ ++ _ = _
    rw [run_keep r (l.drop p.n.toNat) hf.tail hk.tail (by rw [List.length_drop]; omega), List.take_append_drop]
end
theorem tr_keep2 : ∀ (f : Nat) (xs ys : List Part), allKeep ys → allKeep (trGo f xs ys).2
  | 0, xs, ys, h => by simp only [trGo]; exact allKeep.nil
  | f + 1, xs, ys, h => by
    unfold trGo
    split
    · exact allKeep.nil
    · split
      · split
        · rename_i xs' _ _
          exact allKeep.cons rfl (tr_keep2 f _ ys h)
        · exact allKeep.nil
      · split
        · rename_i hy
          cases ys with
          | nil => exact allKeep.nil
          | cons y ys' => exact absurd hy (by have := h y (.head _); simp only [kindL]; omega)
        · split
          · rename_i x xs' y ys' _ _ _
            refine allKeep.append ?_ (tr_keep2 f _ _ (h.rest _))
            split
            · exact allKeep.cons (h y (.head _)) allKeep.nil
            · exact allKeep.nil
          · exact allKeep.nil
theorem keep_one {n : Int} (h : 0 ≤ n) (h1 : n ≤ 1099511627776) : replE n 0 0 ⟨#[]⟩ = 0 ∧ Ok (replF n 0 0 ⟨#[]⟩) ∧ fromS (replF n 0 0 ⟨#[]⟩) = n ∧ toS (replF n 0 0 ⟨#[]⟩) = n ∧ allKeep (replF n 0 0 ⟨#[]⟩) := by
  have hb : ¬ replBad n 0 0 ⟨#[]⟩ := by
    have : rcount ⟨#[]⟩ = 0 := by rw [rcount_dec]; rfl
    have hv := valid_empty
    unfold replBad; rw [this, hv]; simp only [Bool.true_eq_false, or_false, false_or]; omega
  obtain ⟨o, f, t⟩ := repl_ok hb
  have : rcount ⟨#[]⟩ = 0 := by rw [rcount_dec]; rfl
  refine ⟨if_neg hb, o, f, by rw [t, this]; omega, ?_⟩
  unfold replF
  rw [if_neg hb]
  have e : addRs [] [keepP 0, putP ⟨#[]⟩, dropP 0, keepP (n - 0 - 0)] = addR [] (keepP n) := by
    have h1 : addR [] (keepP 0) = [] := addR_zero rfl
    have h2 : addR [] (putP ⟨#[]⟩) = [] := addR_zero (by show ((rcount ⟨#[]⟩ : Nat) : Int) = 0; rw [this]; rfl)
    have h3 : addR [] (dropP 0) = [] := addR_zero rfl
    rw [addRs_cons, h1, addRs_cons, h2, addRs_cons, h3, addRs_cons, show n - 0 - 0 = n by omega]; rfl
  rw [e]
  by_cases c : n = 0
  · rw [addR_zero (show (keepP n).n = 0 from c)]; exact allKeep.nil
  · rw [addR_nil (show ¬ (keepP n).n = 0 from c)]; exact allKeep.cons rfl allKeep.nil
/-- An edit that changes nothing is nothing to others. -/
theorem nothing_law {e same fin : List Part} (oe : Ok e) (hs : same = replF (fromS e) 0 0 ⟨#[]⟩) (hf : fin = replF (toS e) 0 0 ⟨#[]⟩) :
    replE (fromS e) 0 0 ⟨#[]⟩ = 0 ∧ replE (toS e) 0 0 ⟨#[]⟩ = 0 ∧ compE same e = 0 ∧ compE e fin = 0 ∧ trE e same = 0 ∧ compF same e = e ∧ compF e fin = e ∧ trF1 e same = e ∧ trF2 e same = fin := by
  have hp := fromS_posU oe.1
  obtain ⟨a1, a2, a3, a4, a5⟩ := keep_one hp.1 oe.2.2.1
  obtain ⟨b1, b2, b3, b4, b5⟩ := keep_one hp.2 oe.2.2.2
  rw [← hs] at a2 a3 a4 a5
  rw [← hf] at b2 b3 b4 b5
  obtain ⟨c1, c2, c3, c4, c5⟩ := comp_law a2 oe a4
  obtain ⟨d1, d2, d3, d4, d5⟩ := comp_law oe b2 b3.symm
  obtain ⟨m1, m2, f1, f2, t, _, _, r⟩ := tr_law oe a2 a3.symm
  have hk : allKeep (trGo (e.length + same.length) e same).2 := tr_keep2 _ _ _ a5
  obtain ⟨g1, g2, g3, g4, _⟩ := tr_run (β := Gen) Sum.inr (e.length + same.length) e same (genL (fromS e).toNat) oe.fits a2.fits a3.symm (Nat.le_refl _) (by rw [genL_len]; omega)
  have run2 : ∀ l : List Gen, (l.length : Int) = toS e → (runS Sum.inr (trR2 e same).reverse l).1 = l := fun l hl => by
    unfold trR2
    rw [maker_run Sum.inr g2 l]
    exact run_keep Sum.inr _ l g2 hk (by omega)
  have t2 : toS (trR2 e same).reverse = toS e := by
    have hl : ((genL (toS e).toNat).length : Int) = toS e := by rw [genL_len]; omega
    have h1 := (runS_len Sum.inr (trR2 e same).reverse (genL (toS e).toNat) (by intro q hq; exact m2.fit q (List.mem_reverse.1 hq)) (by omega)).1
    rw [run2 _ hl] at h1
    omega
  obtain ⟨h1, h2, h3, h4, h5⟩ := tr_law_ok oe a2 a3.symm (by rw [t, t2]; exact oe.2.2.2)
  refine ⟨a1, b1, c1, d1, h1, form_unique c2 oe (by omega) fun l hl => ?_, form_unique d2 oe (by omega) fun l hl => ?_, form_unique h4 oe (by rw [h2, f1]; exact a4) fun l hl => ?_, form_unique h5 b2 (by rw [h3, f2]; exact b3.symm) fun l hl => ?_⟩
  · have hl1 : (l.length : Int) = fromS same := by omega
    rw [c5 _ _ hl1, run_keep Sum.inr same l a2.1 a5 hl1]
  · have hl1 : (l.length : Int) = fromS e := by omega
    rw [d5 _ _ hl1, run_keep Sum.inr fin _ b2.1 b5 (by rw [(runS_len Sum.inr e l oe.1 (by omega)).1]; exact b3.symm)]
  · have hl1 : (l.length : Int) = fromS e := by rw [hl, h2, f1]; exact a4
    have := r Sum.inr l hl1
    rw [run_keep Sum.inr same l a2.1 a5 (by omega), run2 _ (runS_len Sum.inr e l oe.1 (by omega)).1] at this
    rw [h2]; exact this
  · have hl1 : (l.length : Int) = toS e := by rw [hl, h3, f2]
    rw [h3, run2 l hl1, run_keep Sum.inr fin l b2.1 b5 (by omega)]
/-! ### The one form -/
theorem filter_all {e : List Part} (h : Fits e) : e.filter fitsB = e := List.filter_eq_self.2 h
theorem norm_ok {e : List Part} (oe : Ok e) : normF e = e := by
  unfold normF
  rw [filter_all oe.fits]
  obtain ⟨m, f, t⟩ := addRs_mk e [] MK.nil oe.1
  have f0 : fromS ([] : List Part) = 0 := rfl
  have t0 : toS ([] : List Part) = 0 := rfl
  have hm := m.ok (by rw [f, f0]; have := oe.2.2.1; omega) (by rw [t, t0]; have := oe.2.2.2; omega)
  exact form_unique hm oe (by rw [(fromS_rev _).1, f, f0]; omega) fun l hl => congrArg Prod.fst (maker_run Sum.inr oe.1 l)
theorem compE_cases {a b : List Part} (oa : Ok a) (ob : Ok b) : (compE a b = 0 ∧ toS a = fromS b) ∨ (compE a b = 30 ∧ toS a ≠ fromS b) := by
  by_cases h : toS a = fromS b
  · exact .inl ⟨(comp_law oa ob h).1, h⟩
  · exact .inr ⟨(comp_bad (by rw [← Decidable.not_not (p := compBad a b), compBad_iff]; exact fun x => h x.2.2)).1, h⟩
theorem trE_cases {a b : List Part} (oa : Ok a) (ob : Ok b) : (trE a b = 0 ∧ fromS a = fromS b ∧ Ok (trF1 a b) ∧ Ok (trF2 a b) ∧ fromS (trF1 a b) = toS b ∧ fromS (trF2 a b) = toS a ∧ toS (trF1 a b) = toS (trF2 a b)) ∨ (trE a b = 30 ∧ fromS a ≠ fromS b) ∨ (trE a b = 4 ∧ fromS a = fromS b) := by
  by_cases h : fromS a = fromS b
  · obtain ⟨m1, m2, f1, f2, t, _, _, r⟩ := tr_law oa ob h
    by_cases hl : toS (trR1 a b).reverse ≤ 1099511627776
    · obtain ⟨h1, h2, h3, h4, h5⟩ := tr_law_ok oa ob h hl
      exact .inl ⟨h1, h, h4, h5, by rw [h2]; exact f1, by rw [h3]; exact f2, by rw [h2, h3]; exact t⟩
    · exact .inr (.inr ⟨tr_long_law oa ob h (by omega), h⟩)
  · exact .inr (.inl ⟨(tr_bad (by rw [← Decidable.not_not (p := trBad a b), trBad_iff]; exact fun x => h x.2.2)).1, h⟩)
/-! ### What an edit weighs -/
def dropN : List Part → Int
  | [] => 0
  | p :: r => (if p.kind = 3 then p.n else 0) + dropN r
theorem weightGo_eq : ∀ (e : List Part) (a b : Int), Fits e → weightGo e a b = (a + putsN e, b + dropN e)
  | [], a, b, _ => by simp [weightGo, putsN, dropN]
  | p :: r, a, b, h => by
    rw [weightGo, if_pos (h p (.head _)), weightGo_eq r _ _ h.tail]
    simp only [putsN, dropN]
    congr 1
    · split <;> omega
    · split <;> omega
theorem weight_ok {e : List Part} (h : Fits e) : weightF e = (putsN e, dropN e) := by
  unfold weightF; rw [weightGo_eq e 0 0 h]; simp
theorem dv_drop : ∀ {e : List Part}, FitsU e → ((dv e).count true : Int) = dropN e
  | [], _ => rfl
  | p :: r, h => by
    have h1 := (h p (.head _)).1
    have ih := dv_drop h.tail
    rw [dv, List.count_append]
    simp only [dropN]
    rcases (h p (.head _)).kinds with k | k | k
    · unfold dvP; rw [if_pos k, if_neg (by omega), List.count_replicate]; simp only [Bool.false_eq_true, BEq.rfl, beq_iff_eq, if_false]; omega
    · unfold dvP; rw [if_neg (by omega), if_neg (by omega), if_neg (by omega), List.count_nil]; omega
    · unfold dvP; rw [if_neg (by omega), if_pos k, if_pos k, List.count_replicate]; simp only [BEq.rfl, if_true]; omega
/-- The flags behind an edit: as many are gone as it drops at most. -/
theorem ot_count {p : Part} (hp : FitU p) (l : List Bool) (h : (if p.kind = 2 then 0 else p.n) ≤ (l.length : Int)) : (l.count true : Int) ≤ ((ot fls p l).count true : Int) + ((rs p l).count true : Int) + (if p.kind = 3 then p.n else 0) := by
  have h1 := hp.1
  rcases hp.kinds with k | k | k
  · rw [(ot_keep fls k l).1, (ot_keep fls k l).2, if_neg (by omega), ← Int.natCast_add, ← List.count_append, List.take_append_drop]; omega
  · rw [(ot_put fls k l).2, if_neg (by omega)]; omega
  · rw [(ot_drop fls k l).1, (ot_drop fls k l).2, if_pos k]
    have h2 : (l.take p.n.toNat).count true ≤ (l.take p.n.toNat).length := List.count_le_length
    have h3 : l.count true = (l.take p.n.toNat).count true + (l.drop p.n.toNat).count true := by rw [← List.count_append, List.take_append_drop]
    rw [List.length_take] at h2
    simp only [List.count_nil]; omega
theorem run_count : ∀ (e : List Part) (l : List Bool), FitsU e → fromS e ≤ l.length → (l.count true : Int) ≤ ((runS fls e l).1.count true : Int) + ((runS fls e l).2.count true : Int) + dropN e ∧ (fromS e = l.length → (runS fls e l).2 = [])
  | [], l, _, _ => by
    refine ⟨by simp [runS, dropN], fun h => ?_⟩
    simp only [fromS] at h
    exact List.length_eq_zero_iff.1 (by simp only [runS]; omega)
  | p :: r, l, h, hl => by
    have hp := h p (.head _)
    have hr := fromS_posU h.tail
    simp only [fromS] at hl
    have h1 := ot_count hp l (by omega)
    have h2 := (ot_len fls hp (l := l) (by omega)).2
    have h3 := run_count r (rs p l) h.tail (by omega)
    rw [runS_cons]
    simp only [dropN]
    refine ⟨?_, fun e => h3.2 (by simp only [fromS] at e; omega)⟩
    rw [List.count_append]
    have := h3.1
    omega
/-- Behind a composed edit. -/
theorem through_law {a b c : List Part} (oa : Ok a) (ob : Ok b) (oc : Ok c) (e1 : fromS a = fromS b) (e2 : toS b = fromS c) (hx : trE a b = 0)
    (hn : toS a ≤ 400) (hb : toS b ≤ 400) (hc : toS c ≤ 400) (ha : fromS a ≤ 400) :
    trE (trF1 a b) c = 0 ∧ trE a (compF b c) = 0 ∧ fromS (trF1 a (compF b c)) = fromS (trF1 (trF1 a b) c) ∧ weightF (trF1 (trF1 a b) c) = weightF (trF1 a (compF b c)) ∧ Ok (trF1 a (compF b c)) ∧ Ok (trF1 (trF1 a b) c) := by
  have pa := fromS_posU oa.1
  have pb := fromS_posU ob.1
  have pc := fromS_posU oc.1
  have hpa := toS_puts oa.1
  obtain ⟨g1, o1, f1, t1, r1⟩ := comp_law ob oc e2
  obtain ⟨_, _, hx1, hx2⟩ := trE_z hx
  obtain ⟨m1, m2, x1, x2, x3, x4, x5, _⟩ := tr_law oa ob e1
  have hpx : putsN a ≤ toS a := by
    have : ∀ {e : List Part}, FitsU e → putsN e ≤ toS e := by
      intro e
      induction e with
      | nil => intro _; simp [putsN, toS]
      | cons p r ih =>
        intro h
        have h1 := (h p (.head _)).1
        have := ih h.tail
        simp only [putsN, toS]
        split <;> split <;> omega
    exact this oa.1
  have ot1 : ∀ {x : List Part}, MK x → toS x.reverse ≤ fromS x.reverse + putsN x.reverse := fun h => (toS_puts (e := _) (fun q hq => h.fit q (List.mem_reverse.1 hq))).1
  have l1 := ot1 m1
  rw [x1, x4] at l1
  obtain ⟨y1, y2, y3, y4, y5⟩ := tr_law_ok oa ob e1 (by omega)
  have fx : fromS (trF1 a b) = toS b := by rw [y2]; exact x1
  obtain ⟨n1, n2, z1, z2, z3, z4, z5, _⟩ := tr_law y4 oc (by omega)
  have l2 := ot1 n1
  rw [z1, z4, y2, x4] at l2
  obtain ⟨w1, w2, w3, w4, w5⟩ := tr_law_ok y4 oc (by omega) (by rw [y2]; omega)
  obtain ⟨k1, k2, v1, v2, v3, v4, v5, _⟩ := tr_law oa o1 (by omega)
  have l3 := ot1 k1
  rw [v1, v4] at l3
  obtain ⟨u1, u2, u3, u4, u5⟩ := tr_law_ok oa o1 (by omega) (by omega)
  refine ⟨w1, u1, by rw [u2, v1, w2, z1]; exact t1, ?_, u4, w4⟩
  rw [weight_ok w4.fits, weight_ok u4.fits, ← dv_drop w4.1, ← dv_drop u4.1, w2, u2, z4, v4, z5, v5, y2, x4, x5, r1 fls (dv a) (by rw [dv_len oa.1]; omega)]
/-! ### Cursors -/
theorem cur_shift : ∀ (e : List Part) (i : Int) (ah : Bool) (t : Int), curGo e i ah t = t + curGo e i ah 0
  | [], i, ah, t => by simp [curGo]
  | p :: r, i, ah, t => by
    by_cases c : p.kind = 2 ∧ (0 < i ∨ ah = true)
    · rw [cur_put c, cur_put c, cur_shift r i ah (t + p.n), cur_shift r i ah (0 + p.n)]; omega
    · by_cases z : i = 0
      · rw [cur_zero c z, cur_zero c z]; omega
      · by_cases l : i < p.n
        · rw [cur_part c z l, cur_part c z l]; split <;> omega
        · rw [cur_next c z l, cur_next c z l, cur_shift r _ ah (if p.kind = 1 then t + p.n else t), cur_shift r _ ah (if p.kind = 1 then 0 + p.n else 0)]; split <;> omega
def noDrop (e : List Part) : Prop := ∀ p ∈ e, p.kind ≠ 3
theorem noDrop.tail {p : Part} {r : List Part} (h : noDrop (p :: r)) : noDrop r := fun q hq => h q (.tail _ hq)
theorem noDrop.cons {p : Part} {r : List Part} (h : p.kind ≠ 3) (h' : noDrop r) : noDrop (p :: r) := fun q hq => (List.mem_cons.1 hq).elim (fun x => x ▸ h) (h' q)
theorem noDrop.rest {y : Part} {ys : List Part} (h : noDrop (y :: ys)) (n : Int) : noDrop (restP y ys n) := by
  unfold restP
  split
  · exact h.tail
  · exact noDrop.cons (h y (.head _)) h.tail
theorem noDrop_of {e : List Part} (h : FitsU e) (hd : dropN e ≤ 0) : noDrop e := by
  have hz : ∀ {e : List Part}, FitsU e → 0 ≤ dropN e := by
    intro e
    induction e with
    | nil => intro _; simp [dropN]
    | cons p r ih => intro h; have h1 := (h p (.head _)).1; have := ih h.tail; simp only [dropN]; split <;> omega
  induction e with
  | nil => exact fun p hp => by cases hp
  | cons p r ih =>
    have h1 := (h p (.head _)).1
    have h2 := hz h.tail
    simp only [dropN] at hd
    split at hd
    · omega
    · exact noDrop.cons (by assumption) (ih h.tail (by omega))
theorem cur_congr (u v : List Part) (ah : Bool) (h : ∀ i t, 0 ≤ i → curGo u i ah t = curGo v i ah t) : ∀ (a : List Part) (i t : Int), 0 ≤ i → curGo (a ++ u) i ah t = curGo (a ++ v) i ah t
  | [], i, t, hi => h i t hi
  | p :: r, i, t, hi => by
    simp only [List.cons_append]
    by_cases c : p.kind = 2 ∧ (0 < i ∨ ah = true)
    · rw [cur_put c, cur_put c]; exact cur_congr u v ah h r _ _ hi
    · by_cases z : i = 0
      · rw [cur_zero c z, cur_zero c z]
      · by_cases l : i < p.n
        · rw [cur_part c z l, cur_part c z l]
        · rw [cur_next c z l, cur_next c z l]; exact cur_congr u v ah h r _ _ (by omega)
theorem cur_more {q p : Part} (hq : FitU q) (hp : FitU p) (hk : q.kind ≠ 3) (h : q.kind = p.kind) (r : List Part) (i t : Int) (ah : Bool) (hi : 0 ≤ i) : curGo (q.more p :: r) i ah t = curGo (q :: p :: r) i ah t := by
  have h1 := hq.1
  have h2 := hp.1
  have hkk : (q.more p).kind = q.kind := rfl
  have hnn : (q.more p).n = q.n + p.n := rfl
  by_cases k2 : q.kind = 2
  · by_cases c : 0 < i ∨ ah = true
    · rw [cur_put ⟨hkk.trans k2, c⟩, cur_put ⟨k2, c⟩, cur_put ⟨h ▸ k2, c⟩, hnn]; congr 1; omega
    · rw [cur_zero (fun x => c x.2) (by omega), cur_zero (fun x => c x.2) (by omega)]
  · have k1 : q.kind = 1 := by rcases hq.kinds with k | k | k <;> omega
    have p1 : p.kind = 1 := h ▸ k1
    by_cases z : i = 0
    · rw [cur_zero (by rw [hkk]; exact fun x => k2 x.1) z, cur_zero (fun x => k2 x.1) z]
    · by_cases l1 : i < q.n
      · rw [cur_part (by rw [hkk]; exact fun x => k2 x.1) z (by omega), cur_part (fun x => k2 x.1) z l1, hkk]
      · rw [cur_next (p := q) (fun x => k2 x.1) z l1, if_pos k1]
        by_cases z2 : i - q.n = 0
        · rw [cur_zero (p := p) (fun x => by omega) z2, cur_part (by rw [hkk]; exact fun x => k2 x.1) z (by omega), hkk, if_pos k1]; omega
        · by_cases l2 : i - q.n < p.n
          · rw [cur_part (p := p) (fun x => by omega) z2 l2, cur_part (by rw [hkk]; exact fun x => k2 x.1) z (by omega), hkk, if_pos k1, if_pos p1]; omega
          · rw [cur_next (p := p) (fun x => by omega) z2 l2, cur_next (by rw [hkk]; exact fun x => k2 x.1) z (by omega), hkk, if_pos k1, if_pos p1, hnn]; congr 1 <;> omega
theorem addR_cur {r : List Part} {p : Part} (hr : FitsU r) (hp : FitU p) (hn : noDrop r) (ah : Bool) (u : List Part) (i t : Int) (hi : 0 ≤ i) : curGo ((addR r p).reverse ++ u) i ah t = curGo (r.reverse ++ p :: u) i ah t := by
  have hz : ¬ p.n = 0 := by have := hp.1; omega
  cases r with
  | nil => rw [addR_nil hz]; rfl
  | cons q r =>
    by_cases c1 : q.kind = p.kind
    · rw [addR_more hz c1, List.reverse_cons, List.reverse_cons, List.append_assoc, List.append_assoc]
      exact cur_congr _ _ ah (fun i t hi => cur_more (hr q (.head _)) hp (hn q (.head _)) c1 u i t ah hi) _ i t hi
    · rw [addR_push hz c1 (.inr (hn q (.head _)))]
      simp only [List.reverse_cons, List.append_assoc, List.singleton_append]
      rfl
theorem addR_noDrop {r : List Part} {p : Part} (hn : noDrop r) (hp : p.kind ≠ 3) : noDrop (addR r p) := by
  by_cases hz : p.n = 0
  · rw [addR_zero hz]; exact hn
  cases r with
  | nil => rw [addR_nil hz]; exact noDrop.cons hp hn
  | cons q r =>
    by_cases c1 : q.kind = p.kind
    · rw [addR_more hz c1]; exact noDrop.cons (hn q (.head _)) hn.tail
    · rw [addR_push hz c1 (.inr (hn q (.head _)))]; exact noDrop.cons hp hn
theorem addRs_cur : ∀ (ps r : List Part), MK r → FitsU ps → noDrop r → noDrop ps → ∀ (ah : Bool) (i t : Int), 0 ≤ i → curGo (addRs r ps).reverse i ah t = curGo (r.reverse ++ ps) i ah t
  | [], r, _, _, _, _, ah, i, t, hi => by rw [List.append_nil]; rfl
  | p :: ps, r, hm, hp, hr, hd, ah, i, t, hi => by
    rw [addRs_cons, addRs_cur ps (addR r p) (hm.add (hp p (.head _))) hp.tail (addR_noDrop hr (hd p (.head _))) hd.tail ah i t hi]
    exact addR_cur hm.fit (hp p (.head _)) hr ah ps i t hi
theorem cur_ge : ∀ (e : List Part) (i : Int) (ah : Bool), FitsU e → noDrop e → 0 ≤ i → i ≤ fromS e → i ≤ curGo e i ah 0
  | [], i, ah, _, _, hi, h2 => by simp only [fromS] at h2; simp only [curGo]; omega
  | p :: r, i, ah, hf, hn, hi, h2 => by
    have h1 := (hf p (.head _)).1
    have hk := hn p (.head _)
    have hfr := fromS_posU hf.tail
    simp only [fromS] at h2
    by_cases c : p.kind = 2 ∧ (0 < i ∨ ah = true)
    · rw [if_pos c.1] at h2
      rw [cur_put c, cur_shift]
      have := cur_ge r i ah hf.tail hn.tail hi (by omega); omega
    · by_cases z : i = 0
      · rw [cur_zero c z]; omega
      · have k2 : ¬ p.kind = 2 := fun k => c ⟨k, .inl (by omega)⟩
        have k1 : p.kind = 1 := by rcases (hf p (.head _)).kinds with k | k | k <;> omega
        rw [if_neg k2] at h2
        by_cases l : i < p.n
        · rw [cur_part c z l, if_pos k1]; omega
        · rw [cur_next c z l, if_pos k1, cur_shift]
          have := cur_ge r (i - p.n) ah hf.tail hn.tail (by omega) (by omega); omega
theorem cur_zeroF : ∀ (e : List Part), FitsU e → curGo e 0 false 0 = 0
  | [], _ => rfl
  | p :: r, h => cur_zero (fun x => by rcases x.2 with h | h <;> first | omega | cases h) rfl
/-- A piece ahead of the rest. -/
theorem cur_cut {x : Part} {xs : List Part} (hx : FitU x) {n : Int} (h1 : 1 ≤ n) (h2 : n ≤ x.n) (i : Int) (ah : Bool) (t : Int) (hi : 0 ≤ i) :
    curGo (x :: xs) i ah t = if x.kind = 2 ∧ (0 < i ∨ ah = true) then curGo (restP x xs n) i ah (t + n) else if i = 0 then t else if i < n then (if x.kind = 1 then t + i else t) else curGo (restP x xs n) (if x.kind = 2 then i else i - n) ah (if x.kind = 1 then t + n else t) := by
  unfold restP
  by_cases c : x.kind = 2 ∧ (0 < i ∨ ah = true)
  · rw [if_pos c, cur_put c]
    split
    · rw [show x.n = n by omega]
    · rw [cur_put (p := leftP x n) c]
      show _ = curGo xs i ah (t + n + (x.n - n))
      congr 1; omega
  · rw [if_neg c]
    by_cases z : i = 0
    · rw [if_pos z, cur_zero c z]
    · have k2 : ¬ x.kind = 2 := fun k => c ⟨k, .inl (by omega)⟩
      rw [if_neg z, if_neg k2]
      by_cases l : i < n
      · rw [if_pos l, cur_part c z (by omega)]
      · rw [if_neg l]
        by_cases e : x.n - n = 0
        · rw [if_pos e, cur_next c z (by omega), show x.n = n by omega]
        · rw [if_neg e]
          have c' : ¬ ((leftP x n).kind = 2 ∧ (0 < i - n ∨ ah = true)) := fun w => k2 w.1
          have hk : (leftP x n).kind = x.kind := rfl
          have hn : (leftP x n).n = x.n - n := rfl
          by_cases z2 : i - n = 0
          · rw [cur_zero c' z2, cur_part c z (by omega)]; split <;> omega
          · by_cases l2 : i < x.n
            · rw [cur_part c z l2, cur_part c' z2 (by omega), hk]; split <;> omega
            · rw [cur_next c z l2, cur_next c' z2 (by omega), hk, hn]
              by_cases k1 : x.kind = 1
              · simp only [if_pos k1]; congr 1 <;> omega
              · simp only [if_neg k1]; congr 1; omega
theorem go_cur : ∀ (f : Nat) (xs ys : List Part) (i t : Int) (ah : Bool), Fits xs → Fits ys → noDrop xs → noDrop ys → toS xs = fromS ys → xs.length + ys.length ≤ f → 0 ≤ i → i ≤ fromS xs →
    curGo (compGo f xs ys) i ah t = curGo ys (curGo xs i ah 0) ah t ∧ noDrop (compGo f xs ys)
  | 0, xs, ys, i, t, ah, hx, hy, nx, ny, hb, hl, hi, hi2 => by
    have h1 : xs = [] := List.length_eq_zero_iff.1 (by omega)
    have h2 : ys = [] := List.length_eq_zero_iff.1 (by omega)
    subst h1 h2
    exact ⟨rfl, fun p hp => by simp only [compGo] at hp; cases hp⟩
  | f + 1, xs, ys, i, t, ah, hx, hy, nx, ny, hb, hl, hi, hi2 => by
    by_cases h0 : kindL xs = 0 ∧ kindL ys = 0
    · rw [compGo_stop h0, kindL_nil hx h0.1, kindL_nil hy h0.2]
      exact ⟨rfl, fun p hp => by cases hp⟩
    have hx3 : ¬ kindL xs = 3 := fun k => by
      obtain ⟨x, xs', rfl, k'⟩ := kindL_cons k (by omega)
      exact nx x (.head _) k'
    by_cases hy2 : kindL ys = 2
    · obtain ⟨y, ys', rfl, k⟩ := kindL_cons hy2 (by omega)
      rw [compGo_y hx3 hy2]
      have hfy : fromS (y :: ys') = fromS ys' := by simp only [fromS, if_pos k]; omega
      have hl' : xs.length + ys'.length ≤ f := by simp only [List.length_cons] at hl; omega
      refine ⟨?_, noDrop.cons (by omega) (go_cur f xs ys' i t ah hx hy.tail nx ny.tail (by omega) hl' hi hi2).2⟩
      have hge := cur_ge xs i ah (fitsU_of hx) nx hi hi2
      by_cases c : 0 < i ∨ ah = true
      · rw [cur_put ⟨k, c⟩, cur_put ⟨k, by rcases c with c | c; exact .inl (by omega); exact .inr c⟩]
        exact (go_cur f xs ys' i (t + y.n) ah hx hy.tail nx ny.tail (by omega) hl' hi hi2).1
      · have hi0 : i = 0 := by omega
        have hah : ah = false := by cases ah; rfl; exact absurd (.inr rfl) c
        subst hi0 hah
        rw [cur_zeroF xs (fitsU_of hx), cur_zero (fun x => c x.2) rfl, cur_zero (fun x => c x.2) rfl]
    · cases xs with
      | nil =>
        cases ys with
        | nil => exact absurd ⟨rfl, rfl⟩ h0
        | cons y ys' =>
          have h1 := fitsB_n (hy y (.head _))
          have hp := fromS_pos hy.tail
          have k : ¬ y.kind = 2 := hy2
          simp only [toS, fromS, if_neg k] at hb
          omega
      | cons x xs' =>
        cases ys with
        | nil =>
          have h1 := fitsB_n (hx x (.head _))
          have hp := fromS_pos hx.tail
          have k : ¬ x.kind = 3 := nx x (.head _)
          simp only [toS, fromS, if_neg k] at hb
          omega
        | cons y ys' =>
          have x1 := fitsB_n (hx x (.head _))
          have y1 := fitsB_n (hy y (.head _))
          have hm := minI_le x.n y.n
          have hm1 : 1 ≤ minI x.n y.n := by rcases hm.2.2 with e | e <;> omega
          have hyk : y.kind = 1 := by
            have h3 := ny y (.head _)
            rcases (fitU_of (hy y (.head _))).kinds with k | k | k
            · exact k
            · exact absurd k hy2
            · exact absurd k h3
          have hxk : x.kind = 1 ∨ x.kind = 2 := by
            have h3 := nx x (.head _)
            rcases (fitU_of (hx x (.head _))).kinds with k | k | k
            · exact .inl k
            · exact .inr k
            · exact absurd k h3
          rw [compGo_b h0 hx3 hy2, if_pos hyk]
          have fx := rest_fits hx hm1 hm.1
          have fy := rest_fits hy hm1 hm.2.1
          have bx := rest_from x xs' (minI x.n y.n)
          have by_ := rest_from y ys' (minI x.n y.n)
          rw [if_neg (show ¬ x.kind = 3 by omega)] at bx
          rw [if_neg (show ¬ y.kind = 2 by omega)] at by_
          have hl2 : (restP x xs' (minI x.n y.n)).length + (restP y ys' (minI x.n y.n)).length ≤ f := by
            have := both_len x y xs' ys'
            have e1 := rest_len x xs' (minI x.n y.n)
            have e2 := rest_len y ys' (minI x.n y.n)
            simp only [List.length_cons] at hl
            omega
          have ih := fun i t hi hi2 => go_cur f (restP x xs' (minI x.n y.n)) (restP y ys' (minI x.n y.n)) i t ah fx fy (nx.rest _) (ny.rest _) (by omega) hl2 hi hi2
          generalize minI x.n y.n = n at *
          have hfx := fromS_pos fx
          refine ⟨?_, noDrop.cons (nx x (.head _)) (ih 0 0 (by omega) hfx.1).2⟩
          have ux := fitU_of (hx x (.head _))
          have uy := fitU_of (hy y (.head _))
          rw [List.singleton_append, cur_cut ux hm1 hm.1 i ah 0 hi]
          have tk : (takeP x n).kind = x.kind := rfl
          have tn : (takeP x n).n = n := rfl
          by_cases c : x.kind = 2 ∧ (0 < i ∨ ah = true)
          · rw [if_pos c, cur_put (p := takeP x n) c, tn]
            have g0 := cur_in (restP x xs' n) i (0 + n) ah (fitsU_of fx) hi
            rw [cur_cut uy hm1 hm.2.1 _ ah t (by omega), if_neg (fun w => by omega), if_neg (by omega), if_neg (by omega), if_neg (show ¬ y.kind = 2 by omega), if_pos hyk, (ih i (t + n) hi (by rw [if_pos c.1] at bx; omega)).1]
            congr 1
            rw [cur_shift (restP x xs' n) i ah (0 + n)]; omega
          · rw [if_neg c]
            by_cases z : i = 0
            · rw [if_pos z, cur_zero (p := takeP x n) c z, cur_zero (p := y) (fun w => by omega) rfl]
            · have k2 : ¬ x.kind = 2 := fun k => c ⟨k, .inl (by omega)⟩
              have k1 : x.kind = 1 := by omega
              rw [if_neg z, if_neg k2, if_pos k1]
              by_cases l : i < n
              · rw [if_pos l, cur_part (p := takeP x n) c z (by omega), tk, if_pos k1, cur_cut uy hm1 hm.2.1 _ ah t (by omega), if_neg (fun w => by omega), if_neg (by omega), if_pos (by omega), if_pos hyk]; omega
              · rw [if_neg l, cur_next (p := takeP x n) c z (by omega), tk, tn, if_pos k1, if_pos k1]
                rw [if_neg k2] at bx
                have g0 := cur_in (restP x xs' n) (i - n) (0 + n) ah (fitsU_of fx) (by omega)
                rw [cur_cut uy hm1 hm.2.1 _ ah t (by omega), if_neg (fun w => by omega), if_neg (by omega), if_neg (by omega), if_neg (show ¬ y.kind = 2 by omega), if_pos hyk, (ih (i - n) (t + n) (by omega) (by omega)).1]
                congr 1
                rw [cur_shift (restP x xs' n) (i - n) ah (0 + n)]; omega
/-- Through two edits that drop nothing. -/
theorem go_law {a b : List Part} (oa : Ok a) (ob : Ok b) (e : toS a = fromS b) (na : noDrop a) (nb : noDrop b) {i : Int} (ah : Bool) (hi : 0 ≤ i) (h2 : i ≤ fromS a) :
    curF (compF a b) i ah = curF b (curF a i ah) ah := by
  obtain ⟨c1, c2, c3, c4, _⟩ := comp_law oa ob e
  obtain ⟨_, _, hc⟩ := compE_z c1
  have g := go_cur (a.length + b.length) a b i 0 ah oa.fits ob.fits na nb e (Nat.le_refl _) hi h2
  obtain ⟨f1, f2, f3⟩ := compGo_facts oa ob e
  have hin := cur_in a i 0 ah oa.1 hi
  have hge := cur_ge a i ah oa.1 na hi h2
  have b1 : ¬ curBad a i := by unfold curBad; rw [oa.sizes]; simp only [Bool.true_eq_false, false_or]; omega
  have b2 : ¬ curBad b (curGo a i ah 0) := by unfold curBad; rw [ob.sizes]; simp only [Bool.true_eq_false, false_or]; omega
  have b3 : ¬ curBad (compF a b) i := by unfold curBad; rw [c2.sizes]; simp only [Bool.true_eq_false, false_or]; omega
  rw [(cur_ok b3).1, (cur_ok (ah := ah) b1).1, (cur_ok b2).1, ← g.1, hc]
  unfold compR
  rw [addRs_cur _ [] MK.nil f1 (fun p hp => by cases hp) g.2 ah i 0 hi]
  rfl
theorem cur_E {e : List Part} (oe : Ok e) {i : Int} : curE e i = 0 ↔ 0 ≤ i ∧ i ≤ fromS e := by
  have hb : curBad e i ↔ ¬ (0 ≤ i ∧ i ≤ fromS e) := by unfold curBad; rw [oe.sizes]; simp only [Bool.true_eq_false, false_or]; omega
  unfold curE
  by_cases h : curBad e i
  · rw [if_pos h]; exact ⟨fun x => absurd x (by decide), fun x => absurd x (hb.1 h)⟩
  · rw [if_neg h]; exact ⟨fun _ => Decidable.not_not.1 fun x => h (hb.2 x), fun _ => rfl⟩
end Go.SK
