/- Plain words: what a maker makes is an edit in its one form. -/
import Derived.Test.YtgklklmcmdcpgaaDoorP6
set_option linter.unusedVariables false
set_option linter.unusedSimpArgs false
set_option maxRecDepth 100000
namespace Go.SK
open Go
/-- A part that fits, however long. -/
def FitU (p : Part) : Prop := 1 ≤ p.n ∧ ((p.kind = 1 ∧ p.text = ⟨#[]⟩) ∨ (p.kind = 3 ∧ p.text = ⟨#[]⟩) ∨ (p.kind = 2 ∧ valid p.text = true ∧ ((dec p.text).length : Int) = p.n))
theorem fitU_of {p : Part} (h : fitsB p = true) : FitU p := by have := fitsB_cases h; exact ⟨this.1, this.2.2⟩
theorem fitsB_of {p : Part} (h : FitU p) (h1 : p.n ≤ 1099511627776) : fitsB p = true := fitsB_mk h.1 h1 h.2
theorem FitU.kinds {p : Part} (h : FitU p) : p.kind = 1 ∨ p.kind = 2 ∨ p.kind = 3 := by rcases h.2 with h | h | h <;> omega
def FitsU (e : List Part) : Prop := ∀ p ∈ e, FitU p
theorem FitsU.tail {p : Part} {e : List Part} (h : FitsU (p :: e)) : FitsU e := fun q hq => h q (.tail _ hq)
theorem FitsU.cons {p : Part} {e : List Part} (h : FitU p) (h' : FitsU e) : FitsU (p :: e) := fun q hq => (List.mem_cons.1 hq).elim (fun x => x ▸ h) (h' q)
/-- May a part of kind j stand behind what k says? -/
def okPrev (k : Option Int) (j : Int) : Prop := match k with
  | none => True
  | some k => k ≠ j ∧ ¬ (k = 3 ∧ j = 2)
def NA : Option Int → List Part → Prop
  | _, [] => True
  | k, p :: r => okPrev k p.kind ∧ NA (some p.kind) r
theorem stopB_iff {k : Option Int} {p : Part} : stopB k p = false ↔ fitsB p = true ∧ okPrev k p.kind := by
  unfold stopB okPrev
  cases k with
  | none => simp
  | some k => simp
theorem fromS_posU : ∀ {e : List Part}, FitsU e → 0 ≤ fromS e ∧ 0 ≤ toS e
  | [], _ => by simp [fromS, toS]
  | p :: r, h => by
    have h1 := h p (.head _); have h2 := fromS_posU h.tail
    have := h1.1
    simp only [fromS, toS]
    constructor <;> split <;> omega
theorem sizesGo_iff : ∀ (e : List Part) (k : Option Int) (f t : Int), 0 ≤ f → f ≤ 1099511627776 → 0 ≤ t → t ≤ 1099511627776 →
    ((sizesGo k e f t).2.2 = true ↔ FitsU e ∧ NA k e ∧ f + fromS e ≤ 1099511627776 ∧ t + toS e ≤ 1099511627776)
  | [], k, f, t, _, h2, _, h4 => by simp [sizesGo, FitsU, NA, fromS, toS, h2, h4]
  | p :: r, k, f, t, h1, h2, h3, h4 => by
    simp only [sizesGo]
    by_cases hs : stopB k p = true
    · rw [if_pos hs]
      refine ⟨fun h => (by cases h), fun ⟨g1, g2, g3, g4⟩ => ?_⟩
      have g5 := g1 p (.head _)
      have g6 := fromS_posU g1.tail
      simp only [fromS, toS] at g3 g4
      have g7 : p.n ≤ 1099511627776 := by
        rcases g5.kinds with hk | hk | hk
        · rw [if_neg (by omega)] at g3; omega
        · rw [if_neg (by omega)] at g4; omega
        · rw [if_neg (by omega)] at g3; omega
      have := stopB_iff.2 ⟨fitsB_of g5 g7, g2.1⟩
      rw [this] at hs; cases hs
    · rw [if_neg hs]
      obtain ⟨a1, a2⟩ := stopB_iff.1 (by simpa using hs : stopB k p = false)
      have a3 := fitsB_n a1
      by_cases hb : 1099511627776 < addF p f ∨ 1099511627776 < addT p t
      · rw [if_pos hb]
        refine ⟨fun h => (by cases h), fun ⟨g1, g2, g3, g4⟩ => ?_⟩
        have g6 := fromS_posU g1.tail
        simp only [fromS, toS] at g3 g4
        unfold addF addT at hb
        rcases hb with hb | hb
        · split at hb <;> rename_i hk
          · omega
          · rw [if_neg hk] at g3; omega
        · split at hb <;> rename_i hk
          · omega
          · rw [if_neg hk] at g4; omega
      · rw [if_neg hb, sizesGo_iff r (some p.kind) (addF p f) (addT p t) (by unfold addF; split <;> omega) (by omega) (by unfold addT; split <;> omega) (by omega)]
        have e1 : addF p f + fromS r = f + fromS (p :: r) := by simp only [addF, fromS]; split <;> omega
        have e2 : addT p t + toS r = t + toS (p :: r) := by simp only [addT, toS]; split <;> omega
        rw [e1, e2]
        exact ⟨fun ⟨g1, g2, g3, g4⟩ => ⟨FitsU.cons (fitU_of a1) g1, ⟨a2, g2⟩, g3, g4⟩, fun ⟨g1, g2, g3, g4⟩ => ⟨g1.tail, g2.2, g3, g4⟩⟩
/-- An edit. -/
def Ok (e : List Part) : Prop := FitsU e ∧ NA none e ∧ fromS e ≤ 1099511627776 ∧ toS e ≤ 1099511627776
theorem ok_iff {e : List Part} : (sizesF e).2.2 = true ↔ Ok e := by
  have := sizesGo_iff e none 0 0 (by omega) (by omega) (by omega) (by omega)
  unfold sizesF Ok
  rw [this]; simp
theorem Ok.sizes {e : List Part} (h : Ok e) : sizesF e = (fromS e, toS e, true) := by
  have h1 := ok_iff.2 h
  have h2 := sizesF_sum h1
  exact Prod.ext h2.1 (Prod.ext h2.2.1 h1)
theorem Ok.fits {e : List Part} (h : Ok e) : Fits e := (sizesF_sum (ok_iff.2 h)).2.2
theorem not_ok {e : List Part} (h : ¬ Ok e) : (sizesF e).2.2 = false := by
  cases hh : (sizesF e).2.2 with
  | false => rfl
  | true => exact absurd (ok_iff.1 hh) h
theorem checkF_iff {e : List Part} {n : Int} : checkF e n = 0 ↔ Ok e ∧ fromS e = n := by
  constructor
  · intro h; have := checkF_ok h; exact ⟨ok_iff.1 this.1, this.2.1⟩
  · rintro ⟨h1, h2⟩
    unfold checkF; rw [h1.sizes]; simp [h2]
/-! ### The same, the last one first -/
def NAR : List Part → Prop
  | [] => True
  | [_] => True
  | p :: q :: r => okPrev (some q.kind) p.kind ∧ NAR (q :: r)
def lastK (k : Option Int) : List Part → Option Int
  | [] => k
  | p :: r => lastK (some p.kind) r
theorem NA_append : ∀ (a b : List Part) (k : Option Int), NA k (a ++ b) ↔ NA k a ∧ NA (lastK k a) b
  | [], b, k => by simp [NA, lastK]
  | p :: a, b, k => by
    have ih := NA_append a b (some p.kind)
    exact ⟨fun h => ⟨⟨h.1, (ih.1 h.2).1⟩, (ih.1 h.2).2⟩, fun h => ⟨h.1.1, ih.2 ⟨h.1.2, h.2⟩⟩⟩
theorem lastK_append (a : List Part) (p : Part) (k : Option Int) : lastK k (a ++ [p]) = some p.kind := by
  induction a generalizing k with
  | nil => rfl
  | cons q a ih => exact ih _
theorem NA_rev : ∀ (r : List Part), NA none r.reverse ↔ NAR r
  | [] => by simp [NA, NAR]
  | [p] => by simp [NA, NAR, okPrev]
  | p :: q :: r => by
    rw [List.reverse_cons, NA_append, NA_rev (q :: r)]
    rw [show lastK none (q :: r).reverse = some q.kind by rw [List.reverse_cons, lastK_append]]
    simp only [NA, NAR, and_true]
    exact And.comm
theorem NAR.tail {p : Part} {r : List Part} (h : NAR (p :: r)) : NAR r := by
  cases r with
  | nil => trivial
  | cons q r => exact h.2
theorem fromS_append (a b : List Part) : fromS (a ++ b) = fromS a + fromS b ∧ toS (a ++ b) = toS a + toS b := by
  induction a with
  | nil => simp [fromS, toS]
  | cons p a ih => simp only [List.cons_append, fromS, toS]; omega
theorem fromS_rev (r : List Part) : fromS r.reverse = fromS r ∧ toS r.reverse = toS r := by
  induction r with
  | nil => simp [fromS, toS]
  | cons p r ih =>
    have := fromS_append r.reverse [p]
    rw [List.reverse_cons, this.1, this.2, ih.1, ih.2]
    simp only [fromS, toS]; omega
theorem more_fit {q p : Part} (hq : FitU q) (hp : FitU p) (h : q.kind = p.kind) : FitU (q.more p) := by
  have e0 : (⟨#[]⟩ : ByteArray) ++ ⟨#[]⟩ = ⟨#[]⟩ := rfl
  refine ⟨by have := hq.1; have := hp.1; simp only [Part.more]; omega, ?_⟩
  simp only [Part.more]
  rcases hq.2 with ⟨k1, t1⟩ | ⟨k1, t1⟩ | ⟨k1, v1, l1⟩ <;> rcases hp.2 with ⟨k2, t2⟩ | ⟨k2, t2⟩ | ⟨k2, v2, l2⟩ <;> try omega
  · exact .inl ⟨k1, by rw [t1, t2, e0]⟩
  · exact .inr (.inl ⟨k1, by rw [t1, t2, e0]⟩)
  · exact .inr (.inr ⟨k1, valid_append v1 v2, by rw [dec_append v1 v2, List.length_append]; omega⟩)
/-- What a maker holds is in its one form. -/
structure MK (r : List Part) : Prop where
  fit : FitsU r
  na : NAR r
theorem MK.nil : MK [] := ⟨fun _ h => (by cases h), trivial⟩
theorem MK.tail {p : Part} {r : List Part} (h : MK (p :: r)) : MK r := ⟨h.fit.tail, h.na.tail⟩
theorem addR_head {r : List Part} {p : Part} (hn : ¬ p.n = 0) : ∀ q, (addR r p).head? = some q → q.kind = p.kind ∨ (q.kind = 3 ∧ p.kind = 2) := by
  intro q hq
  cases r with
  | nil => rw [addR_nil hn] at hq; simp at hq; rw [hq]; exact .inl rfl
  | cons s r =>
    by_cases h1 : s.kind = p.kind
    · rw [addR_more hn h1] at hq; simp at hq; rw [← hq]; exact .inl h1
    · by_cases h2 : p.kind ≠ 2 ∨ s.kind ≠ 3
      · rw [addR_push hn h1 h2] at hq; simp at hq; rw [hq]; exact .inl rfl
      · rw [addR_deep hn h1 h2] at hq; simp at hq; rw [← hq]; exact .inr ⟨by omega, by omega⟩
theorem MK.add : ∀ {r : List Part} {p : Part}, MK r → FitU p → MK (addR r p)
  | [], p, h, hp => by
    rw [addR_nil (by have := hp.1; omega)]
    exact ⟨FitsU.cons hp (fun _ h => (by cases h)), trivial⟩
  | q :: r, p, h, hp => by
    have hn : ¬ p.n = 0 := by have := hp.1; omega
    have hq := h.fit q (.head _)
    by_cases h1 : q.kind = p.kind
    · rw [addR_more hn h1]
      refine ⟨FitsU.cons (more_fit hq hp h1) h.fit.tail, ?_⟩
      cases r with
      | nil => trivial
      | cons s r => exact h.na
    · by_cases h2 : p.kind ≠ 2 ∨ q.kind ≠ 3
      · rw [addR_push hn h1 h2]
        exact ⟨FitsU.cons hp h.fit, ⟨h1, by omega⟩, h.na⟩
      · rw [addR_deep hn h1 h2]
        have ih := MK.add h.tail hp
        refine ⟨FitsU.cons hq ih.fit, ?_⟩
        have hh := addR_head (r := r) hn
        have key : ∀ s, (addR r p).head? = some s → okPrev (some s.kind) q.kind := by
          intro s hs
          have hs3 : ¬ s.kind = 3 := by
            intro hs3
            cases r with
            | nil => rw [addR_nil hn] at hs; simp at hs; rw [← hs] at hs3; omega
            | cons u r =>
              have hu := h.na.1
              by_cases c1 : u.kind = p.kind
              · rw [addR_more hn c1] at hs; simp at hs; rw [← hs] at hs3; simp only [Part.more] at hs3; omega
              · by_cases c2 : p.kind ≠ 2 ∨ u.kind ≠ 3
                · rw [addR_push hn c1 c2] at hs; simp at hs; rw [← hs] at hs3; omega
                · exact absurd hu.1 (by omega)
          exact ⟨by omega, by omega⟩
        cases hr : addR r p with
        | nil => trivial
        | cons s t => rw [hr] at ih key; exact ⟨key s rfl, ih.na⟩
theorem addR_sum : ∀ (r : List Part) (p : Part), FitU p → fromS (addR r p) = fromS r + (if p.kind = 2 then 0 else p.n) ∧ toS (addR r p) = toS r + (if p.kind = 3 then 0 else p.n)
  | [], p, hp => by
    rw [addR_nil (by have := hp.1; omega)]
    simp only [fromS, toS]; omega
  | q :: r, p, hp => by
    have hn : ¬ p.n = 0 := by have := hp.1; omega
    by_cases h1 : q.kind = p.kind
    · rw [addR_more hn h1]
      simp only [fromS, toS, Part.more, h1]
      constructor <;> split <;> omega
    · by_cases h2 : p.kind ≠ 2 ∨ q.kind ≠ 3
      · rw [addR_push hn h1 h2]; simp only [fromS, toS]; omega
      · rw [addR_deep hn h1 h2]
        have := addR_sum r p hp
        simp only [fromS, toS]; omega
theorem addRs_mk : ∀ (ps r : List Part), MK r → FitsU ps → MK (addRs r ps) ∧ fromS (addRs r ps) = fromS r + fromS ps ∧ toS (addRs r ps) = toS r + toS ps
  | [], r, h, _ => ⟨h, by simp [addRs, fromS], by simp [addRs, toS]⟩
  | p :: ps, r, h, hp => by
    have h1 := addR_sum r p (hp p (.head _))
    obtain ⟨a1, a2, a3⟩ := addRs_mk ps (addR r p) (h.add (hp p (.head _))) hp.tail
    rw [addRs_cons]
    exact ⟨a1, by rw [a2, h1.1]; simp only [fromS]; omega, by rw [a3, h1.2]; simp only [toS]; omega⟩
theorem MK.ok {r : List Part} (h : MK r) (h1 : fromS r ≤ 1099511627776) (h2 : toS r ≤ 1099511627776) : Ok r.reverse := by
  have h3 := fromS_rev r
  exact ⟨fun p hp => h.fit p (List.mem_reverse.1 hp), (NA_rev r).2 h.na, by omega, by omega⟩
/-- Parts of no length go for nothing. -/
theorem addRs_filter : ∀ (ps r : List Part), addRs r ps = addRs r (ps.filter fun p => decide (p.n ≠ 0))
  | [], r => rfl
  | p :: ps, r => by
    rw [addRs_cons, List.filter_cons]
    by_cases h : p.n = 0
    · rw [addR_zero h, if_neg (by simp [h])]; exact addRs_filter ps r
    · rw [if_pos (by simp [h]), addRs_cons]; exact addRs_filter ps _
/-! ### The edit by which a stretch becomes a text -/
theorem repl_ok {n a k : Int} {s : ByteArray} (h : ¬ replBad n a k s) : Ok (replF n a k s) ∧ fromS (replF n a k s) = n ∧ toS (replF n a k s) = n - k + rcount s := by
  have hb := h
  unfold replBad at h
  have hv : valid s = true := by cases hh : valid s <;> simp_all
  rw [replF, if_neg hb, addRs_filter]
  have hf : FitsU ([keepP a, putP s, dropP k, keepP (n - a - k)].filter fun p => decide (p.n ≠ 0)) := by
    intro p hp
    obtain ⟨h1, h2⟩ := List.mem_filter.1 hp
    simp only [ne_eq, decide_not, Bool.not_eq_true', decide_eq_false_iff_not] at h2
    simp only [List.mem_cons, List.not_mem_nil, or_false] at h1
    rcases h1 with rfl | rfl | rfl | rfl
    · exact ⟨by simp only [keepP] at h2 ⊢; omega, .inl ⟨rfl, rfl⟩⟩
    · exact ⟨by simp only [putP] at h2 ⊢; omega, .inr (.inr ⟨rfl, hv, by simp only [putP, rcount_dec]⟩)⟩
    · exact ⟨by simp only [dropP] at h2 ⊢; omega, .inr (.inl ⟨rfl, rfl⟩)⟩
    · exact ⟨by simp only [keepP] at h2 ⊢; omega, .inl ⟨rfl, rfl⟩⟩
  obtain ⟨m1, m2, m3⟩ := addRs_mk _ [] MK.nil hf
  have hz : ∀ l : List Part, fromS (l.filter fun p => decide (p.n ≠ 0)) = fromS l ∧ toS (l.filter fun p => decide (p.n ≠ 0)) = toS l := by
    intro l
    induction l with
    | nil => simp
    | cons p l ih =>
      rw [List.filter_cons]
      by_cases h0 : p.n = 0
      · rw [if_neg (by simp [h0])]; simp only [fromS, toS, h0]; constructor <;> split <;> omega
      · rw [if_pos (by simp [h0])]; simp only [fromS, toS]; omega
  rw [(hz _).1] at m2; rw [(hz _).2] at m3
  have e1 : fromS [keepP a, putP s, dropP k, keepP (n - a - k)] = n := by simp [fromS, keepP, putP, dropP]; omega
  have e2 : toS [keepP a, putP s, dropP k, keepP (n - a - k)] = n - k + rcount s := by simp [toS, keepP, putP, dropP]; omega
  have z0 : fromS ([] : List Part) = 0 := rfl
  have z1 : toS ([] : List Part) = 0 := rfl
  rw [e1] at m2; rw [e2] at m3
  have h3 := fromS_rev (addRs [] ([keepP a, putP s, dropP k, keepP (n - a - k)].filter fun p => decide (p.n ≠ 0)))
  exact ⟨m1.ok (by omega) (by omega), by omega, by omega⟩
theorem repl_check {n a k : Int} {s : ByteArray} (h : replE n a k s = 0) : checkF (replF n a k s) n = 0 := by
  have hb : ¬ replBad n a k s := by intro hb; rw [replE, if_pos hb] at h; cases h
  exact checkF_iff.2 ⟨(repl_ok hb).1, (repl_ok hb).2.1⟩
theorem small_of {e : List Part} (h : Fits e) : small e := fun p hp => by have := fits_sizeN (h p hp); omega
theorem small_nil : small [] := fun p hp => by cases hp
theorem repl_small (n a k : Int) (s : ByteArray) : small (replF n a k s) := by
  by_cases h : replBad n a k s
  · rw [replF, if_pos h]; exact small_nil
  · exact small_of (repl_ok h).1.fits
end Go.SK
