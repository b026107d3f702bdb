/- Plain words: what an edit does to a list of anything; its one form is known by that. -/
import Derived.Test.YtgklklmcmdcpgaaDoorP7
set_option linter.unusedVariables false
set_option linter.unusedSimpArgs false
set_option maxRecDepth 100000
namespace Go.SK
open Go
section
variable {β : Type} (ι : Int → β)
def ot (p : Part) (l : List β) : List β := if p.kind = 1 then l.take p.n.toNat else if p.kind = 3 then [] else (dec p.text).map ι
def rs (p : Part) (l : List β) : List β := if p.kind = 1 then l.drop p.n.toNat else if p.kind = 3 then l.drop p.n.toNat else l
/-- What an edit makes of a list, and what it leaves of it. -/
def runS : List Part → List β → List β × List β
  | [], l => ([], l)
  | p :: r, l => (ot ι p l ++ (runS r (rs p l)).1, (runS r (rs p l)).2)
theorem runS_cons (p : Part) (r : List Part) (l : List β) : runS ι (p :: r) l = (ot ι p l ++ (runS ι r (rs p l)).1, (runS ι r (rs p l)).2) := rfl
theorem runS_append : ∀ (a b : List Part) (l : List β), runS ι (a ++ b) l = ((runS ι a l).1 ++ (runS ι b (runS ι a l).2).1, (runS ι b (runS ι a l).2).2)
  | [], b, l => by simp [runS]
  | p :: a, b, l => by
    rw [List.cons_append, runS_cons, runS_cons, runS_append a b]
    simp
theorem apGo_run : ∀ (e : List Part) (l out : List Int), apGo e l out = out ++ (runS id e l).1
  | [], l, out => by simp [apGo, runS]
  | p :: r, l, out => by
    rw [apGo, runS_cons]
    unfold ot rs
    split
    · rw [apGo_run r]; simp
    · split
      · rw [apGo_run r]; simp
      · rw [apGo_run r]; simp
/-- Two parts of one kind are one. -/
theorem runS_more {q p : Part} (hq : FitU q) (hp : FitU p) (h : q.kind = p.kind) (r : List Part) (l : List β) : runS ι (q.more p :: r) l = runS ι (q :: p :: r) l := by
  have h1 := hq.1; have h2 := hp.1
  rw [runS_cons, runS_cons, runS_cons]
  have hn : (q.more p).n.toNat = q.n.toNat + p.n.toNat := by simp only [Part.more]; omega
  have hk : (q.more p).kind = q.kind := rfl
  unfold ot rs
  rw [hk, hn, ← h]
  rcases hq.kinds with k | k | k
  · simp only [if_pos k]
    rw [List.take_add, List.drop_drop]
    simp
  · have k1 : ¬ q.kind = 1 := by omega
    have k3 : ¬ q.kind = 3 := by omega
    simp only [if_neg k1, if_neg k3]
    have v1 : valid q.text = true := by rcases hq.2 with x | x | x <;> first | omega | exact x.2.1
    have v2 : valid p.text = true := by rcases hp.2 with x | x | x <;> first | omega | exact x.2.1
    simp only [Part.more, dec_append v1 v2, List.map_append, List.append_assoc]
  · have k1 : ¬ q.kind = 1 := by omega
    simp only [if_neg k1, if_pos k]
    rw [List.drop_drop]
    simp
theorem runS_swap {q p : Part} (hq : q.kind = 3) (hp : p.kind = 2) (r : List Part) (l : List β) : runS ι (q :: p :: r) l = runS ι (p :: q :: r) l := by
  rw [runS_cons, runS_cons, runS_cons, runS_cons]
  have e1 : ∀ l : List β, rs q l = l.drop q.n.toNat := fun l => by unfold rs; rw [if_neg (by omega), if_pos hq]
  have e2 : ∀ l : List β, rs p l = l := fun l => by unfold rs; rw [if_neg (by omega), if_neg (by omega)]
  have e3 : ∀ l : List β, ot ι q l = [] := fun l => by unfold ot; rw [if_neg (by omega), if_pos hq]
  have e4 : ∀ l l' : List β, ot ι p l = ot ι p l' := fun l l' => by unfold ot; simp only [if_neg (show ¬ p.kind = 1 by omega), if_neg (show ¬ p.kind = 3 by omega)]
  simp only [e1, e2, e3, List.nil_append]
  rw [e4 (l.drop q.n.toNat) l]
/-- A maker does what its parts do, one behind the other. -/
theorem addR_run : ∀ (r : List Part) (p : Part), FitsU r → FitU p → ∀ (t : List Part) (l : List β), runS ι ((addR r p).reverse ++ t) l = runS ι (r.reverse ++ p :: t) l
  | [], p, _, hp, t, l => by rw [addR_nil (by have := hp.1; omega)]; rfl
  | q :: r, p, h, hp, t, l => by
    have hn : ¬ p.n = 0 := by have := hp.1; omega
    have hq := h q (.head _)
    by_cases h1 : q.kind = p.kind
    · rw [addR_more hn h1]
      simp only [List.reverse_cons, List.append_assoc, List.cons_append, List.nil_append]
      rw [runS_append, runS_append, runS_more ι hq hp h1]
    · by_cases h2 : p.kind ≠ 2 ∨ q.kind ≠ 3
      · rw [addR_push hn h1 h2]
        simp only [List.reverse_cons, List.append_assoc, List.cons_append, List.nil_append]
      · rw [addR_deep hn h1 h2]
        simp only [List.reverse_cons, List.append_assoc, List.cons_append, List.nil_append]
        rw [addR_run r p h.tail hp (q :: t) l, runS_append, runS_append, runS_swap ι (q := q) (p := p) (by omega) (by omega)]
theorem addRs_run : ∀ (ps r : List Part), MK r → FitsU ps → ∀ (t : List Part) (l : List β), runS ι ((addRs r ps).reverse ++ t) l = runS ι (r.reverse ++ (ps ++ t)) l
  | [], r, _, _, t, l => rfl
  | p :: ps, r, h, hp, t, l => by
    rw [addRs_cons, addRs_run ps (addR r p) (h.add (hp p (.head _))) hp.tail t l, addR_run ι r p h.fit (hp p (.head _))]
    rfl
theorem maker_run {ps : List Part} (hp : FitsU ps) (l : List β) : runS ι (addRs [] ps).reverse l = runS ι ps l := by
  have := addRs_run ι ps [] MK.nil hp [] l
  simpa using this
/-! ### How long -/
theorem ot_len {p : Part} (hp : FitU p) {l : List β} (h : (if p.kind = 2 then 0 else p.n) ≤ (l.length : Int)) : ((ot ι p l).length : Int) = (if p.kind = 3 then 0 else p.n) ∧ ((rs p l).length : Int) = l.length - (if p.kind = 2 then 0 else p.n) := by
  have h1 := hp.1
  unfold ot rs
  rcases hp.2 with ⟨k, _⟩ | ⟨k, _⟩ | ⟨k, _, hl⟩
  · simp only [if_pos k, if_neg (show ¬ p.kind = 2 by omega), if_neg (show ¬ p.kind = 3 by omega)] at h ⊢
    rw [List.length_take, List.length_drop]; omega
  · simp only [if_pos k, if_neg (show ¬ p.kind = 2 by omega), if_neg (show ¬ p.kind = 1 by omega)] at h ⊢
    rw [List.length_drop]; simp; omega
  · simp only [if_pos k, if_neg (show ¬ p.kind = 3 by omega), if_neg (show ¬ p.kind = 1 by omega)] at h ⊢
    rw [List.length_map]; omega
theorem runS_len : ∀ (e : List Part) (l : List β), FitsU e → fromS e ≤ l.length → ((runS ι e l).1.length : Int) = toS e ∧ ((runS ι e l).2.length : Int) = l.length - fromS e
  | [], l, _, _ => by simp [runS, toS, fromS]
  | p :: r, l, h, hl => by
    have hr := fromS_posU h.tail
    simp only [fromS] at hl
    have hp0 := (h p (.head _)).1
    have h1 := ot_len ι (h p (.head _)) (l := l) (by omega)
    have h2 := runS_len r (rs p l) h.tail (by rw [h1.2]; omega)
    rw [runS_cons]
    simp only [toS, fromS, List.length_append]
    omega
/-! ### A part, cut in two -/
theorem ot_cut {p : Part} (hp : fitsB p = true) {n : Int} (h1 : 1 ≤ n) (h2 : n ≤ p.n) (r : List Part) (l : List β) : runS ι (p :: r) l = (ot ι (takeP p n) l ++ (runS ι (restP p r n) (rs (takeP p n) l)).1, (runS ι (restP p r n) (rs (takeP p n) l)).2) := by
  unfold restP
  split
  · have : p.n = n := by omega
    subst this
    rw [take_all hp, runS_cons]
  · rename_i h0
    have hf := fitsB_cases hp
    rw [runS_cons, runS_cons]
    have kt : (takeP p n).kind = p.kind := rfl
    have kl : (leftP p n).kind = p.kind := rfl
    have nt : (takeP p n).n = n := rfl
    have nl : (leftP p n).n = p.n - n := rfl
    have hN : p.n.toNat = n.toNat + (p.n - n).toNat := by omega
    unfold ot rs
    rw [kt, kl, nt, nl]
    rcases hf.2.2 with ⟨k, _⟩ | ⟨k, _⟩ | ⟨k, hv, hl⟩
    · simp only [if_pos k]
      rw [hN, List.take_add, List.drop_drop]
      simp
    · have k1 : ¬ p.kind = 1 := by omega
      simp only [if_neg k1, if_pos k]
      rw [hN, List.drop_drop]
      simp
    · have k1 : ¬ p.kind = 1 := by omega
      have k3 : ¬ p.kind = 3 := by omega
      simp only [if_neg k1, if_neg k3]
      have e1 : dec (takeP p n).text = (dec p.text).take n.toNat := by simp only [takeP, if_pos k]; exact dec_enc fun r hr => dec_scalar hv r (List.mem_of_mem_take hr)
      have e2 : dec (leftP p n).text = (dec p.text).drop n.toNat := by simp only [leftP, if_pos k]; exact dec_enc fun r hr => dec_scalar hv r (List.mem_of_mem_drop hr)
      rw [e1, e2, ← List.append_assoc, ← List.map_append, List.take_append_drop]
end
/-! ### The one form is known by what it does -/
section
abbrev Gen := Nat ⊕ Int
def inlS (l : List Gen) : Prop := ∀ x ∈ l, ∃ i, x = .inl i
theorem heads {p : Part} {r : List Part} (hf : FitsU (p :: r)) (hna : NA none (p :: r)) {l : List Gen} (hl : (l.length : Int) = fromS (p :: r)) (hi : inlS l) (hd : l.Nodup) :
    (p.kind = 1 → (runS Sum.inr (p :: r) l).1.head? = l[0]? ∧ 0 < l.length) ∧ (p.kind = 2 → ∃ x, (runS Sum.inr (p :: r) l).1.head? = some (.inr x)) ∧
    (p.kind = 3 → (r = [] ∧ (runS Sum.inr (p :: r) l).1 = []) ∨ (r ≠ [] ∧ p.n.toNat < l.length ∧ (runS Sum.inr (p :: r) l).1.head? = l[p.n.toNat]?)) := by
  have hp := hf p (.head _)
  have h1 := hp.1
  have hr := fromS_posU hf.tail
  simp only [fromS] at hl
  rw [runS_cons]
  refine ⟨fun k => ?_, fun k => ?_, fun k => ?_⟩
  · rw [if_neg (by omega)] at hl
    have hpos : 0 < l.length := by omega
    obtain ⟨x, t, rfl⟩ := List.exists_cons_of_ne_nil (List.length_pos_iff.1 hpos)
    unfold ot
    rw [if_pos k]
    obtain ⟨m, hm⟩ : ∃ m, p.n.toNat = m + 1 := ⟨p.n.toNat - 1, by omega⟩
    rw [hm]
    exact ⟨by simp, hpos⟩
  · have hlen : ((dec p.text).length : Int) = p.n := by rcases hp.2 with x | x | x <;> first | omega | exact x.2.2
    unfold ot
    rw [if_neg (by omega), if_neg (by omega)]
    cases hd' : dec p.text with
    | nil => rw [hd'] at hlen; simp at hlen; omega
    | cons x t => exact ⟨x, by simp⟩
  · unfold ot
    rw [if_neg (by omega), if_pos k, List.nil_append]
    have hrs : rs p l = l.drop p.n.toNat := by unfold rs; rw [if_neg (by omega), if_pos k]
    rw [hrs]
    cases r with
    | nil => exact .inl ⟨rfl, rfl⟩
    | cons q r =>
      right
      have hq := hf q (.tail _ (.head _))
      have hq1 := hq.1
      have hok : okPrev (some p.kind) q.kind := hna.2.1
      have hk1 : q.kind = 1 := by rcases hq.kinds with x | x | x <;> first | exact x | (exact absurd hok (by unfold okPrev; simp only; omega))
      rw [if_neg (by omega)] at hl
      simp only [fromS] at hl hr
      rw [if_neg (by omega)] at hl hr
      have hr2 := fromS_posU hf.tail.tail
      refine ⟨by simp, by omega, ?_⟩
      rw [runS_cons]
      unfold ot
      rw [if_pos hk1]
      have hlt : p.n.toNat < l.length := by omega
      obtain ⟨m, hm⟩ : ∃ m, q.n.toNat = m + 1 := ⟨q.n.toNat - 1, by omega⟩
      rw [hm, List.drop_eq_getElem_cons hlt, List.take_succ_cons, List.cons_append, List.head?_cons, List.getElem?_eq_getElem hlt]
theorem NA.none {k : Option Int} {e : List Part} (h : NA k e) : NA none e := by
  cases e with
  | nil => trivial
  | cons p r => exact ⟨trivial, h.2⟩
theorem inr_prefix : ∀ (a b : List Int) (x y : List Gen), a.map Sum.inr ++ x = b.map Sum.inr ++ y → (∀ z, x.head? ≠ some (.inr z)) → (∀ z, y.head? ≠ some (.inr z)) → a = b ∧ x = y
  | [], [], x, y, h, _, _ => ⟨rfl, by simpa using h⟩
  | [], c :: b, x, y, h, hx, _ => by simp at h; rw [h] at hx; exact absurd (by simp) (hx c)
  | c :: a, [], x, y, h, _, hy => by simp at h; rw [← h] at hy; exact absurd (by simp) (hy c)
  | c :: a, d :: b, x, y, h, hx, hy => by
    simp only [List.map_cons, List.cons_append, List.cons.injEq, Sum.inr.injEq] at h
    obtain ⟨h1, h2⟩ := inr_prefix a b x y h.2 hx hy
    exact ⟨by rw [h.1, h1], h2⟩
theorem getElem_inj {l : List Gen} (hd : l.Nodup) {i j : Nat} (hi : i < l.length) (h : l[i]? = l[j]?) : i = j := by
  rw [List.getElem?_eq_getElem hi] at h
  obtain ⟨hj, e⟩ := List.getElem?_eq_some_iff.1 h.symm
  exact (List.getElem_inj hd).1 e.symm
theorem inl_get {l : List Gen} (hi : inlS l) {i : Nat} {x : Int} : l[i]? ≠ some (.inr x) := fun h => by
  obtain ⟨j, hj⟩ := hi _ (List.mem_of_getElem? h)
  cases hj
theorem no_inr {p : Part} {r : List Part} (hf : FitsU r) (hna : NA (some p.kind) r) (hk : p.kind = 2) {l : List Gen} (hl : (l.length : Int) = fromS r) (hi : inlS l) (hd : l.Nodup) : ∀ z, (runS Sum.inr r l).1.head? ≠ some (.inr z) := by
  intro z
  cases r with
  | nil => simp [runS]
  | cons q r =>
    have hq := hf q (.head _)
    have hh := heads hf hna.none hl hi hd
    rcases hq.kinds with k | k | k
    · rw [(hh.1 k).1]; exact inl_get hi
    · exact absurd hna.1 (by unfold okPrev; simp only; omega)
    · rcases hh.2.2 k with ⟨_, h⟩ | ⟨_, _, h⟩
      · rw [h]; simp
      · rw [h]; exact inl_get hi
theorem no_next {k : Int} {r : List Part} (hf : FitsU r) (hna : NA (some k) r) (hk : k = 1) {l : List Gen} (hl : (l.length : Int) = fromS r) (hi : inlS l) (hd : l.Nodup) : ∀ x, l[0]? = some x → (runS Sum.inr r l).1.head? ≠ some x := by
  intro x hx
  cases r with
  | nil => simp [runS]
  | cons q r =>
    have hq := hf q (.head _)
    have hh := heads hf hna.none hl hi hd
    have hok : okPrev (some k) q.kind := hna.1
    have hq1 := hq.1
    rcases hq.kinds with k' | k' | k'
    · exact absurd hok (by unfold okPrev; simp only; omega)
    · obtain ⟨y, hy⟩ := hh.2.1 k'
      rw [hy]; rintro e
      rw [← e] at hx; exact inl_get hi hx
    · rcases hh.2.2 k' with ⟨_, h⟩ | ⟨_, h1, h2⟩
      · rw [h]; simp
      · rw [h2, ← hx]
        intro e
        have := getElem_inj hd h1 e
        omega
theorem take_same {l O1 O2 : List Gen} {n1 n2 : Nat} (h : l.take n1 ++ O1 = l.take n2 ++ O2) (h1 : n1 ≤ l.length) (h2 : n2 ≤ l.length) (k1 : ∀ x, (l.drop n1)[0]? = some x → O1.head? ≠ some x) (k2 : ∀ x, (l.drop n2)[0]? = some x → O2.head? ≠ some x) : n1 = n2 ∧ O1 = O2 := by
  have core : ∀ (n1 n2 : Nat) (O1 O2 : List Gen), l.take n1 ++ O1 = l.take n2 ++ O2 → n2 ≤ l.length → (∀ x, (l.drop n1)[0]? = some x → O1.head? ≠ some x) → ¬ n1 < n2 := by
    intro n1 n2 O1 O2 h h2 k1 hlt
    have e := congrArg (·[n1]?) h

    rw [List.getElem?_append_right (by rw [List.length_take]; omega), List.getElem?_append_left (by rw [List.length_take]; omega), List.length_take, Nat.min_eq_left (by omega), Nat.sub_self, List.getElem?_take, if_pos hlt] at e
    have hl : n1 < l.length := by omega
    refine k1 l[n1] (by rw [List.getElem?_drop]; simp [List.getElem?_eq_getElem hl]) ?_
    rw [List.head?_eq_getElem?, e, List.getElem?_eq_getElem hl]
  have a1 := core n1 n2 O1 O2 h h2 k1
  have a2 := core n2 n1 O2 O1 h.symm h1 k2
  have : n1 = n2 := by omega
  subst this
  exact ⟨rfl, List.append_cancel_left h⟩
theorem same_form : ∀ (a b : List Part) (l : List Gen), FitsU a → FitsU b → NA none a → NA none b → (l.length : Int) = fromS a → (l.length : Int) = fromS b → inlS l → l.Nodup → (runS Sum.inr a l).1 = (runS Sum.inr b l).1 → a = b
  | [], [], _, _, _, _, _, _, _, _, _, _ => rfl
  | [], q :: b, l, _, hb, _, nb, la, lb, hi, hd, h => by
    exfalso
    have hq := hb q (.head _)
    have h1 := hq.1
    have hr := fromS_posU hb.tail
    simp only [fromS] at la lb
    have hh := heads hb nb (by simp only [fromS]; omega) hi hd
    have k : q.kind = 2 := by
      rcases hq.kinds with k | k | k
      · rw [if_neg (by omega)] at lb; omega
      · exact k
      · rw [if_neg (by omega)] at lb; omega
    obtain ⟨x, hx⟩ := hh.2.1 k
    rw [← h] at hx
    simp [runS] at hx
  | p :: a, [], l, ha, _, na, _, la, lb, hi, hd, h => by
    exfalso
    have hp := ha p (.head _)
    have h1 := hp.1
    have hr := fromS_posU ha.tail
    simp only [fromS] at la lb
    have hh := heads ha na (by simp only [fromS]; omega) hi hd
    have k : p.kind = 2 := by
      rcases hp.kinds with k | k | k
      · rw [if_neg (by omega)] at la; omega
      · exact k
      · rw [if_neg (by omega)] at la; omega
    obtain ⟨x, hx⟩ := hh.2.1 k
    rw [h] at hx
    simp [runS] at hx
  | p :: a, q :: b, l, ha, hb, na, nb, la, lb, hi, hd, h => by
    have hp := ha p (.head _); have hq := hb q (.head _)
    have hp1 := hp.1; have hq1 := hq.1
    have ra := fromS_posU ha.tail; have rb := fromS_posU hb.tail
    have ea := heads ha na la hi hd; have eb := heads hb nb lb hi hd
    rw [h] at ea
    have hk : p.kind = q.kind := by
      rcases hp.kinds with k | k | k <;> rcases hq.kinds with k' | k' | k' <;> try omega
      · exfalso
        obtain ⟨x, hx⟩ := eb.2.1 k'
        have := (ea.1 k).1
        rw [hx] at this; exact inl_get hi this.symm
      · exfalso
        have h1 := ea.1 k
        rcases eb.2.2 k' with ⟨_, h2⟩ | ⟨_, h2, h3⟩
        · rw [h2] at h1
          have := h1.1
          rw [List.getElem?_eq_getElem h1.2] at this; cases this
        · have := getElem_inj hd h1.2 (h1.1.symm.trans h3)
          omega
      · exfalso
        obtain ⟨x, hx⟩ := ea.2.1 k
        have := (eb.1 k').1
        rw [hx] at this; exact inl_get hi this.symm
      · exfalso
        obtain ⟨x, hx⟩ := ea.2.1 k
        rcases eb.2.2 k' with ⟨_, h2⟩ | ⟨_, h2, h3⟩
        · rw [h2] at hx; cases hx
        · rw [hx] at h3; exact inl_get hi h3.symm
      · exfalso
        have h1 := eb.1 k'
        rcases ea.2.2 k with ⟨_, h2⟩ | ⟨_, h2, h3⟩
        · rw [h2] at h1
          have := h1.1
          rw [List.getElem?_eq_getElem h1.2] at this; cases this
        · have := getElem_inj hd h1.2 (h1.1.symm.trans h3)
          omega
      · exfalso
        obtain ⟨x, hx⟩ := eb.2.1 k'
        rcases ea.2.2 k with ⟨_, h2⟩ | ⟨_, h2, h3⟩
        · rw [h2] at hx; cases hx
        · rw [hx] at h3; exact inl_get hi h3.symm
    have key : p.n = q.n ∧ p.text = q.text ∧ (runS Sum.inr a (rs p l)).1 = (runS Sum.inr b (rs p l)).1 := by
      rw [runS_cons, runS_cons] at h
      simp only [fromS] at la lb
      rcases hp.2 with ⟨k, t⟩ | ⟨k, t⟩ | ⟨k, v, hl⟩
      · have kq : q.kind = 1 := by omega
        have tq : q.text = ⟨#[]⟩ := by rcases hq.2 with x | x | x <;> first | exact x.2 | omega
        rw [if_neg (by omega)] at la lb
        have e1 : ∀ l : List Gen, ot Sum.inr p l = l.take p.n.toNat := fun l => by unfold ot; rw [if_pos k]
        have e2 : ∀ l : List Gen, ot Sum.inr q l = l.take q.n.toNat := fun l => by unfold ot; rw [if_pos kq]
        have e3 : rs p l = l.drop p.n.toNat := by unfold rs; rw [if_pos k]
        have e4 : rs q l = l.drop q.n.toNat := by unfold rs; rw [if_pos kq]
        rw [e1, e2, e3, e4] at h
        have c := take_same h (by omega) (by omega)
          (no_next ha.tail na.2 k (by rw [List.length_drop]; omega) (fun x hx => hi x (List.mem_of_mem_drop hx)) (hd.sublist (List.drop_sublist _ _)))
          (no_next hb.tail nb.2 kq (by rw [List.length_drop]; omega) (fun x hx => hi x (List.mem_of_mem_drop hx)) (hd.sublist (List.drop_sublist _ _)))
        refine ⟨by omega, by rw [t, tq], ?_⟩
        rw [e3]
        have := c.2
        rw [← c.1] at this
        exact this
      · have kq : q.kind = 3 := by omega
        have tq : q.text = ⟨#[]⟩ := by rcases hq.2 with x | x | x <;> first | exact x.2 | omega
        rw [if_neg (by omega)] at la lb
        have e1 : ∀ l : List Gen, ot Sum.inr p l = [] := fun l => by unfold ot; rw [if_neg (by omega), if_pos k]
        have e2 : ∀ l : List Gen, ot Sum.inr q l = [] := fun l => by unfold ot; rw [if_neg (by omega), if_pos kq]
        have e3 : rs p l = l.drop p.n.toNat := by unfold rs; rw [if_neg (by omega), if_pos k]
        have e4 : rs q l = l.drop q.n.toNat := by unfold rs; rw [if_neg (by omega), if_pos kq]
        have hn : p.n = q.n := by
          rcases ea.2.2 k with ⟨a1, a2⟩ | ⟨a1, a2, a3⟩ <;> rcases eb.2.2 kq with ⟨b1, b2⟩ | ⟨b1, b2, b3⟩
          · subst a1 b1; simp only [fromS] at la lb; omega
          · rw [a2] at b3; simp only [List.head?_nil] at b3
            rw [List.getElem?_eq_getElem b2] at b3; cases b3
          · rw [b2] at a3; simp only [List.head?_nil] at a3
            rw [List.getElem?_eq_getElem a2] at a3; cases a3
          · have := getElem_inj hd a2 (a3.symm.trans b3)
            omega
        rw [e1, e2, e3, e4, ← hn] at h
        refine ⟨hn, by rw [t, tq], ?_⟩
        rw [e3]; exact h
      · have kq : q.kind = 2 := by omega
        have vq : valid q.text = true ∧ ((dec q.text).length : Int) = q.n := by rcases hq.2 with x | x | x <;> first | exact x.2 | omega
        rw [if_pos (by omega)] at la lb
        have e1 : ∀ l : List Gen, ot Sum.inr p l = (dec p.text).map Sum.inr := fun l => by unfold ot; rw [if_neg (by omega), if_neg (by omega)]
        have e2 : ∀ l : List Gen, ot Sum.inr q l = (dec q.text).map Sum.inr := fun l => by unfold ot; rw [if_neg (by omega), if_neg (by omega)]
        have e3 : rs p l = l := by unfold rs; rw [if_neg (by omega), if_neg (by omega)]
        have e4 : rs q l = l := by unfold rs; rw [if_neg (by omega), if_neg (by omega)]
        rw [e1, e2, e3, e4] at h
        obtain ⟨c1, c2⟩ := inr_prefix _ _ _ _ h (no_inr ha.tail na.2 k (by omega) hi hd) (no_inr hb.tail nb.2 kq (by omega) hi hd)
        refine ⟨by rw [c1] at hl; omega, dec_inj v vq.1 c1, ?_⟩
        rw [e3]; exact c2
    obtain ⟨k1, k2, k3⟩ := key
    have hpq : p = q := by cases p; cases q; simp only at hk k1 k2; subst hk k1 k2; rfl
    subst hpq
    congr 1
    have hlr := (ot_len Sum.inr hp (l := l) (by simp only [fromS] at la; split at la <;> rename_i hk2 <;> (first | rw [if_pos hk2] | rw [if_neg hk2]) <;> omega)).2
    refine same_form a b (rs p l) ha.tail hb.tail na.2.none nb.2.none ?_ ?_ ?_ ?_ k3
    · simp only [fromS] at la; omega
    · simp only [fromS] at lb; omega
    · intro x hx
      refine hi x ?_
      unfold rs at hx
      split at hx
      · exact List.mem_of_mem_drop hx
      · split at hx
        · exact List.mem_of_mem_drop hx
        · exact hx
    · unfold rs
      split
      · exact hd.sublist (List.drop_sublist _ _)
      · split
        · exact hd.sublist (List.drop_sublist _ _)
        · exact hd
end
end Go.SK
