/- Plain words: what an edit does to a list of anything; its one form is known by that. Plain words: what composition, transformation and inverse do. Plain words: what transformation and the inverse do; what composition makes is an edit. Plain words: what an edit makes of a text, and its inverse. Plain words: how much is put and dropped behind another edit. Plain words: what transformation makes. Plain words: edits that do the same are the same. Plain words: cursors keep their order. Plain words: what is answered is an edit or nothing, and of few parts. Plain words: edits that keep all, an edit's one form, what it weighs, and cursors through two that drop nothing. Plain words: what the laws of several edits ask, as the program's answers tell it. -/
import Derived.Test.YtlbaebaimhbbfaaDoorMC
set_option linter.unusedVariables false
set_option linter.unusedSimpArgs false
set_option maxRecDepth 100000
namespace Go.SK
open Go
section
variable {β : Type} (ι : Int → β)
def ot (p : Part) (l : List β) : List β := if p.kind = 1 then l.take p.n.toNat else if p.kind = 3 then [] else (dec p.text).map ι
def rs (p : Part) (l : List β) : List β := if p.kind = 1 then l.drop p.n.toNat else if p.kind = 3 then l.drop p.n.toNat else l
/-- What an edit makes of a list, and what it leaves of it. -/
def runS : List Part → List β → List β × List β
  | [], l => ([], l)
  | p :: r, l => (ot ι p l ++ (runS r (rs p l)).1, (runS r (rs p l)).2)
theorem runS_cons (p : Part) (r : List Part) (l : List β) : runS ι (p :: r) l = (ot ι p l ++ (runS ι r (rs p l)).1, (runS ι r (rs p l)).2) := rfl
theorem runS_append : ∀ (a b : List Part) (l : List β), runS ι (a ++ b) l = ((runS ι a l).1 ++ (runS ι b (runS ι a l).2).1, (runS ι b (runS ι a l).2).2)
  | [], b, l => by simp [runS]
  | p :: a, b, l => by
    rw [List.cons_append, runS_cons, runS_cons, runS_append a b]
    simp
theorem apGo_run : ∀ (e : List Part) (l out : List Int), apGo e l out = out ++ (runS id e l).1
  | [], l, out => by simp [apGo, runS]
  | p :: r, l, out => by
    rw [apGo, runS_cons]
    unfold ot rs
    split
    · rw [apGo_run r]; simp
    · split
      · rw [apGo_run r]; simp
      · rw [apGo_run r]; simp
/-- Two parts of one kind are one. -/
theorem runS_more {q p : Part} (hq : FitU q) (hp : FitU p) (h : q.kind = p.kind) (r : List Part) (l : List β) : runS ι (q.more p :: r) l = runS ι (q :: p :: r) l := by
  have h1 := hq.1; have h2 := hp.1
  rw [runS_cons, runS_cons, runS_cons]
  have hn : (q.more p).n.toNat = q.n.toNat + p.n.toNat := by simp only [Part.more]; omega
  have hk : (q.more p).kind = q.kind := rfl
  unfold ot rs
  rw [hk, hn, ← h]
  rcases hq.kinds with k | k | k
  · simp only [if_pos k]
    rw [List.take_add, List.drop_drop]
    simp
  · have k1 : ¬ q.kind = 1 := by omega
    have k3 : ¬ q.kind = 3 := by omega
    simp only [if_neg k1, if_neg k3]
    have v1 : valid q.text = true := by rcases hq.2 with x | x | x <;> first | omega | exact x.2.1
    have v2 : valid p.text = true := by rcases hp.2 with x | x | x <;> first | omega | exact x.2.1
    simp only [Part.more, dec_append v1 v2, List.map_append, List.append_assoc]
  · have k1 : ¬ q.kind = 1 := by omega
    simp only [if_neg k1, if_pos k]
    rw [List.drop_drop]
    simp
theorem runS_swap {q p : Part} (hq : q.kind = 3) (hp : p.kind = 2) (r : List Part) (l : List β) : runS ι (q :: p :: r) l = runS ι (p :: q :: r) l := by
  rw [runS_cons, runS_cons, runS_cons, runS_cons]
  have e1 : ∀ l : List β, rs q l = l.drop q.n.toNat := fun l => by unfold rs; rw [if_neg (by omega), if_pos hq]
  have e2 : ∀ l : List β, rs p l = l := fun l => by unfold rs; rw [if_neg (by omega), if_neg (by omega)]
  have e3 : ∀ l : List β, ot ι q l = [] := fun l => by unfold ot; rw [if_neg (by omega), if_pos hq]
  have e4 : ∀ l l' : List β, ot ι p l = ot ι p l' := fun l l' => by unfold ot; simp only [if_neg (show ¬ p.kind = 1 by omega), if_neg (show ¬ p.kind = 3 by omega)]
  simp only [e1, e2, e3, List.nil_append]
  rw [e4 (l.drop q.n.toNat) l]
/-- A maker does what its parts do, one behind the other. -/
theorem addR_run : ∀ (r : List Part) (p : Part), FitsU r → FitU p → ∀ (t : List Part) (l : List β), runS ι ((addR r p).reverse ++ t) l = runS ι (r.reverse ++ p :: t) l
  | [], p, _, hp, t, l => by rw [addR_nil (by have := hp.1; omega)]; rfl
  | q :: r, p, h, hp, t, l => by
    have hn : ¬ p.n = 0 := by have := hp.1; omega
    have hq := h q (.head _)
    by_cases h1 : q.kind = p.kind
    · rw [addR_more hn h1]
      simp only [List.reverse_cons, List.append_assoc, List.cons_append, List.nil_append]
      rw [runS_append, runS_append, runS_more ι hq hp h1]
    · by_cases h2 : p.kind ≠ 2 ∨ q.kind ≠ 3
      · rw [addR_push hn h1 h2]
        simp only [List.reverse_cons, List.append_assoc, List.cons_append, List.nil_append]
      · rw [addR_deep hn h1 h2]
        simp only [List.reverse_cons, List.append_assoc, List.cons_append, List.nil_append]
        rw [addR_run r p h.tail hp (q :: t) l, runS_append, runS_append, runS_swap ι (q := q) (p := p) (by omega) (by omega)]
theorem addRs_run : ∀ (ps r : List Part), MK r → FitsU ps → ∀ (t : List Part) (l : List β), runS ι ((addRs r ps).reverse ++ t) l = runS ι (r.reverse ++ (ps ++ t)) l
  | [], r, _, _, t, l => rfl
  | p :: ps, r, h, hp, t, l => by
    rw [addRs_cons, addRs_run ps (addR r p) (h.add (hp p (.head _))) hp.tail t l, addR_run ι r p h.fit (hp p (.head _))]
    rfl
theorem maker_run {ps : List Part} (hp : FitsU ps) (l : List β) : runS ι (addRs [] ps).reverse l = runS ι ps l := by
  have := addRs_run ι ps [] MK.nil hp [] l
  simpa using this
/-! ### How long -/
theorem ot_len {p : Part} (hp : FitU p) {l : List β} (h : (if p.kind = 2 then 0 else p.n) ≤ (l.length : Int)) : ((ot ι p l).length : Int) = (if p.kind = 3 then 0 else p.n) ∧ ((rs p l).length : Int) = l.length - (if p.kind = 2 then 0 else p.n) := by
  have h1 := hp.1
  unfold ot rs
  rcases hp.2 with ⟨k, _⟩ | ⟨k, _⟩ | ⟨k, _, hl⟩
  · simp only [if_pos k, if_neg (show ¬ p.kind = 2 by omega), if_neg (show ¬ p.kind = 3 by omega)] at h ⊢
    rw [List.length_take, List.length_drop]; omega
  · simp only [if_pos k, if_neg (show ¬ p.kind = 2 by omega), if_neg (show ¬ p.kind = 1 by omega)] at h ⊢
    rw [List.length_drop]; simp; omega
  · simp only [if_pos k, if_neg (show ¬ p.kind = 3 by omega), if_neg (show ¬ p.kind = 1 by omega)] at h ⊢
    rw [List.length_map]; omega
theorem runS_len : ∀ (e : List Part) (l : List β), FitsU e → fromS e ≤ l.length → ((runS ι e l).1.length : Int) = toS e ∧ ((runS ι e l).2.length : Int) = l.length - fromS e
  | [], l, _, _ => by simp [runS, toS, fromS]
  | p :: r, l, h, hl => by
    have hr := fromS_posU h.tail
    simp only [fromS] at hl
    have hp0 := (h p (.head _)).1
    have h1 := ot_len ι (h p (.head _)) (l := l) (by omega)
    have h2 := runS_len r (rs p l) h.tail (by rw [h1.2]; omega)
    rw [runS_cons]
    simp only [toS, fromS, List.length_append]
    omega
/-! ### A part, cut in two -/
theorem ot_cut {p : Part} (hp : fitsB p = true) {n : Int} (h1 : 1 ≤ n) (h2 : n ≤ p.n) (r : List Part) (l : List β) : runS ι (p :: r) l = (ot ι (takeP p n) l ++ (runS ι (restP p r n) (rs (takeP p n) l)).1, (runS ι (restP p r n) (rs (takeP p n) l)).2) := by
  unfold restP
  split
  · have : p.n = n := by omega
    subst this
    rw [take_all hp, runS_cons]
  · rename_i h0
    have hf := fitsB_cases hp
    rw [runS_cons, runS_cons]
    have kt : (takeP p n).kind = p.kind := rfl
    have kl : (leftP p n).kind = p.kind := rfl
    have nt : (takeP p n).n = n := rfl
    have nl : (leftP p n).n = p.n - n := rfl
    have hN : p.n.toNat = n.toNat + (p.n - n).toNat := by omega
    unfold ot rs
    rw [kt, kl, nt, nl]
    rcases hf.2.2 with ⟨k, _⟩ | ⟨k, _⟩ | ⟨k, hv, hl⟩
    · simp only [if_pos k]
      rw [hN, List.take_add, List.drop_drop]
      simp
    · have k1 : ¬ p.kind = 1 := by omega
      simp only [if_neg k1, if_pos k]
      rw [hN, List.drop_drop]
      simp
    · have k1 : ¬ p.kind = 1 := by omega
      have k3 : ¬ p.kind = 3 := by omega
      simp only [if_neg k1, if_neg k3]
      have e1 : dec (takeP p n).text = (dec p.text).take n.toNat := by simp only [takeP, if_pos k]; exact dec_enc fun r hr => dec_scalar hv r (List.mem_of_mem_take hr)
      have e2 : dec (leftP p n).text = (dec p.text).drop n.toNat := by simp only [leftP, if_pos k]; exact dec_enc fun r hr => dec_scalar hv r (List.mem_of_mem_drop hr)
      rw [e1, e2, ← List.append_assoc, ← List.map_append, List.take_append_drop]
end
/-! ### The one form is known by what it does -/
section
abbrev Gen := Nat ⊕ Int
def inlS (l : List Gen) : Prop := ∀ x ∈ l, ∃ i, x = .inl i
theorem heads {p : Part} {r : List Part} (hf : FitsU (p :: r)) (hna : NA none (p :: r)) {l : List Gen} (hl : (l.length : Int) = fromS (p :: r)) (hi : inlS l) (hd : l.Nodup) :
    (p.kind = 1 → (runS Sum.inr (p :: r) l).1.head? = l[0]? ∧ 0 < l.length) ∧ (p.kind = 2 → ∃ x, (runS Sum.inr (p :: r) l).1.head? = some (.inr x)) ∧
    (p.kind = 3 → (r = [] ∧ (runS Sum.inr (p :: r) l).1 = []) ∨ (r ≠ [] ∧ p.n.toNat < l.length ∧ (runS Sum.inr (p :: r) l).1.head? = l[p.n.toNat]?)) := by
  have hp := hf p (.head _)
  have h1 := hp.1
  have hr := fromS_posU hf.tail
  simp only [fromS] at hl
  rw [runS_cons]
  refine ⟨fun k => ?_, fun k => ?_, fun k => ?_⟩
  · rw [if_neg (by omega)] at hl
    have hpos : 0 < l.length := by omega
    obtain ⟨x, t, rfl⟩ := List.exists_cons_of_ne_nil (List.length_pos_iff.1 hpos)
    unfold ot
    rw [if_pos k]
    obtain ⟨m, hm⟩ : ∃ m, p.n.toNat = m + 1 := ⟨p.n.toNat - 1, by omega⟩
    rw [hm]
    exact ⟨by simp, hpos⟩
  · have hlen : ((dec p.text).length : Int) = p.n := by rcases hp.2 with x | x | x <;> first | omega | exact x.2.2
    unfold ot
    rw [if_neg (by omega), if_neg (by omega)]
    cases hd' : dec p.text with
    | nil => rw [hd'] at hlen; simp at hlen; omega
    | cons x t => exact ⟨x, by simp⟩
  · unfold ot
    rw [if_neg (by omega), if_pos k, List.nil_append]
    have hrs : rs p l = l.drop p.n.toNat := by unfold rs; rw [if_neg (by omega), if_pos k]
    rw [hrs]
    cases r with
    | nil => exact .inl ⟨rfl, rfl⟩
    | cons q r =>
      right
      have hq := hf q (.tail _ (.head _))
      have hq1 := hq.1
      have hok : okPrev (some p.kind) q.kind := hna.2.1
      have hk1 : q.kind = 1 := by rcases hq.kinds with x | x | x <;> first | exact x | (exact absurd hok (by unfold okPrev; simp only; omega))
      rw [if_neg (by omega)] at hl
      simp only [fromS] at hl hr
      rw [if_neg (by omega)] at hl hr
      have hr2 := fromS_posU hf.tail.tail
      refine ⟨by simp, by omega, ?_⟩
      rw [runS_cons]
      unfold ot
      rw [if_pos hk1]
      have hlt : p.n.toNat < l.length := by omega
      obtain ⟨m, hm⟩ : ∃ m, q.n.toNat = m + 1 := ⟨q.n.toNat - 1, by omega⟩
      rw [hm, List.drop_eq_getElem_cons hlt, List.take_succ_cons, List.cons_append, List.head?_cons, List.getElem?_eq_getElem hlt]
theorem NA.none {k : Option Int} {e : List Part} (h : NA k e) : NA none e := by
  cases e with
  | nil => trivial
  | cons p r => exact ⟨trivial, h.2⟩
theorem inr_prefix : ∀ (a b : List Int) (x y : List Gen), a.map Sum.inr ++ x = b.map Sum.inr ++ y → (∀ z, x.head? ≠ some (.inr z)) → (∀ z, y.head? ≠ some (.inr z)) → a = b ∧ x = y
  | [], [], x, y, h, _, _ => ⟨rfl, by simpa using h⟩
  | [], c :: b, x, y, h, hx, _ => by simp at h; rw [h] at hx; exact absurd (by simp) (hx c)
  | c :: a, [], x, y, h, _, hy => by simp at h; rw [← h] at hy; exact absurd (by simp) (hy c)
  | c :: a, d :: b, x, y, h, hx, hy => by
    simp only [List.map_cons, List.cons_append, List.cons.injEq, Sum.inr.injEq] at h
    obtain ⟨h1, h2⟩ := inr_prefix a b x y h.2 hx hy
    exact ⟨by rw [h.1, h1], h2⟩
theorem getElem_inj {l : List Gen} (hd : l.Nodup) {i j : Nat} (hi : i < l.length) (h : l[i]? = l[j]?) : i = j := by
  rw [List.getElem?_eq_getElem hi] at h
  obtain ⟨hj, e⟩ := List.getElem?_eq_some_iff.1 h.symm
  exact (List.getElem_inj hd).1 e.symm
theorem inl_get {l : List Gen} (hi : inlS l) {i : Nat} {x : Int} : l[i]? ≠ some (.inr x) := fun h => by
  obtain ⟨j, hj⟩ := hi _ (List.mem_of_getElem? h)
  cases hj
theorem no_inr {p : Part} {r : List Part} (hf : FitsU r) (hna : NA (some p.kind) r) (hk : p.kind = 2) {l : List Gen} (hl : (l.length : Int) = fromS r) (hi : inlS l) (hd : l.Nodup) : ∀ z, (runS Sum.inr r l).1.head? ≠ some (.inr z) := by
  intro z
  cases r with
  | nil => simp [runS]
  | cons q r =>
    have hq := hf q (.head _)
    have hh := heads hf hna.none hl hi hd
    rcases hq.kinds with k | k | k
    · rw [(hh.1 k).1]; exact inl_get hi
    · exact absurd hna.1 (by unfold okPrev; simp only; omega)
    · rcases hh.2.2 k with ⟨_, h⟩ | ⟨_, _, h⟩
      · rw [h]; simp
      · rw [h]; exact inl_get hi
theorem no_next {k : Int} {r : List Part} (hf : FitsU r) (hna : NA (some k) r) (hk : k = 1) {l : List Gen} (hl : (l.length : Int) = fromS r) (hi : inlS l) (hd : l.Nodup) : ∀ x, l[0]? = some x → (runS Sum.inr r l).1.head? ≠ some x := by
  intro x hx
  cases r with
  | nil => simp [runS]
  | cons q r =>
    have hq := hf q (.head _)
    have hh := heads hf hna.none hl hi hd
    have hok : okPrev (some k) q.kind := hna.1
    have hq1 := hq.1
    rcases hq.kinds with k' | k' | k'
    · exact absurd hok (by unfold okPrev; simp only; omega)
    · obtain ⟨y, hy⟩ := hh.2.1 k'
      rw [hy]; rintro e
      rw [← e] at hx; exact inl_get hi hx
    · rcases hh.2.2 k' with ⟨_, h⟩ | ⟨_, h1, h2⟩
      · rw [h]; simp
      · rw [h2, ← hx]
        intro e
        have := getElem_inj hd h1 e
        omega
theorem take_same {l O1 O2 : List Gen} {n1 n2 : Nat} (h : l.take n1 ++ O1 = l.take n2 ++ O2) (h1 : n1 ≤ l.length) (h2 : n2 ≤ l.length) (k1 : ∀ x, (l.drop n1)[0]? = some x → O1.head? ≠ some x) (k2 : ∀ x, (l.drop n2)[0]? = some x → O2.head? ≠ some x) : n1 = n2 ∧ O1 = O2 := by
  have core : ∀ (n1 n2 : Nat) (O1 O2 : List Gen), l.take n1 ++ O1 = l.take n2 ++ O2 → n2 ≤ l.length → (∀ x, (l.drop n1)[0]? = some x → O1.head? ≠ some x) → ¬ n1 < n2 := by
    intro n1 n2 O1 O2 h h2 k1 hlt
    have e := congrArg (·[n1]?) h

    rw [List.getElem?_append_right (by rw [List.length_take]; omega), List.getElem?_append_left (by rw [List.length_take]; omega), List.length_take, Nat.min_eq_left (by omega), Nat.sub_self, List.getElem?_take, if_pos hlt] at e
    have hl : n1 < l.length := by omega
    refine k1 l[n1] (by rw [List.getElem?_drop]; simp [List.getElem?_eq_getElem hl]) ?_
    rw [List.head?_eq_getElem?, e, List.getElem?_eq_getElem hl]
  have a1 := core n1 n2 O1 O2 h h2 k1
  have a2 := core n2 n1 O2 O1 h.symm h1 k2
  have : n1 = n2 := by omega
  subst this
  exact ⟨rfl, List.append_cancel_left h⟩
theorem same_form : ∀ (a b : List Part) (l : List Gen), FitsU a → FitsU b → NA none a → NA none b → (l.length : Int) = fromS a → (l.length : Int) = fromS b → inlS l → l.Nodup → (runS Sum.inr a l).1 = (runS Sum.inr b l).1 → a = b
  | [], [], _, _, _, _, _, _, _, _, _, _ => rfl
  | [], q :: b, l, _, hb, _, nb, la, lb, hi, hd, h => by
    exfalso
    have hq := hb q (.head _)
    have h1 := hq.1
    have hr := fromS_posU hb.tail
    simp only [fromS] at la lb
    have hh := heads hb nb (by simp only [fromS]; omega) hi hd
    have k : q.kind = 2 := by
      rcases hq.kinds with k | k | k
      · rw [if_neg (by omega)] at lb; omega
      · exact k
      · rw [if_neg (by omega)] at lb; omega
    obtain ⟨x, hx⟩ := hh.2.1 k
    rw [← h] at hx
    simp [runS] at hx
  | p :: a, [], l, ha, _, na, _, la, lb, hi, hd, h => by
    exfalso
    have hp := ha p (.head _)
    have h1 := hp.1
    have hr := fromS_posU ha.tail
    simp only [fromS] at la lb
    have hh := heads ha na (by simp only [fromS]; omega) hi hd
    have k : p.kind = 2 := by
      rcases hp.kinds with k | k | k
      · rw [if_neg (by omega)] at la; omega
      · exact k
      · rw [if_neg (by omega)] at la; omega
    obtain ⟨x, hx⟩ := hh.2.1 k
    rw [h] at hx
    simp [runS] at hx
  | p :: a, q :: b, l, ha, hb, na, nb, la, lb, hi, hd, h => by
    have hp := ha p (.head _); have hq := hb q (.head _)
    have hp1 := hp.1; have hq1 := hq.1
    have ra := fromS_posU ha.tail; have rb := fromS_posU hb.tail
    have ea := heads ha na la hi hd; have eb := heads hb nb lb hi hd
    rw [h] at ea
    have hk : p.kind = q.kind := by
      rcases hp.kinds with k | k | k <;> rcases hq.kinds with k' | k' | k' <;> try omega
      · exfalso
        obtain ⟨x, hx⟩ := eb.2.1 k'
        have := (ea.1 k).1
        rw [hx] at this; exact inl_get hi this.symm
      · exfalso
        have h1 := ea.1 k
        rcases eb.2.2 k' with ⟨_, h2⟩ | ⟨_, h2, h3⟩
        · rw [h2] at h1
          have := h1.1
          rw [List.getElem?_eq_getElem h1.2] at this; cases this
        · have := getElem_inj hd h1.2 (h1.1.symm.trans h3)
          omega
      · exfalso
        obtain ⟨x, hx⟩ := ea.2.1 k
        have := (eb.1 k').1
        rw [hx] at this; exact inl_get hi this.symm
      · exfalso
        obtain ⟨x, hx⟩ := ea.2.1 k
        rcases eb.2.2 k' with ⟨_, h2⟩ | ⟨_, h2, h3⟩
        · rw [h2] at hx; cases hx
        · rw [hx] at h3; exact inl_get hi h3.symm
      · exfalso
        have h1 := eb.1 k'
        rcases ea.2.2 k with ⟨_, h2⟩ | ⟨_, h2, h3⟩
        · rw [h2] at h1
          have := h1.1
          rw [List.getElem?_eq_getElem h1.2] at this; cases this
        · have := getElem_inj hd h1.2 (h1.1.symm.trans h3)
          omega
      · exfalso
        obtain ⟨x, hx⟩ := eb.2.1 k'
        rcases ea.2.2 k with ⟨_, h2⟩ | ⟨_, h2, h3⟩
        · rw [h2] at hx; cases hx
        · rw [hx] at h3; exact inl_get hi h3.symm
    have key : p.n = q.n ∧ p.text = q.text ∧ (runS Sum.inr a (rs p l)).1 = (runS Sum.inr b (rs p l)).1 := by
      rw [runS_cons, runS_cons] at h
      simp only [fromS] at la lb
      rcases hp.2 with ⟨k, t⟩ | ⟨k, t⟩ | ⟨k, v, hl⟩
      · have kq : q.kind = 1 := by omega
        have tq : q.text = ⟨#[]⟩ := by rcases hq.2 with x | x | x <;> first | exact x.2 | omega
        rw [if_neg (by omega)] at la lb
        have e1 : ∀ l : List Gen, ot Sum.inr p l = l.take p.n.toNat := fun l => by unfold ot; rw [if_pos k]
        have e2 : ∀ l : List Gen, ot Sum.inr q l = l.take q.n.toNat := fun l => by unfold ot; rw [if_pos kq]
        have e3 : rs p l = l.drop p.n.toNat := by unfold rs; rw [if_pos k]
        have e4 : rs q l = l.drop q.n.toNat := by unfold rs; rw [if_pos kq]
        rw [e1, e2, e3, e4] at h
        have c := take_same h (by omega) (by omega)
          (no_next ha.tail na.2 k (by rw [List.length_drop]; omega) (fun x hx => hi x (List.mem_of_mem_drop hx)) (hd.sublist (List.drop_sublist _ _)))
          (no_next hb.tail nb.2 kq (by rw [List.length_drop]; omega) (fun x hx => hi x (List.mem_of_mem_drop hx)) (hd.sublist (List.drop_sublist _ _)))
        refine ⟨by omega, by rw [t, tq], ?_⟩
        rw [e3]
        have := c.2
        rw [← c.1] at this
        exact this
      · have kq : q.kind = 3 := by omega
        have tq : q.text = ⟨#[]⟩ := by rcases hq.2 with x | x | x <;> first | exact x.2 | omega
        rw [if_neg (by omega)] at la lb
        have e1 : ∀ l : List Gen, ot Sum.inr p l = [] := fun l => by unfold ot; rw [if_neg (by omega), if_pos k]
        have e2 : ∀ l : List Gen, ot Sum.inr q l = [] := fun l => by unfold ot; rw [if_neg (by omega), if_pos kq]
        have e3 : rs p l = l.drop p.n.toNat := by unfold rs; rw [if_neg (by omega), if_pos k]
        have e4 : rs q l = l.drop q.n.toNat := by unfold rs; rw [if_neg (by omega), if_pos kq]
        have hn : p.n = q.n := by
          rcases ea.2.2 k with ⟨a1, a2⟩ | ⟨a1, a2, a3⟩ <;> rcases eb.2.2 kq with ⟨b1, b2⟩ | ⟨b1, b2, b3⟩
          · subst a1 b1; simp only [fromS] at la lb; omega
          · rw [a2] at b3; simp only [List.head?_nil] at b3
            rw [List.getElem?_eq_getElem b2] at b3; cases b3
          · rw [b2] at a3; simp only [List.head?_nil] at a3
            rw [List.getElem?_eq_getElem a2] at a3; cases a3
          · have := getElem_inj hd a2 (a3.symm.trans b3)
            omega
        rw [e1, e2, e3, e4, ← hn] at h
        refine ⟨hn, by rw [t, tq], ?_⟩
        rw [e3]; exact h
      · have kq : q.kind = 2 := by omega
        have vq : valid q.text = true ∧ ((dec q.text).length : Int) = q.n := by rcases hq.2 with x | x | x <;> first | exact x.2 | omega
        rw [if_pos (by omega)] at la lb
        have e1 : ∀ l : List Gen, ot Sum.inr p l = (dec p.text).map Sum.inr := fun l => by unfold ot; rw [if_neg (by omega), if_neg (by omega)]
        have e2 : ∀ l : List Gen, ot Sum.inr q l = (dec q.text).map Sum.inr := fun l => by unfold ot; rw [if_neg (by omega), if_neg (by omega)]
        have e3 : rs p l = l := by unfold rs; rw [if_neg (by omega), if_neg (by omega)]
        have e4 : rs q l = l := by unfold rs; rw [if_neg (by omega), if_neg (by omega)]
        rw [e1, e2, e3, e4] at h
        obtain ⟨c1, c2⟩ := inr_prefix _ _ _ _ h (no_inr ha.tail na.2 k (by omega) hi hd) (no_inr hb.tail nb.2 kq (by omega) hi hd)
        refine ⟨by rw [c1] at hl; omega, dec_inj v vq.1 c1, ?_⟩
        rw [e3]; exact c2
    obtain ⟨k1, k2, k3⟩ := key
    have hpq : p = q := by cases p; cases q; simp only at hk k1 k2; subst hk k1 k2; rfl
    subst hpq
    congr 1
    have hlr := (ot_len Sum.inr hp (l := l) (by simp only [fromS] at la; split at la <;> rename_i hk2 <;> (first | rw [if_pos hk2] | rw [if_neg hk2]) <;> omega)).2
    refine same_form a b (rs p l) ha.tail hb.tail na.2.none nb.2.none ?_ ?_ ?_ ?_ k3
    · simp only [fromS] at la; omega
    · simp only [fromS] at lb; omega
    · intro x hx
      refine hi x ?_
      unfold rs at hx
      split at hx
      · exact List.mem_of_mem_drop hx
      · split at hx
        · exact List.mem_of_mem_drop hx
        · exact hx
    · unfold rs
      split
      · exact hd.sublist (List.drop_sublist _ _)
      · split
        · exact hd.sublist (List.drop_sublist _ _)
        · exact hd
end
end Go.SK

set_option linter.unusedVariables false
set_option linter.unusedSimpArgs false
set_option maxRecDepth 100000
namespace Go.SK
open Go
theorem fitsU_of {e : List Part} (h : Fits e) : FitsU e := fun p hp => fitU_of (h p hp)
theorem kindL_nil {e : List Part} (h : Fits e) (hk : kindL e = 0) : e = [] := by
  cases e with
  | nil => rfl
  | cons p r => have := (fitU_of (h p (.head _))).kinds; simp only [kindL] at hk; omega
theorem take_facts {x : Part} {xs : List Part} (h : Fits (x :: xs)) {n : Int} (h1 : 1 ≤ n) (h2 : n ≤ x.n) : FitU (takeP x n) ∧ Fits (restP x xs n) := ⟨fitU_of (take_fits (h x (.head _)) h1 h2), rest_fits h h1 h2⟩
/-- What a step over both takes. -/
theorem both_len (x y : Part) (xs ys : List Part) : (restP x xs (minI x.n y.n)).length + (restP y ys (minI x.n y.n)).length + 1 ≤ xs.length + 1 + (ys.length + 1) := by
  have m3 := (minI_le x.n y.n).2.2
  rw [rest_len, rest_len]
  rcases m3 with m3 | m3
  · rw [if_pos (show x.n - minI x.n y.n = 0 by omega)]; split <;> omega
  · rw [if_pos (show y.n - minI x.n y.n = 0 by omega)]; split <;> omega
section
variable {β : Type} (ι : Int → β)
theorem ot_keep {p : Part} (h : p.kind = 1) (l : List β) : ot ι p l = l.take p.n.toNat ∧ rs p l = l.drop p.n.toNat := by unfold ot rs; simp only [if_pos h, and_self]
theorem ot_drop {p : Part} (h : p.kind = 3) (l : List β) : ot ι p l = [] ∧ rs p l = l.drop p.n.toNat := by unfold ot rs; simp only [if_neg (show ¬ p.kind = 1 by omega), if_pos h, and_self]
theorem ot_put {p : Part} (h : p.kind = 2) (l : List β) : ot ι p l = (dec p.text).map ι ∧ rs p l = l := by unfold ot rs; simp only [if_neg (show ¬ p.kind = 1 by omega), if_neg (show ¬ p.kind = 3 by omega), and_self]
end
end Go.SK

set_option linter.unusedVariables false
set_option linter.unusedSimpArgs false
set_option maxRecDepth 100000
namespace Go.SK
open Go
section
variable {β : Type} (ι : Int → β)
theorem put_len {x : Part} (h : FitU x) (k : x.kind = 2) : ((dec x.text).map ι).length = x.n.toNat := by
  have : ((dec x.text).length : Int) = x.n := by rcases h.2 with y | y | y <;> first | omega | exact y.2.2
  rw [List.length_map]; omega
theorem keepP_fit {n : Int} (h : 1 ≤ n) : FitU (keepP n) := ⟨h, .inl ⟨rfl, rfl⟩⟩
theorem tr_run : ∀ (f : Nat) (xs ys : List Part) (l : List β), Fits xs → Fits ys → fromS xs = fromS ys → xs.length + ys.length ≤ f → (l.length : Int) = fromS xs →
    FitsU (trGo f xs ys).1 ∧ FitsU (trGo f xs ys).2 ∧ fromS (trGo f xs ys).1 = toS ys ∧ fromS (trGo f xs ys).2 = toS xs ∧ (runS ι (trGo f xs ys).1 (runS ι ys l).1).1 = (runS ι (trGo f xs ys).2 (runS ι xs l).1).1
  | 0, xs, ys, l, hx, hy, hb, hf, hl => by
    obtain rfl : xs = [] := List.length_eq_zero_iff.1 (by omega)
    obtain rfl : ys = [] := List.length_eq_zero_iff.1 (by omega)
    exact ⟨fun _ h => (by cases h), fun _ h => (by cases h), rfl, rfl, rfl⟩
  | f + 1, xs, ys, l, hx, hy, hb, hf, hl => by
    by_cases h0 : kindL xs = 0 ∧ kindL ys = 0
    · obtain rfl := kindL_nil hx h0.1
      obtain rfl := kindL_nil hy h0.2
      rw [trGo_stop h0]
      exact ⟨fun _ h => (by cases h), fun _ h => (by cases h), rfl, rfl, rfl⟩
    · by_cases h3 : kindL xs = 2
      · obtain ⟨x, xs', rfl, hk⟩ := kindL_cons h3 (by omega)
        rw [trGo_x h3]
        have hn := fitsB_n (hx x (.head _))
        have hfx := fitU_of (hx x (.head _))
        simp only [fromS, toS, List.length_cons, if_pos hk] at hb hf hl ⊢
        rw [if_neg (show ¬ x.kind = 3 by omega)]
        obtain ⟨i1, i2, i3, i4, i5⟩ := tr_run f xs' ys l hx.tail hy (by omega) (by omega) (by omega)
        have kk : (keepP x.n).kind = 1 := rfl
        have kn : (keepP x.n).n = x.n := rfl
        refine ⟨FitsU.cons hfx i1, FitsU.cons (keepP_fit hn.1) i2, by omega, by rw [kk, kn, if_neg (by omega)]; omega, ?_⟩
        rw [runS_cons, runS_cons, runS_cons, (ot_put ι hk _).1, (ot_put ι hk _).2, (ot_put ι hk _).1, (ot_put ι hk _).2]
        simp only
        rw [(ot_keep ι kk _).1, (ot_keep ι kk _).2, kn, List.take_left' (put_len ι hfx hk), List.drop_left' (put_len ι hfx hk), i5]
      · by_cases h2 : kindL ys = 2
        · obtain ⟨y, ys', rfl, hk⟩ := kindL_cons h2 (by omega)
          rw [trGo_y h3 h2]
          have hn := fitsB_n (hy y (.head _))
          have hfy := fitU_of (hy y (.head _))
          simp only [fromS, toS, List.length_cons, if_pos hk] at hb hf hl ⊢
          rw [if_neg (show ¬ y.kind = 3 by omega)]
          obtain ⟨i1, i2, i3, i4, i5⟩ := tr_run f xs ys' l hx hy.tail (by omega) (by omega) hl
          have kk : (keepP y.n).kind = 1 := rfl
          have kn : (keepP y.n).n = y.n := rfl
          refine ⟨FitsU.cons (keepP_fit hn.1) i1, FitsU.cons hfy i2, by rw [kk, kn, if_neg (by omega)]; omega, by omega, ?_⟩
          rw [runS_cons, runS_cons, runS_cons, (ot_put ι hk _).1, (ot_put ι hk _).2, (ot_put ι hk _).1, (ot_put ι hk _).2]
          simp only
          rw [(ot_keep ι kk _).1, (ot_keep ι kk _).2, kn, List.take_left' (put_len ι hfy hk), List.drop_left' (put_len ι hfy hk), i5]
        · have hxs : xs ≠ [] := by
            rintro rfl
            cases ys with
            | nil => exact h0 ⟨rfl, rfl⟩
            | cons y ys' =>
              have h1 := fitsB_n (hy y (.head _)); have h4 := fromS_posU (fitsU_of hy.tail)
              have hy' : ¬ y.kind = 2 := h2
              simp only [fromS, if_neg hy'] at hb; omega
          obtain ⟨x, xs', rfl⟩ := List.exists_cons_of_ne_nil hxs
          have hx' : ¬ x.kind = 2 := h3
          have hnx := fitsB_n (hx x (.head _)); have hnx2 := fromS_posU (fitsU_of hx.tail)
          have hys : ys ≠ [] := by
            rintro rfl
            simp only [fromS, if_neg hx'] at hb; omega
          obtain ⟨y, ys', rfl⟩ := List.exists_cons_of_ne_nil hys
          have hy' : ¬ y.kind = 2 := h2
          have hny := fitsB_n (hy y (.head _)); have hny2 := fromS_posU (fitsU_of hy.tail)
          obtain ⟨m1, m2, m3⟩ := minI_le x.n y.n
          have hll := both_len x y xs' ys'
          have rx := rest_from x xs' (minI x.n y.n); have ry := rest_from y ys' (minI x.n y.n)
          rw [trGo_b h0 h3 h2]
          obtain ⟨tx1, tx2⟩ := take_facts hx (n := minI x.n y.n) (by omega) m1
          obtain ⟨ty1, ty2⟩ := take_facts hy (n := minI x.n y.n) (by omega) m2
          generalize hN : minI x.n y.n = n at *
          have hn1 : 1 ≤ n := by omega
          have kx : (takeP x n).kind = x.kind := rfl
          have ky : (takeP y n).kind = y.kind := rfl
          have nx : (takeP x n).n = n := rfl
          have ny : (takeP y n).n = n := rfl
          rw [if_neg hx'] at rx
          rw [if_neg hy'] at ry
          simp only [List.length_cons] at hf
          have ky3 : y.kind = 1 ∨ y.kind = 3 := by have := (fitU_of (hy y (.head _))).kinds; omega
          have kx3 : x.kind = 1 ∨ x.kind = 3 := by have := (fitU_of (hx x (.head _))).kinds; omega
          have hfr := fromS_posU (fitsU_of tx2)
          have hln : n.toNat ≤ l.length := by omega
          obtain ⟨i1, i2, i3, i4, i5⟩ := tr_run f (restP x xs' n) (restP y ys' n) (l.drop n.toNat) tx2 ty2 (by omega) (by omega) (by rw [List.length_drop]; omega)
          rw [ot_cut ι (hx x (.head _)) hn1 m1, ot_cut ι (hy y (.head _)) hn1 m2]
          have hA : (l.take n.toNat).length = n.toNat := by rw [List.length_take]; omega
          have okx : ∀ (t : List β), x.kind = 1 → ot ι (takeP x n) t = t.take n.toNat ∧ rs (takeP x n) t = t.drop n.toNat := fun t h => ot_keep ι (p := takeP x n) (by rw [kx]; exact h) t
          have oky : ∀ (t : List β), y.kind = 1 → ot ι (takeP y n) t = t.take n.toNat ∧ rs (takeP y n) t = t.drop n.toNat := fun t h => ot_keep ι (p := takeP y n) (by rw [ky]; exact h) t
          have odx : ∀ (t : List β), x.kind = 3 → ot ι (takeP x n) t = [] ∧ rs (takeP x n) t = t.drop n.toNat := fun t h => ot_drop ι (p := takeP x n) (by rw [kx]; exact h) t
          have ody : ∀ (t : List β), y.kind = 3 → ot ι (takeP y n) t = [] ∧ rs (takeP y n) t = t.drop n.toNat := fun t h => ot_drop ι (p := takeP y n) (by rw [ky]; exact h) t
          rcases kx3 with kx1 | kx1 <;> rcases ky3 with ky1 | ky1
          · rw [if_pos kx1, if_pos ky1, (okx l kx1).1, (okx l kx1).2, (oky l ky1).1, (oky l ky1).2]
            refine ⟨FitsU.cons tx1 i1, FitsU.cons ty1 i2, ?_, ?_, ?_⟩
            · simp only [List.cons_append, List.nil_append, fromS, i3, kx, nx, if_neg hx']; omega
            · simp only [List.cons_append, List.nil_append, fromS, i4, ky, ny, if_neg hy']; omega
            · simp only [List.cons_append, List.nil_append]
              rw [runS_cons, runS_cons]
              simp only
              rw [(okx _ kx1).1, (okx _ kx1).2, (oky _ ky1).1, (oky _ ky1).2, List.take_left' hA, List.drop_left' hA, List.take_left' hA, List.drop_left' hA, i5]
          · rw [if_pos kx1, if_neg (show ¬ y.kind = 1 by omega), (okx l kx1).1, (okx l kx1).2, (ody l ky1).1, (ody l ky1).2]
            refine ⟨i1, FitsU.cons ty1 i2, ?_, ?_, ?_⟩
            · simp only [List.nil_append, i3]; omega
            · simp only [List.cons_append, List.nil_append, fromS, i4, ky, ny, if_neg hy']; omega
            · simp only [List.cons_append, List.nil_append]
              rw [runS_cons]
              simp only
              rw [(ody _ ky1).1, (ody _ ky1).2, List.drop_left' hA, i5, List.nil_append]
          · rw [if_neg (show ¬ x.kind = 1 by omega), if_pos ky1, (odx l kx1).1, (odx l kx1).2, (oky l ky1).1, (oky l ky1).2]
            refine ⟨FitsU.cons tx1 i1, i2, ?_, ?_, ?_⟩
            · simp only [List.cons_append, List.nil_append, fromS, i3, kx, nx, if_neg hx']; omega
            · simp only [List.nil_append, i4]; omega
            · simp only [List.cons_append, List.nil_append]
              rw [runS_cons]
              simp only
              rw [(odx _ kx1).1, (odx _ kx1).2, List.drop_left' hA, i5, List.nil_append]
          · rw [if_neg (show ¬ x.kind = 1 by omega), if_neg (show ¬ y.kind = 1 by omega), (odx l kx1).1, (odx l kx1).2, (ody l ky1).1, (ody l ky1).2]
            refine ⟨i1, i2, ?_, ?_, ?_⟩
            · simp only [List.nil_append, i3]; omega
            · simp only [List.nil_append, i4]; omega
            · simp only [List.nil_append]
              exact i5
end
/-! ### What composition makes -/
theorem len_list (n : Int) (h : 0 ≤ n) : ((List.replicate n.toNat (0 : Int)).length : Int) = n := by rw [List.length_replicate]; omega
/-! ### What transformation makes -/
theorem trBad_iff {a b : List Part} : ¬ trBad a b ↔ Ok a ∧ Ok b ∧ fromS a = fromS b := by
  unfold trBad
  constructor
  · intro h
    have ha : (sizesF a).2.2 = true := by cases hh : (sizesF a).2.2 <;> simp_all
    have hb : (sizesF b).2.2 = true := by cases hh : (sizesF b).2.2 <;> simp_all
    have oa := ok_iff.1 ha; have ob := ok_iff.1 hb
    refine ⟨oa, ob, ?_⟩
    rw [oa.sizes, ob.sizes] at h
    simp only [Bool.true_eq_false, false_or] at h
    omega
  · rintro ⟨oa, ob, e⟩ h
    rw [oa.sizes, ob.sizes] at h
    simp only [Bool.true_eq_false, false_or] at h
    omega
end Go.SK

set_option linter.unusedVariables false
set_option linter.unusedSimpArgs false
set_option maxRecDepth 100000
namespace Go.SK
open Go
theorem runS_scalar : ∀ (e : List Part) (l : List Int), FitsU e → (∀ x ∈ l, scalar x) → ∀ x ∈ (runS id e l).1, scalar x
  | [], l, _, _, x, hx => by simp [runS] at hx
  | p :: r, l, h, hl, x, hx => by
    rw [runS_cons] at hx
    simp only at hx
    have hrs : ∀ y ∈ rs p l, scalar y := by
      intro y hy
      unfold rs at hy
      split at hy
      · exact hl y (List.mem_of_mem_drop hy)
      · split at hy
        · exact hl y (List.mem_of_mem_drop hy)
        · exact hl y hy
    rcases List.mem_append.1 hx with hx | hx
    · unfold ot at hx
      split at hx
      · exact hl x (List.mem_of_mem_take hx)
      · split at hx
        · cases hx
        · rename_i k1 k3
          rw [List.map_id] at hx
          have hv : valid p.text = true := by rcases (h p (.head _)).2 with y | y | y <;> first | omega | exact y.2.1
          exact dec_scalar hv x hx
    · exact runS_scalar r (rs p l) h.tail hrs x hx
theorem inv_run : ∀ (e : List Part) (l : List Int), Fits e → fromS e = l.length → (∀ x ∈ l, scalar x) →
    FitsU (invGo e l) ∧ fromS (invGo e l) = toS e ∧ toS (invGo e l) = fromS e ∧ (runS id (invGo e l) (runS id e l).1).1 = l
  | [], l, _, hl, _ => by
    obtain rfl : l = [] := List.length_eq_zero_iff.1 (by simp only [fromS] at hl; omega)
    exact ⟨fun _ h => (by cases h), rfl, rfl, rfl⟩
  | p :: r, l, h, hl, hs => by
    have hn := fitsB_n (h p (.head _))
    have hp := fromS_posU (fitsU_of h.tail)
    have hf := fitU_of (h p (.head _))
    simp only [fromS] at hl
    rw [invGo, runS_cons]
    rcases hf.kinds with k | k | k
    · rw [if_neg (by omega)] at hl
      obtain ⟨i1, i2, i3, i4⟩ := inv_run r (l.drop p.n.toNat) h.tail (by rw [List.length_drop]; omega) (fun x hx => hs x (List.mem_of_mem_drop hx))
      have hA : (l.take p.n.toNat).length = p.n.toNat := by rw [List.length_take]; omega
      rw [if_pos k, runS_cons]
      refine ⟨FitsU.cons hf i1, ?_, ?_, ?_⟩
      · simp only [fromS, toS, i2]; split <;> split <;> omega
      · simp only [fromS, toS, i3]; split <;> split <;> omega
      · simp only
        rw [(ot_keep id k l).1, (ot_keep id k l).2, (ot_keep id k _).1, (ot_keep id k _).2, List.take_left' hA, List.drop_left' hA, i4, List.take_append_drop]
    · rw [if_pos k] at hl
      obtain ⟨i1, i2, i3, i4⟩ := inv_run r l h.tail (by omega) hs
      have kd : (dropP p.n).kind = 3 := rfl
      have nd : (dropP p.n).n = p.n := rfl
      rw [if_neg (by omega), if_neg (by omega), runS_cons]
      refine ⟨FitsU.cons ⟨hn.1, .inr (.inl ⟨rfl, rfl⟩)⟩ i1, ?_, ?_, ?_⟩
      · simp only [fromS, toS, i2, kd, nd]; rw [if_neg (by omega), if_neg (by omega)]
      · simp only [fromS, toS, i3, kd, nd]; rw [if_pos trivial, if_pos k]
      · simp only
        rw [(ot_put id k l).1, (ot_put id k l).2, (ot_drop id kd _).1, (ot_drop id kd _).2, nd, List.drop_left' (put_len id hf k), i4]
        rfl
    · rw [if_neg (by omega)] at hl
      obtain ⟨i1, i2, i3, i4⟩ := inv_run r (l.drop p.n.toNat) h.tail (by rw [List.length_drop]; omega) (fun x hx => hs x (List.mem_of_mem_drop hx))
      have hA : (l.take p.n.toNat).length = p.n.toNat := by rw [List.length_take]; omega
      have hsc : ∀ x ∈ l.take p.n.toNat, scalar x := fun x hx => hs x (List.mem_of_mem_take hx)
      obtain ⟨q1, q2⟩ := put_fits hsc (by omega) (by omega)
      have kp : (putP (enc (l.take p.n.toNat))).kind = 2 := rfl
      rw [if_neg (by omega), if_pos k, runS_cons]
      refine ⟨FitsU.cons (fitU_of q1) i1, ?_, ?_, ?_⟩
      · simp only [fromS, toS, i2, kp]; rw [if_pos trivial, if_pos k]
      · simp only [fromS, toS, i3, kp, q2]; rw [if_neg (by omega), if_neg (by omega)]; omega
      · simp only
        rw [(ot_drop id k l).1, (ot_drop id k l).2, (ot_put id kp _).1, (ot_put id kp _).2, List.nil_append, i4]
        have : dec (putP (enc (l.take p.n.toNat))).text = l.take p.n.toNat := dec_enc hsc
        rw [this, List.map_id, List.take_append_drop]
theorem applyBad_iff {e : List Part} {s : ByteArray} : ¬ applyBad e s ↔ valid s = true ∧ Ok e ∧ fromS e = (dec s).length := by
  unfold applyBad
  constructor
  · intro h
    have hv : valid s = true := by cases hh : valid s <;> simp_all
    have hc : checkF e (dec s).length = 0 := by
      by_cases hc : checkF e (dec s).length = 0
      · exact hc
      · exact absurd (Or.inr hc) h
    exact ⟨hv, checkF_iff.1 hc⟩
  · rintro ⟨hv, h⟩ (h1 | h1)
    · rw [hv] at h1; cases h1
    · exact h1 (checkF_iff.2 h)
/-- What an edit makes of a text. -/
theorem apply_law {e : List Part} {s : ByteArray} (hv : valid s = true) (h : Ok e) (hn : fromS e = (dec s).length) :
    applyE e s = 0 ∧ applyF e s = enc (runS id e (dec s)).1 ∧ valid (applyF e s) = true ∧ dec (applyF e s) = (runS id e (dec s)).1 ∧ ((dec (applyF e s)).length : Int) = toS e := by
  have hb := applyBad_iff.2 ⟨hv, h, hn⟩
  obtain ⟨a1, a2⟩ := apply_ok hb
  rw [apGo_run, List.nil_append] at a1
  have hsc := runS_scalar e (dec s) h.1 (dec_scalar hv)
  have hd : dec (applyF e s) = (runS id e (dec s)).1 := by rw [a1]; exact dec_enc hsc
  refine ⟨a2, a1, by rw [a1]; exact valid_enc hsc, hd, ?_⟩
  rw [hd]; exact (runS_len id e (dec s) h.1 (by omega)).1
theorem inv_law {e : List Part} {s : ByteArray} (hv : valid s = true) (h : Ok e) (hn : fromS e = (dec s).length) :
    invE e s = 0 ∧ Ok (invF e s) ∧ fromS (invF e s) = toS e ∧ toS (invF e s) = fromS e ∧ applyE (invF e s) (applyF e s) = 0 ∧ applyF (invF e s) (applyF e s) = s := by
  have hb := applyBad_iff.2 ⟨hv, h, hn⟩
  obtain ⟨i1, i2, i3, i4⟩ := inv_run e (dec s) h.fits hn (dec_scalar hv)
  obtain ⟨m1, m2, m3⟩ := addRs_mk (invGo e (dec s)) [] MK.nil i1
  have z0 : fromS ([] : List Part) = 0 := rfl
  have z1 : toS ([] : List Part) = 0 := rfl
  have hR : invR e s = addRs [] (invGo e (dec s)) := rfl
  have hok : Ok (invR e s).reverse := m1.ok (by have := h.2.2.2; omega) (by have := h.2.2.1; omega)
  obtain ⟨c1, c2⟩ := inv_ok hb (ok_iff.2 hok)
  have hrev := fromS_rev (invR e s)
  obtain ⟨a1, a2, a3, a4, a5⟩ := apply_law hv h hn
  have hf : fromS (invF e s) = toS e := by rw [c2, hrev.1, hR]; omega
  obtain ⟨b1, b2, b3, b4, b5⟩ := apply_law (e := invF e s) a3 (by rw [c2]; exact hok) (by rw [hf]; exact a5.symm)
  refine ⟨c1, by rw [c2]; exact hok, hf, by rw [c2, hrev.2, hR]; omega, b1, ?_⟩
  rw [b2, a4, c2, hR, maker_run id i1, i4]
  exact enc_dec hv
end Go.SK

set_option linter.unusedVariables false
set_option linter.unusedSimpArgs false
set_option maxRecDepth 100000
namespace Go.SK
open Go
def putsN : List Part → Int
  | [] => 0
  | p :: r => (if p.kind = 2 then p.n else 0) + putsN r
def dvP (p : Part) : List Bool := if p.kind = 1 then List.replicate p.n.toNat false else if p.kind = 3 then List.replicate p.n.toNat true else []
/-- Which places an edit drops. -/
def dv : List Part → List Bool
  | [] => []
  | p :: r => dvP p ++ dv r
theorem dv_len : ∀ {e : List Part}, FitsU e → ((dv e).length : Int) = fromS e
  | [], _ => rfl
  | p :: r, h => by
    have h1 := h p (.head _)
    have h0 := h1.1
    simp only [dv, List.length_append, fromS, dvP]
    have := dv_len h.tail
    rcases h1.kinds with k | k | k <;> simp [k] <;> omega
theorem dv_cut {x : Part} (hk : ¬ x.kind = 2) {n : Int} (h1 : 1 ≤ n) (h2 : n ≤ x.n) (xs : List Part) : dv (x :: xs) = dvP (takeP x n) ++ dv (restP x xs n) := by
  have kx : (takeP x n).kind = x.kind := rfl
  have nx : (takeP x n).n = n := rfl
  unfold restP
  split
  · have : x.n = n := by omega
    subst this
    simp only [dv, dvP, kx, nx]
  · have kl : (leftP x n).kind = x.kind := rfl
    have nl : (leftP x n).n = x.n - n := rfl
    have hN : x.n.toNat = n.toNat + (x.n - n).toNat := by omega
    simp only [dv, dvP, kx, nx, kl, nl]
    rw [← List.append_assoc]
    congr 1
    split
    · rw [hN, List.replicate_append_replicate]
    · split
      · rw [hN, List.replicate_append_replicate]
      · rfl
theorem putsN_cut {x : Part} (hk : ¬ x.kind = 2) (xs : List Part) (n : Int) : putsN (restP x xs n) = putsN (x :: xs) := by
  unfold restP
  split
  · simp only [putsN, if_neg hk]; omega
  · have kl : (leftP x n).kind = x.kind := rfl
    simp only [putsN, kl, if_neg hk]
theorem dvP_len {x : Part} {n : Int} (hk : ¬ x.kind = 2) (h3 : x.kind = 1 ∨ x.kind = 3) : (dvP (takeP x n)).length = n.toNat := by
  have kx : (takeP x n).kind = x.kind := rfl
  have nx : (takeP x n).n = n := rfl
  simp only [dvP, kx, nx]
  rcases h3 with k | k <;> simp [k]
abbrev fls : Int → Bool := fun _ => false
theorem tr_dv : ∀ (f : Nat) (xs ys : List Part), Fits xs → Fits ys → fromS xs = fromS ys → xs.length + ys.length ≤ f →
    putsN (trGo f xs ys).1 = putsN xs ∧ dv (trGo f xs ys).1 = (runS fls ys (dv xs)).1
  | 0, xs, ys, hx, hy, hb, hf => by
    obtain rfl : xs = [] := List.length_eq_zero_iff.1 (by omega)
    obtain rfl : ys = [] := List.length_eq_zero_iff.1 (by omega)
    exact ⟨rfl, rfl⟩
  | f + 1, xs, ys, hx, hy, hb, hf => by
    by_cases h0 : kindL xs = 0 ∧ kindL ys = 0
    · obtain rfl := kindL_nil hx h0.1
      obtain rfl := kindL_nil hy h0.2
      rw [trGo_stop h0]
      exact ⟨rfl, rfl⟩
    · by_cases h3 : kindL xs = 2
      · obtain ⟨x, xs', rfl, hk⟩ := kindL_cons h3 (by omega)
        rw [trGo_x h3]
        simp only [fromS, List.length_cons, if_pos hk] at hb hf
        obtain ⟨i1, i2⟩ := tr_dv f xs' ys hx.tail hy (by omega) (by omega)
        have hd : dvP x = [] := by unfold dvP; rw [if_neg (by omega), if_neg (by omega)]
        simp only [putsN, dv, i1, i2, hd, List.nil_append, and_self]
      · by_cases h2 : kindL ys = 2
        · obtain ⟨y, ys', rfl, hk⟩ := kindL_cons h2 (by omega)
          rw [trGo_y h3 h2]
          have hfy := fitU_of (hy y (.head _))
          simp only [fromS, List.length_cons, if_pos hk] at hb hf
          obtain ⟨i1, i2⟩ := tr_dv f xs ys' hx hy.tail (by omega) (by omega)
          have kk : (keepP y.n).kind = 1 := rfl
          have kn : (keepP y.n).n = y.n := rfl
          have hl := put_len fls hfy hk
          have hm : (dec y.text).map fls = List.replicate y.n.toNat false := by
            rw [List.eq_replicate_iff]
            exact ⟨hl, fun b hb => by obtain ⟨a, _, rfl⟩ := List.mem_map.1 hb; rfl⟩
          refine ⟨by simp only [putsN, i1, kk]; rw [if_neg (by omega)]; omega, ?_⟩
          rw [runS_cons, (ot_put fls hk _).1, (ot_put fls hk _).2, hm, ← i2]
          simp only [dv, dvP, kk, kn, if_true]
        · have hxs : xs ≠ [] := by
            rintro rfl
            cases ys with
            | nil => exact h0 ⟨rfl, rfl⟩
            | cons y ys' =>
              have h1 := fitsB_n (hy y (.head _)); have h4 := fromS_posU (fitsU_of hy.tail)
              have hy' : ¬ y.kind = 2 := h2
              simp only [fromS, if_neg hy'] at hb; omega
          obtain ⟨x, xs', rfl⟩ := List.exists_cons_of_ne_nil hxs
          have hx' : ¬ x.kind = 2 := h3
          have hnx := fitsB_n (hx x (.head _)); have hnx2 := fromS_posU (fitsU_of hx.tail)
          have hys : ys ≠ [] := by
            rintro rfl
            simp only [fromS, if_neg hx'] at hb; omega
          obtain ⟨y, ys', rfl⟩ := List.exists_cons_of_ne_nil hys
          have hy' : ¬ y.kind = 2 := h2
          have hny := fitsB_n (hy y (.head _)); have hny2 := fromS_posU (fitsU_of hy.tail)
          obtain ⟨m1, m2, m3⟩ := minI_le x.n y.n
          have hll := both_len x y xs' ys'
          have rx := rest_from x xs' (minI x.n y.n); have ry := rest_from y ys' (minI x.n y.n)
          rw [trGo_b h0 h3 h2]
          obtain ⟨tx1, tx2⟩ := take_facts hx (n := minI x.n y.n) (by omega) m1
          obtain ⟨ty1, ty2⟩ := take_facts hy (n := minI x.n y.n) (by omega) m2
          generalize hN : minI x.n y.n = n at *
          have hn1 : 1 ≤ n := by omega
          have kx : (takeP x n).kind = x.kind := rfl
          have ky : (takeP y n).kind = y.kind := rfl
          have nx : (takeP x n).n = n := rfl
          have ny : (takeP y n).n = n := rfl
          rw [if_neg hx'] at rx
          rw [if_neg hy'] at ry
          simp only [List.length_cons] at hf
          have ky3 : y.kind = 1 ∨ y.kind = 3 := by have := (fitU_of (hy y (.head _))).kinds; omega
          have kx3 : x.kind = 1 ∨ x.kind = 3 := by have := (fitU_of (hx x (.head _))).kinds; omega
          obtain ⟨i1, i2⟩ := tr_dv f (restP x xs' n) (restP y ys' n) tx2 ty2 (by omega) (by omega)
          have hA := dvP_len (x := x) (n := n) hx' kx3
          rw [ot_cut fls (hy y (.head _)) hn1 m2, dv_cut hx' hn1 m1]
          have pc := putsN_cut hx' xs' n
          rcases ky3 with ky1 | ky1
          · have hk : (takeP y n).kind = 1 := by rw [ky]; exact ky1
            rw [if_pos ky1]
            simp only [List.cons_append, List.nil_append]
            rw [(ot_keep fls hk _).1, (ot_keep fls hk _).2, ny, List.take_left' hA, List.drop_left' hA, ← i2]
            exact ⟨by rw [putsN, kx, if_neg hx', i1, pc]; omega, rfl⟩
          · have hk : (takeP y n).kind = 3 := by rw [ky]; exact ky1
            rw [if_neg (show ¬ y.kind = 1 by omega)]
            simp only [List.nil_append]
            rw [(ot_drop fls hk _).1, (ot_drop fls hk _).2, ny, List.drop_left' hA, ← i2]
            exact ⟨by rw [i1, pc], rfl⟩
end Go.SK

set_option linter.unusedVariables false
set_option linter.unusedSimpArgs false
set_option maxRecDepth 100000
namespace Go.SK
open Go
theorem dv_append : ∀ (a b : List Part), dv (a ++ b) = dv a ++ dv b
  | [], b => rfl
  | p :: a, b => by rw [List.cons_append, dv, dv, dv_append a b, List.append_assoc]
theorem putsN_append : ∀ (a b : List Part), putsN (a ++ b) = putsN a + putsN b
  | [], b => by simp [putsN]
  | p :: a, b => by rw [List.cons_append, putsN, putsN, putsN_append a b]; omega
theorem dv_more {q p : Part} (hq : FitU q) (hp : FitU p) (h : q.kind = p.kind) (r : List Part) : dv (q.more p :: r) = dv (q :: p :: r) ∧ putsN (q.more p :: r) = putsN (q :: p :: r) := by
  have h1 := hq.1; have h2 := hp.1
  have hn : (q.more p).n = q.n + p.n := rfl
  have hN : (q.n + p.n).toNat = q.n.toNat + p.n.toNat := by omega
  have hk : (q.more p).kind = q.kind := rfl
  simp only [dv, dvP, putsN, hk, hn, ← h]
  constructor
  · rw [← List.append_assoc]
    congr 1
    split
    · rw [hN, List.replicate_append_replicate]
    · split
      · rw [hN, List.replicate_append_replicate]
      · rfl
  · split <;> omega
theorem addR_dv : ∀ (r : List Part) (p : Part), FitsU r → FitU p → ∀ (t : List Part), dv ((addR r p).reverse ++ t) = dv (r.reverse ++ p :: t) ∧ putsN ((addR r p).reverse ++ t) = putsN (r.reverse ++ p :: t)
  | [], p, _, hp, t => by rw [addR_nil (by have := hp.1; omega)]; exact ⟨rfl, rfl⟩
  | q :: r, p, h, hp, t => by
    have hn : ¬ p.n = 0 := by have := hp.1; omega
    have hq := h q (.head _)
    by_cases h1 : q.kind = p.kind
    · rw [addR_more hn h1]
      simp only [List.reverse_cons, List.append_assoc, List.cons_append, List.nil_append]
      rw [dv_append, putsN_append, dv_append, putsN_append, (dv_more hq hp h1 t).1, (dv_more hq hp h1 t).2]
      exact ⟨rfl, rfl⟩
    · by_cases h2 : p.kind ≠ 2 ∨ q.kind ≠ 3
      · rw [addR_push hn h1 h2]
        simp only [List.reverse_cons, List.append_assoc, List.cons_append, List.nil_append]
        exact ⟨trivial, trivial⟩
      · rw [addR_deep hn h1 h2]
        simp only [List.reverse_cons, List.append_assoc, List.cons_append, List.nil_append]
        have ih := addR_dv r p h.tail hp (q :: t)
        rw [ih.1, ih.2, dv_append, dv_append, putsN_append, putsN_append]
        have e : dvP p = [] := by unfold dvP; rw [if_neg (by omega), if_neg (by omega)]
        simp only [dv, putsN, e, List.nil_append, true_and]
        omega
theorem addRs_dv : ∀ (ps r : List Part), MK r → FitsU ps → ∀ (t : List Part), dv ((addRs r ps).reverse ++ t) = dv (r.reverse ++ (ps ++ t)) ∧ putsN ((addRs r ps).reverse ++ t) = putsN (r.reverse ++ (ps ++ t))
  | [], r, _, _, t => ⟨rfl, rfl⟩
  | p :: ps, r, h, hp, t => by
    rw [addRs_cons, (addRs_dv ps (addR r p) (h.add (hp p (.head _))) hp.tail t).1, (addRs_dv ps (addR r p) (h.add (hp p (.head _))) hp.tail t).2, (addR_dv r p h.fit (hp p (.head _)) _).1, (addR_dv r p h.fit (hp p (.head _)) _).2]
    exact ⟨rfl, rfl⟩
theorem maker_dv {ps : List Part} (hp : FitsU ps) : dv (addRs [] ps).reverse = dv ps ∧ putsN (addRs [] ps).reverse = putsN ps := by
  have := addRs_dv ps [] MK.nil hp []
  simpa using this
theorem toS_puts : ∀ {e : List Part}, FitsU e → toS e ≤ fromS e + putsN e ∧ 0 ≤ putsN e
  | [], _ => by simp [toS, fromS, putsN]
  | p :: r, h => by
    have h1 := (h p (.head _)).1
    have := toS_puts h.tail
    simp only [toS, fromS, putsN]
    constructor
    · split <;> split <;> omega
    · split <;> omega
/-- What transformation makes of two edits of one text. -/
theorem tr_law {a b : List Part} (oa : Ok a) (ob : Ok b) (e : fromS a = fromS b) :
    MK (trR1 a b) ∧ MK (trR2 a b) ∧ fromS (trR1 a b).reverse = toS b ∧ fromS (trR2 a b).reverse = toS a ∧ toS (trR1 a b).reverse = toS (trR2 a b).reverse ∧
    putsN (trR1 a b).reverse = putsN a ∧ dv (trR1 a b).reverse = (runS fls b (dv a)).1 ∧
    ∀ {β : Type} (ι : Int → β) (l : List β), (l.length : Int) = fromS a → (runS ι (trR1 a b).reverse (runS ι b l).1).1 = (runS ι (trR2 a b).reverse (runS ι a l).1).1 := by
  have pa := fromS_posU oa.1
  have hl := len_list (fromS a) pa.1
  have key := fun {β : Type} (ι : Int → β) (l : List β) (hl : (l.length : Int) = fromS a) => tr_run ι (a.length + b.length) a b l oa.fits ob.fits e (Nat.le_refl _) hl
  obtain ⟨h1, h2, h3, h4, _⟩ := key (id : Int → Int) (List.replicate (fromS a).toNat 0) hl
  obtain ⟨d1, d2⟩ := tr_dv (a.length + b.length) a b oa.fits ob.fits e (Nat.le_refl _)
  obtain ⟨m1, m2, m3⟩ := addRs_mk (trGo (a.length + b.length) a b).1 [] MK.nil h1
  obtain ⟨n1, n2, n3⟩ := addRs_mk (trGo (a.length + b.length) a b).2 [] MK.nil h2
  have z0 : fromS ([] : List Part) = 0 := rfl
  have z1 : toS ([] : List Part) = 0 := rfl
  have r1 := fromS_rev (trR1 a b); have r2 := fromS_rev (trR2 a b)
  have R1 : trR1 a b = addRs [] (trGo (a.length + b.length) a b).1 := rfl
  have R2 : trR2 a b = addRs [] (trGo (a.length + b.length) a b).2 := rfl
  have f1 : fromS (trR1 a b).reverse = toS b := by rw [r1.1, R1]; omega
  have f2 : fromS (trR2 a b).reverse = toS a := by rw [r2.1, R2]; omega
  have run : ∀ {β : Type} (ι : Int → β) (l : List β), (l.length : Int) = fromS a → (runS ι (trR1 a b).reverse (runS ι b l).1).1 = (runS ι (trR2 a b).reverse (runS ι a l).1).1 := fun ι l hl => by
    rw [R1, R2, maker_run ι h1, maker_run ι h2]; exact (key ι l hl).2.2.2.2
  have g1 : FitsU (trR1 a b).reverse := fun p hp => m1.fit p (List.mem_reverse.1 hp)
  have g2 : FitsU (trR2 a b).reverse := fun p hp => n1.fit p (List.mem_reverse.1 hp)
  refine ⟨m1, n1, f1, f2, ?_, by rw [R1, (maker_dv h1).2, d1], by rw [R1, (maker_dv h1).1, d2], run⟩
  have l1 := (runS_len id b (List.replicate (fromS a).toNat 0) ob.1 (by omega)).1
  have l2 := (runS_len id a (List.replicate (fromS a).toNat 0) oa.1 (by omega)).1
  have l3 := (runS_len id _ (runS id b (List.replicate (fromS a).toNat 0)).1 g1 (by omega)).1
  have l4 := (runS_len id _ (runS id a (List.replicate (fromS a).toNat 0)).1 g2 (by omega)).1
  rw [run id _ hl] at l3
  omega
theorem tr_law_ok {a b : List Part} (oa : Ok a) (ob : Ok b) (e : fromS a = fromS b) (h : toS (trR1 a b).reverse ≤ 1099511627776) :
    trE a b = 0 ∧ trF1 a b = (trR1 a b).reverse ∧ trF2 a b = (trR2 a b).reverse ∧ Ok (trF1 a b) ∧ Ok (trF2 a b) := by
  obtain ⟨m1, m2, f1, f2, t, _⟩ := tr_law oa ob e
  have r1 := fromS_rev (trR1 a b); have r2 := fromS_rev (trR2 a b)
  have o1 : Ok (trR1 a b).reverse := m1.ok (by have := ob.2.2.2; omega) (by omega)
  have o2 : Ok (trR2 a b).reverse := m2.ok (by have := oa.2.2.2; omega) (by omega)
  have nl : ¬ trLong a b := by
    unfold trLong
    rw [ok_iff.2 o1, ok_iff.2 o2]; simp
  obtain ⟨c1, c2, c3⟩ := tr_ok (trBad_iff.2 ⟨oa, ob, e⟩) nl
  exact ⟨c1, c2, c3, by rw [c2]; exact o1, by rw [c3]; exact o2⟩
end Go.SK

set_option linter.unusedVariables false
set_option linter.unusedSimpArgs false
set_option maxRecDepth 100000
namespace Go.SK
open Go
def genL (n : Nat) : List Gen := (List.range n).map Sum.inl
theorem genL_len (n : Nat) : (genL n).length = n := by simp [genL]
theorem genL_inl (n : Nat) : inlS (genL n) := fun x hx => by
  obtain ⟨i, _, rfl⟩ := List.mem_map.1 hx
  exact ⟨i, rfl⟩
theorem genL_nodup (n : Nat) : (genL n).Nodup := by
  unfold genL
  rw [List.nodup_iff_pairwise_ne, List.pairwise_map]
  exact (List.nodup_iff_pairwise_ne.1 List.nodup_range).imp fun h e => h (by injection e)
theorem form_unique {a b : List Part} (oa : Ok a) (ob : Ok b) (e : fromS a = fromS b)
    (h : ∀ l : List Gen, (l.length : Int) = fromS a → (runS Sum.inr a l).1 = (runS Sum.inr b l).1) : a = b := by
  have pa := fromS_posU oa.1
  have hl : ((genL (fromS a).toNat).length : Int) = fromS a := by rw [genL_len]; omega
  exact same_form a b (genL (fromS a).toNat) oa.1 ob.1 oa.2.1 ob.2.1 hl (by omega) (genL_inl _) (genL_nodup _) (h _ hl)
end Go.SK

set_option linter.unusedVariables false
set_option linter.unusedSimpArgs false
set_option maxRecDepth 100000
namespace Go.SK
open Go
section
variable {p : Part} {r : List Part} {i to : Int} {ah : Bool}
end
end Go.SK

set_option linter.unusedVariables false
set_option linter.unusedSimpArgs false
set_option maxRecDepth 100000
namespace Go.SK
open Go
theorem fits_nil : Fits [] := fun p hp => by cases hp
theorem invE_z {e : List Part} {s : ByteArray} (h : invE e s = 0) : ¬ applyBad e s ∧ (sizesF (invR e s).reverse).2.2 = true ∧ invF e s = (invR e s).reverse := by
  unfold invE at h
  split at h
  · cases h
  · split at h
    · rename_i h1 h2; exact ⟨h1, h2, (inv_ok h1 h2).2⟩
    · cases h
theorem addRs_len : ∀ (ps r : List Part), (addRs r ps).length ≤ r.length + ps.length
  | [], r => by simp [addRs]
  | p :: ps, r => by
    rw [addRs_cons]
    have h1 := addRs_len ps (addR r p)
    have h2 : ∀ (r : List Part), (addR r p).length ≤ r.length + 1 := by
      intro r
      by_cases hn : p.n = 0
      · rw [addR_zero hn]; omega
      · induction r with
        | nil => rw [addR_nil hn]; simp
        | cons q r ih =>
          by_cases c1 : q.kind = p.kind
          · rw [addR_more hn c1]; simp
          · by_cases c2 : p.kind ≠ 2 ∨ q.kind ≠ 3
            · rw [addR_push hn c1 c2]; simp
            · rw [addR_deep hn c1 c2]; simp only [List.length_cons]; omega
    have := h2 r
    simp only [List.length_cons]; omega
end Go.SK

set_option linter.unusedVariables false
set_option linter.unusedSimpArgs false
set_option maxRecDepth 100000
namespace Go.SK
open Go
/-! ### Edits that keep all -/
def allKeep (e : List Part) : Prop := ∀ p ∈ e, p.kind = 1
theorem allKeep.tail {p : Part} {r : List Part} (h : allKeep (p :: r)) : allKeep r := fun q hq => h q (.tail _ hq)
theorem allKeep.cons {p : Part} {r : List Part} (h : p.kind = 1) (h' : allKeep r) : allKeep (p :: r) := fun q hq => (List.mem_cons.1 hq).elim (fun x => x ▸ h) (h' q)
theorem allKeep.nil : allKeep [] := fun p hp => by cases hp
theorem allKeep.append {a b : List Part} (h : allKeep a) (h' : allKeep b) : allKeep (a ++ b) := fun q hq => (List.mem_append.1 hq).elim (h q) (h' q)
theorem allKeep.rest {y : Part} {ys : List Part} (h : allKeep (y :: ys)) (n : Int) : allKeep (restP y ys n) := by
  unfold restP
  split
  · exact h.tail
  · exact allKeep.cons (h y (.head _)) h.tail
section
variable {β : Type} (ι : Int → β)
end
/-! ### The one form -/
/-! ### What an edit weighs -/
def dropN : List Part → Int
  | [] => 0
  | p :: r => (if p.kind = 3 then p.n else 0) + dropN r
/-! ### Cursors -/
def noDrop (e : List Part) : Prop := ∀ p ∈ e, p.kind ≠ 3
theorem noDrop.tail {p : Part} {r : List Part} (h : noDrop (p :: r)) : noDrop r := fun q hq => h q (.tail _ hq)
theorem noDrop.cons {p : Part} {r : List Part} (h : p.kind ≠ 3) (h' : noDrop r) : noDrop (p :: r) := fun q hq => (List.mem_cons.1 hq).elim (fun x => x ▸ h) (h' q)
theorem noDrop.rest {y : Part} {ys : List Part} (h : noDrop (y :: ys)) (n : Int) : noDrop (restP y ys n) := by
  unfold restP
  split
  · exact h.tail
  · exact noDrop.cons (h y (.head _)) h.tail
end Go.SK

set_option linter.unusedVariables false
set_option linter.unusedSimpArgs false
set_option maxRecDepth 100000
namespace Go.SK
open Go
theorem sizeE_ok {e : List Part} (h : sizeE e = 0) : Ok e ∧ (sizeF e).1 = fromS e ∧ (sizeF e).2 = toS e := by
  have h1 : (sizesF e).2.2 = true := by unfold sizeE at h; by_cases c : (sizesF e).2.2 = true; exact c; rw [if_neg c] at h; omega
  have o := ok_iff.1 h1
  unfold sizeF
  rw [if_pos h1, o.sizes]; exact ⟨o, rfl, rfl⟩
theorem ok_size {e : List Part} (o : Ok e) : sizeE e = 0 ∧ (sizeF e).1 = fromS e ∧ (sizeF e).2 = toS e := by
  have h1 := ok_iff.2 o
  unfold sizeE sizeF
  rw [if_pos h1, if_pos h1, o.sizes]; exact ⟨rfl, rfl, rfl⟩
theorem applyE_z {e : List Part} {s : ByteArray} (h : applyE e s = 0) : valid s = true ∧ Ok e ∧ fromS e = (dec s).length := by
  refine applyBad_iff.1 fun hb => ?_
  rw [(apply_bad hb).2] at h; omega
theorem repl_len (n a k : Int) (s : ByteArray) : (replF n a k s).length ≤ 4 := by
  unfold replF
  split
  · simp
  · rw [List.length_reverse]; exact addRs_len _ []
theorem dropN_le : ∀ {e : List Part}, FitsU e → dropN e ≤ fromS e
  | [], _ => by simp [dropN, fromS]
  | p :: r, h => by have h1 := (h p (.head _)).1; have := dropN_le h.tail; simp only [dropN, fromS]; split <;> split <;> omega
/-! ### Two edits of one text -/
/-- What the dropped and kept ones are. -/
theorem toS_eq : ∀ {e : List Part}, FitsU e → toS e = fromS e - dropN e + putsN e
  | [], _ => rfl
  | p :: r, h => by
    have := toS_eq h.tail
    simp only [toS, fromS, dropN, putsN]
    rcases (h p (.head _)).kinds with k | k | k
    · rw [if_neg (by omega), if_neg (by omega), if_neg (by omega), if_neg (by omega)]; omega
    · rw [if_neg (by omega), if_pos k, if_neg (by omega), if_pos k]; omega
    · rw [if_pos k, if_neg (by omega), if_pos k, if_neg (by omega)]; omega
end Go.SK
