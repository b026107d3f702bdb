/- Plain words: what an edit does to a list of anything; its one form is known by that. Plain words: what composition, transformation and inverse do. Plain words: what transformation and the inverse do; what composition makes is an edit. Plain words: what an edit makes of a text, and its inverse. Plain words: how much is put and dropped behind another edit. Plain words: what transformation makes. Plain words: edits that do the same are the same. Plain words: cursors keep their order. Plain words: what is answered is an edit or nothing, and of few parts. Plain words: edits that keep all, an edit's one form, what it weighs, and cursors through two that drop nothing. Plain words: what the laws of several edits ask, as the program's answers tell it. -/
import Derived.Test.YtcfdglknagbbgaaDoorMC
set_option linter.unusedVariables false
set_option linter.unusedSimpArgs false
set_option maxRecDepth 100000
namespace Go.SK
open Go
section
variable {β : Type} (ι : Int → β)
def ot (p : Part) (l : List β) : List β := if p.kind = 1 then l.take p.n.toNat else if p.kind = 3 then [] else (dec p.text).map ι
def rs (p : Part) (l : List β) : List β := if p.kind = 1 then l.drop p.n.toNat else if p.kind = 3 then l.drop p.n.toNat else l
/-- What an edit makes of a list, and what it leaves of it. -/
def runS : List Part → List β → List β × List β
  | [], l => ([], l)
  | p :: r, l => (ot ι p l ++ (runS r (rs p l)).1, (runS r (rs p l)).2)
theorem runS_cons (p : Part) (r : List Part) (l : List β) : runS ι (p :: r) l = (ot ι p l ++ (runS ι r (rs p l)).1, (runS ι r (rs p l)).2) := rfl
theorem runS_append : ∀ (a b : List Part) (l : List β), runS ι (a ++ b) l = ((runS ι a l).1 ++ (runS ι b (runS ι a l).2).1, (runS ι b (runS ι a l).2).2)
  | [], b, l => by simp [runS]
  | p :: a, b, l => by
    rw [List.cons_append, runS_cons, runS_cons, runS_append a b]
    simp
theorem apGo_run : ∀ (e : List Part) (l out : List Int), apGo e l out = out ++ (runS id e l).1
  | [], l, out => by simp [apGo, runS]
  | p :: r, l, out => by
    rw [apGo, runS_cons]
    unfold ot rs
    split
    · rw [apGo_run r]; simp
    · split
      · rw [apGo_run r]; simp
      · rw [apGo_run r]; simp
/-- Two parts of one kind are one. -/
theorem runS_more {q p : Part} (hq : FitU q) (hp : FitU p) (h : q.kind = p.kind) (r : List Part) (l : List β) : runS ι (q.more p :: r) l = runS ι (q :: p :: r) l := by
  have h1 := hq.1; have h2 := hp.1
  rw [runS_cons, runS_cons, runS_cons]
  have hn : (q.more p).n.toNat = q.n.toNat + p.n.toNat := by simp only [Part.more]; omega
  have hk : (q.more p).kind = q.kind := rfl
  unfold ot rs
  rw [hk, hn, ← h]
  rcases hq.kinds with k | k | k
  · simp only [if_pos k]
    rw [List.take_add, List.drop_drop]
    simp
  · have k1 : ¬ q.kind = 1 := by omega
    have k3 : ¬ q.kind = 3 := by omega
    simp only [if_neg k1, if_neg k3]
    have v1 : valid q.text = true := by rcases hq.2 with x | x | x <;> first | omega | exact x.2.1
    have v2 : valid p.text = true := by rcases hp.2 with x | x | x <;> first | omega | exact x.2.1
    simp only [Part.more, dec_append v1 v2, List.map_append, List.append_assoc]
  · have k1 : ¬ q.kind = 1 := by omega
    simp only [if_neg k1, if_pos k]
    rw [List.drop_drop]
    simp
theorem runS_swap {q p : Part} (hq : q.kind = 3) (hp : p.kind = 2) (r : List Part) (l : List β) : runS ι (q :: p :: r) l = runS ι (p :: q :: r) l := by
  rw [runS_cons, runS_cons, runS_cons, runS_cons]
  have e1 : ∀ l : List β, rs q l = l.drop q.n.toNat := fun l => by unfold rs; rw [if_neg (by omega), if_pos hq]
  have e2 : ∀ l : List β, rs p l = l := fun l => by unfold rs; rw [if_neg (by omega), if_neg (by omega)]
  have e3 : ∀ l : List β, ot ι q l = [] := fun l => by unfold ot; rw [if_neg (by omega), if_pos hq]
  have e4 : ∀ l l' : List β, ot ι p l = ot ι p l' := fun l l' => by unfold ot; simp only [if_neg (show ¬ p.kind = 1 by omega), if_neg (show ¬ p.kind = 3 by omega)]
  simp only [e1, e2, e3, List.nil_append]
  rw [e4 (l.drop q.n.toNat) l]
/-- A maker does what its parts do, one behind the other. -/
theorem addR_run : ∀ (r : List Part) (p : Part), FitsU r → FitU p → ∀ (t : List Part) (l : List β), runS ι ((addR r p).reverse ++ t) l = runS ι (r.reverse ++ p :: t) l
  | [], p, _, hp, t, l => by rw [addR_nil (by have := hp.1; omega)]; rfl
  | q :: r, p, h, hp, t, l => by
    have hn : ¬ p.n = 0 := by have := hp.1; omega
    have hq := h q (.head _)
    by_cases h1 : q.kind = p.kind
    · rw [addR_more hn h1]
      simp only [List.reverse_cons, List.append_assoc, List.cons_append, List.nil_append]
      rw [runS_append, runS_append, runS_more ι hq hp h1]
    · by_cases h2 : p.kind ≠ 2 ∨ q.kind ≠ 3
      · rw [addR_push hn h1 h2]
        simp only [List.reverse_cons, List.append_assoc, List.cons_append, List.nil_append]
      · rw [addR_deep hn h1 h2]
        simp only [List.reverse_cons, List.append_assoc, List.cons_append, List.nil_append]
        rw [addR_run r p h.tail hp (q :: t) l, runS_append, runS_append, runS_swap ι (q := q) (p := p) (by omega) (by omega)]
theorem addRs_run : ∀ (ps r : List Part), MK r → FitsU ps → ∀ (t : List Part) (l : List β), runS ι ((addRs r ps).reverse ++ t) l = runS ι (r.reverse ++ (ps ++ t)) l
  | [], r, _, _, t, l => rfl
  | p :: ps, r, h, hp, t, l => by
    rw [addRs_cons, addRs_run ps (addR r p) (h.add (hp p (.head _))) hp.tail t l, addR_run ι r p h.fit (hp p (.head _))]
    rfl
theorem maker_run {ps : List Part} (hp : FitsU ps) (l : List β) : runS ι (addRs [] ps).reverse l = runS ι ps l := by
  have := addRs_run ι ps [] MK.nil hp [] l
  simpa using this
/-! ### How long -/
theorem ot_len {p : Part} (hp : FitU p) {l : List β} (h : (if p.kind = 2 then 0 else p.n) ≤ (l.length : Int)) : ((ot ι p l).length : Int) = (if p.kind = 3 then 0 else p.n) ∧ ((rs p l).length : Int) = l.length - (if p.kind = 2 then 0 else p.n) := by
  have h1 := hp.1
  unfold ot rs
  rcases hp.2 with ⟨k, _⟩ | ⟨k, _⟩ | ⟨k, _, hl⟩
  · simp only [if_pos k, if_neg (show ¬ p.kind = 2 by omega), if_neg (show ¬ p.kind = 3 by omega)] at h ⊢
    rw [List.length_take, List.length_drop]; omega
  · simp only [if_pos k, if_neg (show ¬ p.kind = 2 by omega), if_neg (show ¬ p.kind = 1 by omega)] at h ⊢
    rw [List.length_drop]; simp; omega
  · simp only [if_pos k, if_neg (show ¬ p.kind = 3 by omega), if_neg (show ¬ p.kind = 1 by omega)] at h ⊢
    rw [List.length_map]; omega
theorem runS_len : ∀ (e : List Part) (l : List β), FitsU e → fromS e ≤ l.length → ((runS ι e l).1.length : Int) = toS e ∧ ((runS ι e l).2.length : Int) = l.length - fromS e
  | [], l, _, _ => by simp [runS, toS, fromS]
  | p :: r, l, h, hl => by
    have hr := fromS_posU h.tail
    simp only [fromS] at hl
    have hp0 := (h p (.head _)).1
    have h1 := ot_len ι (h p (.head _)) (l := l) (by omega)
    have h2 := runS_len r (rs p l) h.tail (by rw [h1.2]; omega)
    rw [runS_cons]
    simp only [toS, fromS, List.length_append]
    omega
/-! ### A part, cut in two -/
theorem ot_cut {p : Part} (hp : fitsB p = true) {n : Int} (h1 : 1 ≤ n) (h2 : n ≤ p.n) (r : List Part) (l : List β) : runS ι (p :: r) l = (ot ι (takeP p n) l ++ (runS ι (restP p r n) (rs (takeP p n) l)).1, (runS ι (restP p r n) (rs (takeP p n) l)).2) := by
  unfold restP
  split
  · have : p.n = n := by omega
    subst this
    rw [take_all hp, runS_cons]
  · rename_i h0
    have hf := fitsB_cases hp
    rw [runS_cons, runS_cons]
    have kt : (takeP p n).kind = p.kind := rfl
    have kl : (leftP p n).kind = p.kind := rfl
    have nt : (takeP p n).n = n := rfl
    have nl : (leftP p n).n = p.n - n := rfl
    have hN : p.n.toNat = n.toNat + (p.n - n).toNat := by omega
    unfold ot rs
    rw [kt, kl, nt, nl]
    rcases hf.2.2 with ⟨k, _⟩ | ⟨k, _⟩ | ⟨k, hv, hl⟩
    · simp only [if_pos k]
      rw [hN, List.take_add, List.drop_drop]
      simp
    · have k1 : ¬ p.kind = 1 := by omega
      simp only [if_neg k1, if_pos k]
      rw [hN, List.drop_drop]
      simp
    · have k1 : ¬ p.kind = 1 := by omega
      have k3 : ¬ p.kind = 3 := by omega
      simp only [if_neg k1, if_neg k3]
      have e1 : dec (takeP p n).text = (dec p.text).take n.toNat := by simp only [takeP, if_pos k]; exact dec_enc fun r hr => dec_scalar hv r (List.mem_of_mem_take hr)
      have e2 : dec (leftP p n).text = (dec p.text).drop n.toNat := by simp only [leftP, if_pos k]; exact dec_enc fun r hr => dec_scalar hv r (List.mem_of_mem_drop hr)
      rw [e1, e2, ← List.append_assoc, ← List.map_append, List.take_append_drop]
end
/-! ### The one form is known by what it does -/
section
abbrev Gen := Nat ⊕ Int
def inlS (l : List Gen) : Prop := ∀ x ∈ l, ∃ i, x = .inl i
theorem heads {p : Part} {r : List Part} (hf : FitsU (p :: r)) (hna : NA none (p :: r)) {l : List Gen} (hl : (l.length : Int) = fromS (p :: r)) (hi : inlS l) (hd : l.Nodup) :
    (p.kind = 1 → (runS Sum.inr (p :: r) l).1.head? = l[0]? ∧ 0 < l.length) ∧ (p.kind = 2 → ∃ x, (runS Sum.inr (p :: r) l).1.head? = some (.inr x)) ∧
    (p.kind = 3 → (r = [] ∧ (runS Sum.inr (p :: r) l).1 = []) ∨ (r ≠ [] ∧ p.n.toNat < l.length ∧ (runS Sum.inr (p :: r) l).1.head? = l[p.n.toNat]?)) := by
  have hp := hf p (.head _)
  have h1 := hp.1
  have hr := fromS_posU hf.tail
  simp only [fromS] at hl
  rw [runS_cons]
  refine ⟨fun k => ?_, fun k => ?_, fun k => ?_⟩
  · rw [if_neg (by omega)] at hl
    have hpos : 0 < l.length := by omega
    obtain ⟨x, t, rfl⟩ := List.exists_cons_of_ne_nil (List.length_pos_iff.1 hpos)
    unfold ot
    rw [if_pos k]
    obtain ⟨m, hm⟩ : ∃ m, p.n.toNat = m + 1 := ⟨p.n.toNat - 1, by omega⟩
    rw [hm]
    exact ⟨by simp, hpos⟩
  · have hlen : ((dec p.text).length : Int) = p.n := by rcases hp.2 with x | x | x <;> first | omega | exact x.2.2
    unfold ot
    rw [if_neg (by omega), if_neg (by omega)]
    cases hd' : dec p.text with
    | nil => rw [hd'] at hlen; simp at hlen; omega
    | cons x t => exact ⟨x, by simp⟩
  · unfold ot
    rw [if_neg (by omega), if_pos k, List.nil_append]
    have hrs : rs p l = l.drop p.n.toNat := by unfold rs; rw [if_neg (by omega), if_pos k]
    rw [hrs]
    cases r with
    | nil => exact .inl ⟨rfl, rfl⟩
    | cons q r =>
      right
      have hq := hf q (.tail _ (.head _))
      have hq1 := hq.1
      have hok : okPrev (some p.kind) q.kind := hna.2.1
      have hk1 : q.kind = 1 := by rcases hq.kinds with x | x | x <;> first | exact x | (exact absurd hok (by unfold okPrev; simp only; omega))
      rw [if_neg (by omega)] at hl
      simp only [fromS] at hl hr
      rw [if_neg (by omega)] at hl hr
      have hr2 := fromS_posU hf.tail.tail
      refine ⟨by simp, by omega, ?_⟩
      rw [runS_cons]
      unfold ot
      rw [if_pos hk1]
      have hlt : p.n.toNat < l.length := by omega
      obtain ⟨m, hm⟩ : ∃ m, q.n.toNat = m + 1 := ⟨q.n.toNat - 1, by omega⟩
      rw [hm, List.drop_eq_getElem_cons hlt, List.take_succ_cons, List.cons_append, List.head?_cons, List.getElem?_eq_getElem hlt]
theorem NA.none {k : Option Int} {e : List Part} (h : NA k e) : NA none e := by
  cases e with
  | nil => trivial
  | cons p r => exact ⟨trivial, h.2⟩
theorem inr_prefix : ∀ (a b : List Int) (x y : List Gen), a.map Sum.inr ++ x = b.map Sum.inr ++ y → (∀ z, x.head? ≠ some (.inr z)) → (∀ z, y.head? ≠ some (.inr z)) → a = b ∧ x = y
  | [], [], x, y, h, _, _ => ⟨rfl, by simpa using h⟩
  | [], c :: b, x, y, h, hx, _ => by simp at h; rw [h] at hx; exact absurd (by simp) (hx c)
  | c :: a, [], x, y, h, _, hy => by simp at h; rw [← h] at hy; exact absurd (by simp) (hy c)
  | c :: a, d :: b, x, y, h, hx, hy => by
    simp only [List.map_cons, List.cons_append, List.cons.injEq, Sum.inr.injEq] at h
    obtain ⟨h1, h2⟩ := inr_prefix a b x y h.2 hx hy
    exact ⟨by rw [h.1, h1], h2⟩
theorem getElem_inj {l : List Gen} (hd : l.Nodup) {i j : Nat} (hi : i < l.length) (h : l[i]? = l[j]?) : i = j := by
  rw [List.getElem?_eq_getElem hi] at h
  obtain ⟨hj, e⟩ := List.getElem?_eq_some_iff.1 h.symm
  exact (List.getElem_inj hd).1 e.symm
theorem inl_get {l : List Gen} (hi : inlS l) {i : Nat} {x : Int} : l[i]? ≠ some (.inr x) := fun h => by
  obtain ⟨j, hj⟩ := hi _ (List.mem_of_getElem? h)
  cases hj
theorem no_inr {p : Part} {r : List Part} (hf : FitsU r) (hna : NA (some p.kind) r) (hk : p.kind = 2) {l : List Gen} (hl : (l.length : Int) = fromS r) (hi : inlS l) (hd : l.Nodup) : ∀ z, (runS Sum.inr r l).1.head? ≠ some (.inr z) := by
  intro z
  cases r with
  | nil => simp [runS]
  | cons q r =>
    have hq := hf q (.head _)
    have hh := heads hf hna.none hl hi hd
    rcases hq.kinds with k | k | k
    · rw [(hh.1 k).1]; exact inl_get hi
    · exact absurd hna.1 (by unfold okPrev; simp only; omega)
    · rcases hh.2.2 k with ⟨_, h⟩ | ⟨_, _, h⟩
      · rw [h]; simp
      · rw [h]; exact inl_get hi
theorem no_next {k : Int} {r : List Part} (hf : FitsU r) (hna : NA (some k) r) (hk : k = 1) {l : List Gen} (hl : (l.length : Int) = fromS r) (hi : inlS l) (hd : l.Nodup) : ∀ x, l[0]? = some x → (runS Sum.inr r l).1.head? ≠ some x := by
  intro x hx
  cases r with
  | nil => simp [runS]
  | cons q r =>
    have hq := hf q (.head _)
    have hh := heads hf hna.none hl hi hd
    have hok : okPrev (some k) q.kind := hna.1
    have hq1 := hq.1
    rcases hq.kinds with k' | k' | k'
    · exact absurd hok (by unfold okPrev; simp only; omega)
    · obtain ⟨y, hy⟩ := hh.2.1 k'
      rw [hy]; rintro e
      rw [← e] at hx; exact inl_get hi hx
    · rcases hh.2.2 k' with ⟨_, h⟩ | ⟨_, h1, h2⟩
      · rw [h]; simp
      · rw [h2, ← hx]
        intro e
        have := getElem_inj hd h1 e
        omega
theorem take_same {l O1 O2 : List Gen} {n1 n2 : Nat} (h : l.take n1 ++ O1 = l.take n2 ++ O2) (h1 : n1 ≤ l.length) (h2 : n2 ≤ l.length) (k1 : ∀ x, (l.drop n1)[0]? = some x → O1.head? ≠ some x) (k2 : ∀ x, (l.drop n2)[0]? = some x → O2.head? ≠ some x) : n1 = n2 ∧ O1 = O2 := by
  have core : ∀ (n1 n2 : Nat) (O1 O2 : List Gen), l.take n1 ++ O1 = l.take n2 ++ O2 → n2 ≤ l.length → (∀ x, (l.drop n1)[0]? = some x → O1.head? ≠ some x) → ¬ n1 < n2 := by
    intro n1 n2 O1 O2 h h2 k1 hlt
    have e := congrArg (·[n1]?) h

    rw [List.getElem?_append_right (by rw [List.length_take]; omega), List.getElem?_append_left (by rw [List.length_take]; omega), List.length_take, Nat.min_eq_left (by omega), Nat.sub_self, List.getElem?_take, if_pos hlt] at e
    have hl : n1 < l.length := by omega
    refine k1 l[n1] (by rw [List.getElem?_drop]; simp [List.getElem?_eq_getElem hl]) ?_
    rw [List.head?_eq_getElem?, e, List.getElem?_eq_getElem hl]
  have a1 := core n1 n2 O1 O2 h h2 k1
  have a2 := core n2 n1 O2 O1 h.symm h1 k2
  have : n1 = n2 := by omega
  subst this
  exact ⟨rfl, List.append_cancel_left h⟩
theorem same_form : ∀ (a b : List Part) (l : List Gen), FitsU a → FitsU b → NA none a → NA none b → (l.length : Int) = fromS a → (l.length : Int) = fromS b → inlS l → l.Nodup → (runS Sum.inr a l).1 = (runS Sum.inr b l).1 → a = b
  | [], [], _, _, _, _, _, _, _, _, _, _ => rfl
  | [], q :: b, l, _, hb, _, nb, la, lb, hi, hd, h => by
    exfalso
    have hq := hb q (.head _)
    have h1 := hq.1
    have hr := fromS_posU hb.tail
    simp only [fromS] at la lb
    have hh := heads hb nb (by simp only [fromS]; omega) hi hd
    have k : q.kind = 2 := by
      rcases hq.kinds with k | k | k
      · rw [if_neg (by omega)] at lb; omega
      · exact k
      · rw [if_neg (by omega)] at lb; omega
    obtain ⟨x, hx⟩ := hh.2.1 k
    rw [← h] at hx
    simp [runS] at hx
  | p :: a, [], l, ha, _, na, _, la, lb, hi, hd, h => by
    exfalso
    have hp := ha p (.head _)
    have h1 := hp.1
    have hr := fromS_posU ha.tail
    simp only [fromS] at la lb
    have hh := heads ha na (by simp only [fromS]; omega) hi hd
    have k : p.kind = 2 := by
      rcases hp.kinds with k | k | k
      · rw [if_neg (by omega)] at la; omega
      · exact k
      · rw [if_neg (by omega)] at la; omega
    obtain ⟨x, hx⟩ := hh.2.1 k
    rw [h] at hx
    simp [runS] at hx
  | p :: a, q :: b, l, ha, hb, na, nb, la, lb, hi, hd, h => by
    have hp := ha p (.head _); have hq := hb q (.head _)
    have hp1 := hp.1; have hq1 := hq.1
    have ra := fromS_posU ha.tail; have rb := fromS_posU hb.tail
    have ea := heads ha na la hi hd; have eb := heads hb nb lb hi hd
    rw [h] at ea
    have hk : p.kind = q.kind := by
      rcases hp.kinds with k | k | k <;> rcases hq.kinds with k' | k' | k' <;> try omega
      · exfalso
        obtain ⟨x, hx⟩ := eb.2.1 k'
        have := (ea.1 k).1
        rw [hx] at this; exact inl_get hi this.symm
      · exfalso
        have h1 := ea.1 k
        rcases eb.2.2 k' with ⟨_, h2⟩ | ⟨_, h2, h3⟩
        · rw [h2] at h1
          have := h1.1
          rw [List.getElem?_eq_getElem h1.2] at this; cases this
        · have := getElem_inj hd h1.2 (h1.1.symm.trans h3)
          omega
      · exfalso
        obtain ⟨x, hx⟩ := ea.2.1 k
        have := (eb.1 k').1
        rw [hx] at this; exact inl_get hi this.symm
      · exfalso
        obtain ⟨x, hx⟩ := ea.2.1 k
        rcases eb.2.2 k' with ⟨_, h2⟩ | ⟨_, h2, h3⟩
        · rw [h2] at hx; cases hx
        · rw [hx] at h3; exact inl_get hi h3.symm
      · exfalso
        have h1 := eb.1 k'
        rcases ea.2.2 k with ⟨_, h2⟩ | ⟨_, h2, h3⟩
        · rw [h2] at h1
          have := h1.1
          rw [List.getElem?_eq_getElem h1.2] at this; cases this
        · have := getElem_inj hd h1.2 (h1.1.symm.trans h3)
          omega
      · exfalso
        obtain ⟨x, hx⟩ := eb.2.1 k'
        rcases ea.2.2 k with ⟨_, h2⟩ | ⟨_, h2, h3⟩
        · rw [h2] at hx; cases hx
        · rw [hx] at h3; exact inl_get hi h3.symm
    have key : p.n = q.n ∧ p.text = q.text ∧ (runS Sum.inr a (rs p l)).1 = (runS Sum.inr b (rs p l)).1 := by
      rw [runS_cons, runS_cons] at h
      simp only [fromS] at la lb
      rcases hp.2 with ⟨k, t⟩ | ⟨k, t⟩ | ⟨k, v, hl⟩
      · have kq : q.kind = 1 := by omega
        have tq : q.text = ⟨#[]⟩ := by rcases hq.2 with x | x | x <;> first | exact x.2 | omega
        rw [if_neg (by omega)] at la lb
        have e1 : ∀ l : List Gen, ot Sum.inr p l = l.take p.n.toNat := fun l => by unfold ot; rw [if_pos k]
        have e2 : ∀ l : List Gen, ot Sum.inr q l = l.take q.n.toNat := fun l => by unfold ot; rw [if_pos kq]
        have e3 : rs p l = l.drop p.n.toNat := by unfold rs; rw [if_pos k]
        have e4 : rs q l = l.drop q.n.toNat := by unfold rs; rw [if_pos kq]
        rw [e1, e2, e3, e4] at h
        have c := take_same h (by omega) (by omega)
          (no_next ha.tail na.2 k (by rw [List.length_drop]; omega) (fun x hx => hi x (List.mem_of_mem_drop hx)) (hd.sublist (List.drop_sublist _ _)))
          (no_next hb.tail nb.2 kq (by rw [List.length_drop]; omega) (fun x hx => hi x (List.mem_of_mem_drop hx)) (hd.sublist (List.drop_sublist _ _)))
        refine ⟨by omega, by rw [t, tq], ?_⟩
        rw [e3]
        have := c.2
        rw [← c.1] at this
        exact this
      · have kq : q.kind = 3 := by omega
        have tq : q.text = ⟨#[]⟩ := by rcases hq.2 with x | x | x <;> first | exact x.2 | omega
        rw [if_neg (by omega)] at la lb
        have e1 : ∀ l : List Gen, ot Sum.inr p l = [] := fun l => by unfold ot; rw [if_neg (by omega), if_pos k]
        have e2 : ∀ l : List Gen, ot Sum.inr q l = [] := fun l => by unfold ot; rw [if_neg (by omega), if_pos kq]
        have e3 : rs p l = l.drop p.n.toNat := by unfold rs; rw [if_neg (by omega), if_pos k]
        have e4 : rs q l = l.drop q.n.toNat := by unfold rs; rw [if_neg (by omega), if_pos kq]
        have hn : p.n = q.n := by
          rcases ea.2.2 k with ⟨a1, a2⟩ | ⟨a1, a2, a3⟩ <;> rcases eb.2.2 kq with ⟨b1, b2⟩ | ⟨b1, b2, b3⟩
          · subst a1 b1; simp only [fromS] at la lb; omega
          · rw [a2] at b3; simp only [List.head?_nil] at b3
            rw [List.getElem?_eq_getElem b2] at b3; cases b3
          · rw [b2] at a3; simp only [List.head?_nil] at a3
            rw [List.getElem?_eq_getElem a2] at a3; cases a3
          · have := getElem_inj hd a2 (a3.symm.trans b3)
            omega
        rw [e1, e2, e3, e4, ← hn] at h
        refine ⟨hn, by rw [t, tq], ?_⟩
        rw [e3]; exact h
      · have kq : q.kind = 2 := by omega
        have vq : valid q.text = true ∧ ((dec q.text).length : Int) = q.n := by rcases hq.2 with x | x | x <;> first | exact x.2 | omega
        rw [if_pos (by omega)] at la lb
        have e1 : ∀ l : List Gen, ot Sum.inr p l = (dec p.text).map Sum.inr := fun l => by unfold ot; rw [if_neg (by omega), if_neg (by omega)]
        have e2 : ∀ l : List Gen, ot Sum.inr q l = (dec q.text).map Sum.inr := fun l => by unfold ot; rw [if_neg (by omega), if_neg (by omega)]
        have e3 : rs p l = l := by unfold rs; rw [if_neg (by omega), if_neg (by omega)]
        have e4 : rs q l = l := by unfold rs; rw [if_neg (by omega), if_neg (by omega)]
        rw [e1, e2, e3, e4] at h
        obtain ⟨c1, c2⟩ := inr_prefix _ _ _ _ h (no_inr ha.tail na.2 k (by omega) hi hd) (no_inr hb.tail nb.2 kq (by omega) hi hd)
        refine ⟨by rw [c1] at hl; omega, dec_inj v vq.1 c1, ?_⟩
        rw [e3]; exact c2
    obtain ⟨k1, k2, k3⟩ := key
    have hpq : p = q := by cases p; cases q; simp only at hk k1 k2; subst hk k1 k2; rfl
    subst hpq
    congr 1
    have hlr := (ot_len Sum.inr hp (l := l) (by simp only [fromS] at la; split at la <;> rename_i hk2 <;> (first | rw [if_pos hk2] | rw [if_neg hk2]) <;> omega)).2
    refine same_form a b (rs p l) ha.tail hb.tail na.2.none nb.2.none ?_ ?_ ?_ ?_ k3
    · simp only [fromS] at la; omega
    · simp only [fromS] at lb; omega
    · intro x hx
      refine hi x ?_
      unfold rs at hx
      split at hx
      · exact List.mem_of_mem_drop hx
      · split at hx
        · exact List.mem_of_mem_drop hx
        · exact hx
    · unfold rs
      split
      · exact hd.sublist (List.drop_sublist _ _)
      · split
        · exact hd.sublist (List.drop_sublist _ _)
        · exact hd
end
end Go.SK

set_option linter.unusedVariables false
set_option linter.unusedSimpArgs false
set_option maxRecDepth 100000
namespace Go.SK
open Go
theorem fitsU_of {e : List Part} (h : Fits e) : FitsU e := fun p hp => fitU_of (h p hp)
theorem kindL_nil {e : List Part} (h : Fits e) (hk : kindL e = 0) : e = [] := by
  cases e with
  | nil => rfl
  | cons p r => have := (fitU_of (h p (.head _))).kinds; simp only [kindL] at hk; omega
theorem take_facts {x : Part} {xs : List Part} (h : Fits (x :: xs)) {n : Int} (h1 : 1 ≤ n) (h2 : n ≤ x.n) : FitU (takeP x n) ∧ Fits (restP x xs n) := ⟨fitU_of (take_fits (h x (.head _)) h1 h2), rest_fits h h1 h2⟩
/-- What a step over both takes. -/
theorem both_len (x y : Part) (xs ys : List Part) : (restP x xs (minI x.n y.n)).length + (restP y ys (minI x.n y.n)).length + 1 ≤ xs.length + 1 + (ys.length + 1) := by
  have m3 := (minI_le x.n y.n).2.2
  rw [rest_len, rest_len]
  rcases m3 with m3 | m3
  · rw [if_pos (show x.n - minI x.n y.n = 0 by omega)]; split <;> omega
  · rw [if_pos (show y.n - minI x.n y.n = 0 by omega)]; split <;> omega
section
variable {β : Type} (ι : Int → β)
theorem ot_keep {p : Part} (h : p.kind = 1) (l : List β) : ot ι p l = l.take p.n.toNat ∧ rs p l = l.drop p.n.toNat := by unfold ot rs; simp only [if_pos h, and_self]
theorem ot_drop {p : Part} (h : p.kind = 3) (l : List β) : ot ι p l = [] ∧ rs p l = l.drop p.n.toNat := by unfold ot rs; simp only [if_neg (show ¬ p.kind = 1 by omega), if_pos h, and_self]
theorem ot_put {p : Part} (h : p.kind = 2) (l : List β) : ot ι p l = (dec p.text).map ι ∧ rs p l = l := by unfold ot rs; simp only [if_neg (show ¬ p.kind = 1 by omega), if_neg (show ¬ p.kind = 3 by omega), and_self]
theorem comp_run : ∀ (f : Nat) (xs ys : List Part) (l : List β), Fits xs → Fits ys → toS xs = fromS ys → xs.length + ys.length ≤ f → (l.length : Int) = fromS xs →
    FitsU (compGo f xs ys) ∧ fromS (compGo f xs ys) = fromS xs ∧ (runS ι (compGo f xs ys) l).1 = (runS ι ys (runS ι xs l).1).1
  | 0, xs, ys, l, hx, hy, hb, hf, hl => by
    obtain rfl : xs = [] := List.length_eq_zero_iff.1 (by omega)
    obtain rfl : ys = [] := List.length_eq_zero_iff.1 (by omega)
    exact ⟨fun _ h => (by cases h), rfl, rfl⟩
  | f + 1, xs, ys, l, hx, hy, hb, hf, hl => by
    by_cases h0 : kindL xs = 0 ∧ kindL ys = 0
    · obtain rfl := kindL_nil hx h0.1
      obtain rfl := kindL_nil hy h0.2
      rw [compGo_stop h0]
      exact ⟨fun _ h => (by cases h), rfl, rfl⟩
    · by_cases h3 : kindL xs = 3
      · obtain ⟨x, xs', rfl, hk⟩ := kindL_cons h3 (by omega)
        rw [compGo_x h3]
        have hn := fitsB_n (hx x (.head _))
        have hp := fromS_posU (fitsU_of hx.tail)
        simp only [fromS, toS, List.length_cons, if_pos hk] at hb hf hl ⊢
        rw [if_neg (show ¬ x.kind = 2 by omega)] at hl ⊢
        obtain ⟨i1, i2, i3⟩ := comp_run f xs' ys (l.drop x.n.toNat) hx.tail hy (by omega) (by omega) (by rw [List.length_drop]; omega)
        refine ⟨FitsU.cons (fitU_of (hx x (.head _))) i1, by rw [i2], ?_⟩
        rw [runS_cons, runS_cons, (ot_drop ι hk l).1, (ot_drop ι hk l).2, i3]
        rfl
      · by_cases h2 : kindL ys = 2
        · obtain ⟨y, ys', rfl, hk⟩ := kindL_cons h2 (by omega)
          rw [compGo_y h3 h2]
          simp only [fromS, toS, List.length_cons, if_pos hk] at hb hf hl ⊢
          obtain ⟨i1, i2, i3⟩ := comp_run f xs ys' l hx hy.tail (by omega) (by omega) hl
          refine ⟨FitsU.cons (fitU_of (hy y (.head _))) i1, by rw [i2]; omega, ?_⟩
          rw [runS_cons, runS_cons, (ot_put ι hk _).1, (ot_put ι hk _).2, (ot_put ι hk _).1, (ot_put ι hk _).2, i3]
        · have hxs : xs ≠ [] := by
            rintro rfl
            cases ys with
            | nil => exact h0 ⟨rfl, rfl⟩
            | cons y ys' =>
              have h1 := fitsB_n (hy y (.head _)); have h4 := fromS_posU (fitsU_of hy.tail)
              have hy' : ¬ y.kind = 2 := h2
              simp only [toS, fromS, if_neg hy'] at hb; omega
          obtain ⟨x, xs', rfl⟩ := List.exists_cons_of_ne_nil hxs
          have hx' : ¬ x.kind = 3 := h3
          have hnx := fitsB_n (hx x (.head _)); have hnx2 := fromS_posU (fitsU_of hx.tail)
          have hys : ys ≠ [] := by
            rintro rfl
            simp only [toS, fromS, if_neg hx'] at hb; omega
          obtain ⟨y, ys', rfl⟩ := List.exists_cons_of_ne_nil hys
          have hy' : ¬ y.kind = 2 := h2
          have hny := fitsB_n (hy y (.head _)); have hny2 := fromS_posU (fitsU_of hy.tail)
          obtain ⟨m1, m2, m3⟩ := minI_le x.n y.n
          have hll := both_len x y xs' ys'
          have rx := rest_from x xs' (minI x.n y.n); have ry := rest_from y ys' (minI x.n y.n)
          rw [compGo_b h0 h3 h2]
          obtain ⟨tx1, tx2⟩ := take_facts hx (n := minI x.n y.n) (by omega) m1
          obtain ⟨ty1, ty2⟩ := take_facts hy (n := minI x.n y.n) (by omega) m2
          generalize hN : minI x.n y.n = n at *
          have hn1 : 1 ≤ n := by omega
          have kx : (takeP x n).kind = x.kind := rfl
          have ky : (takeP y n).kind = y.kind := rfl
          have nx : (takeP x n).n = n := rfl
          have ny : (takeP y n).n = n := rfl
          rw [if_neg hx'] at rx
          rw [if_neg hy'] at ry
          simp only [List.length_cons] at hf
          have ky3 : y.kind = 1 ∨ y.kind = 3 := by have := (fitU_of (hy y (.head _))).kinds; omega
          have kx3 : x.kind = 1 ∨ x.kind = 2 := by have := (fitU_of (hx x (.head _))).kinds; omega
          have hol := ot_len ι tx1 (l := l) (by rw [kx, nx]; split <;> rename_i hk <;> (first | rw [if_pos hk] at rx | rw [if_neg hk] at rx) <;> have := fromS_posU (fitsU_of tx2) <;> omega)
          rw [kx, nx, if_neg hx'] at hol
          have ih := comp_run f (restP x xs' n) (restP y ys' n) (rs (takeP x n) l) tx2 ty2 (by omega) (by omega) (by rw [hol.2]; omega)
          obtain ⟨i1, i2, i3⟩ := ih
          rw [ot_cut ι (hx x (.head _)) hn1 m1, ot_cut ι (hy y (.head _)) hn1 m2]
          have hA : (ot ι (takeP x n) l).length = n.toNat := by omega
          rcases ky3 with ky1 | ky1
          · rw [if_pos ky1]
            refine ⟨FitsU.cons tx1 i1, by rw [List.cons_append, List.nil_append, fromS, i2, kx, nx]; omega, ?_⟩
            rw [List.cons_append, List.nil_append, runS_cons, i3]
            simp only
            rw [(ot_keep ι (p := takeP y n) (by rw [ky]; exact ky1) _).1, (ot_keep ι (p := takeP y n) (by rw [ky]; exact ky1) _).2, ny, List.take_left' hA, List.drop_left' hA]
          · rw [if_neg (show ¬ y.kind = 1 by omega)]
            rcases kx3 with kx1 | kx1
            · rw [if_pos kx1]
              rw [if_neg (show ¬ x.kind = 2 by omega)] at rx
              refine ⟨FitsU.cons ty1 i1, by rw [List.cons_append, List.nil_append, fromS, i2, ky, ny, if_neg hy']; omega, ?_⟩
              rw [List.cons_append, List.nil_append, runS_cons]
              simp only
              rw [(ot_drop ι (p := takeP y n) (by rw [ky]; exact ky1) _).1, (ot_drop ι (p := takeP y n) (by rw [ky]; exact ky1) _).2, ny, (ot_drop ι (p := takeP y n) (by rw [ky]; exact ky1) _).1, (ot_drop ι (p := takeP y n) (by rw [ky]; exact ky1) _).2, ny, List.drop_left' hA]
              rw [(ot_keep ι (p := takeP x n) (by rw [kx]; exact kx1) l).2, nx] at i3
              rw [i3, (ot_keep ι (p := takeP x n) (by rw [kx]; exact kx1) l).2, nx]
            · rw [if_neg (show ¬ x.kind = 1 by omega), List.nil_append]
              rw [if_pos kx1] at rx
              refine ⟨i1, by rw [i2]; omega, ?_⟩
              simp only
              rw [(ot_drop ι (p := takeP y n) (by rw [ky]; exact ky1) _).1, (ot_drop ι (p := takeP y n) (by rw [ky]; exact ky1) _).2, ny, List.drop_left' hA]
              rw [(ot_put ι (p := takeP x n) (by rw [kx]; exact kx1) l).2] at i3
              rw [i3, (ot_put ι (p := takeP x n) (by rw [kx]; exact kx1) l).2]
              rfl
end
end Go.SK

set_option linter.unusedVariables false
set_option linter.unusedSimpArgs false
set_option maxRecDepth 100000
namespace Go.SK
open Go
section
variable {β : Type} (ι : Int → β)
theorem put_len {x : Part} (h : FitU x) (k : x.kind = 2) : ((dec x.text).map ι).length = x.n.toNat := by
  have : ((dec x.text).length : Int) = x.n := by rcases h.2 with y | y | y <;> first | omega | exact y.2.2
  rw [List.length_map]; omega
theorem keepP_fit {n : Int} (h : 1 ≤ n) : FitU (keepP n) := ⟨h, .inl ⟨rfl, rfl⟩⟩
theorem tr_run : ∀ (f : Nat) (xs ys : List Part) (l : List β), Fits xs → Fits ys → fromS xs = fromS ys → xs.length + ys.length ≤ f → (l.length : Int) = fromS xs →
    FitsU (trGo f xs ys).1 ∧ FitsU (trGo f xs ys).2 ∧ fromS (trGo f xs ys).1 = toS ys ∧ fromS (trGo f xs ys).2 = toS xs ∧ (runS ι (trGo f xs ys).1 (runS ι ys l).1).1 = (runS ι (trGo f xs ys).2 (runS ι xs l).1).1
  | 0, xs, ys, l, hx, hy, hb, hf, hl => by
    obtain rfl : xs = [] := List.length_eq_zero_iff.1 (by omega)
    obtain rfl : ys = [] := List.length_eq_zero_iff.1 (by omega)
    exact ⟨fun _ h => (by cases h), fun _ h => (by cases h), rfl, rfl, rfl⟩
  | f + 1, xs, ys, l, hx, hy, hb, hf, hl => by
    by_cases h0 : kindL xs = 0 ∧ kindL ys = 0
    · obtain rfl := kindL_nil hx h0.1
      obtain rfl := kindL_nil hy h0.2
      rw [trGo_stop h0]
      exact ⟨fun _ h => (by cases h), fun _ h => (by cases h), rfl, rfl, rfl⟩
    · by_cases h3 : kindL xs = 2
      · obtain ⟨x, xs', rfl, hk⟩ := kindL_cons h3 (by omega)
        rw [trGo_x h3]
        have hn := fitsB_n (hx x (.head _))
        have hfx := fitU_of (hx x (.head _))
        simp only [fromS, toS, List.length_cons, if_pos hk] at hb hf hl ⊢
        rw [if_neg (show ¬ x.kind = 3 by omega)]
        obtain ⟨i1, i2, i3, i4, i5⟩ := tr_run f xs' ys l hx.tail hy (by omega) (by omega) (by omega)
        have kk : (keepP x.n).kind = 1 := rfl
        have kn : (keepP x.n).n = x.n := rfl
        refine ⟨FitsU.cons hfx i1, FitsU.cons (keepP_fit hn.1) i2, by omega, by rw [kk, kn, if_neg (by omega)]; omega, ?_⟩
        rw [runS_cons, runS_cons, runS_cons, (ot_put ι hk _).1, (ot_put ι hk _).2, (ot_put ι hk _).1, (ot_put ι hk _).2]
        simp only
        rw [(ot_keep ι kk _).1, (ot_keep ι kk _).2, kn, List.take_left' (put_len ι hfx hk), List.drop_left' (put_len ι hfx hk), i5]
      · by_cases h2 : kindL ys = 2
        · obtain ⟨y, ys', rfl, hk⟩ := kindL_cons h2 (by omega)
          rw [trGo_y h3 h2]
          have hn := fitsB_n (hy y (.head _))
          have hfy := fitU_of (hy y (.head _))
          simp only [fromS, toS, List.length_cons, if_pos hk] at hb hf hl ⊢
          rw [if_neg (show ¬ y.kind = 3 by omega)]
          obtain ⟨i1, i2, i3, i4, i5⟩ := tr_run f xs ys' l hx hy.tail (by omega) (by omega) hl
          have kk : (keepP y.n).kind = 1 := rfl
          have kn : (keepP y.n).n = y.n := rfl
          refine ⟨FitsU.cons (keepP_fit hn.1) i1, FitsU.cons hfy i2, by rw [kk, kn, if_neg (by omega)]; omega, by omega, ?_⟩
          rw [runS_cons, runS_cons, runS_cons, (ot_put ι hk _).1, (ot_put ι hk _).2, (ot_put ι hk _).1, (ot_put ι hk _).2]
          simp only
          rw [(ot_keep ι kk _).1, (ot_keep ι kk _).2, kn, List.take_left' (put_len ι hfy hk), List.drop_left' (put_len ι hfy hk), i5]
        · have hxs : xs ≠ [] := by
            rintro rfl
            cases ys with
            | nil => exact h0 ⟨rfl, rfl⟩
            | cons y ys' =>
              have h1 := fitsB_n (hy y (.head _)); have h4 := fromS_posU (fitsU_of hy.tail)
              have hy' : ¬ y.kind = 2 := h2
              simp only [fromS, if_neg hy'] at hb; omega
          obtain ⟨x, xs', rfl⟩ := List.exists_cons_of_ne_nil hxs
          have hx' : ¬ x.kind = 2 := h3
          have hnx := fitsB_n (hx x (.head _)); have hnx2 := fromS_posU (fitsU_of hx.tail)
          have hys : ys ≠ [] := by
            rintro rfl
            simp only [fromS, if_neg hx'] at hb; omega
          obtain ⟨y, ys', rfl⟩ := List.exists_cons_of_ne_nil hys
          have hy' : ¬ y.kind = 2 := h2
          have hny := fitsB_n (hy y (.head _)); have hny2 := fromS_posU (fitsU_of hy.tail)
          obtain ⟨m1, m2, m3⟩ := minI_le x.n y.n
          have hll := both_len x y xs' ys'
          have rx := rest_from x xs' (minI x.n y.n); have ry := rest_from y ys' (minI x.n y.n)
          rw [trGo_b h0 h3 h2]
          obtain ⟨tx1, tx2⟩ := take_facts hx (n := minI x.n y.n) (by omega) m1
          obtain ⟨ty1, ty2⟩ := take_facts hy (n := minI x.n y.n) (by omega) m2
          generalize hN : minI x.n y.n = n at *
          have hn1 : 1 ≤ n := by omega
          have kx : (takeP x n).kind = x.kind := rfl
          have ky : (takeP y n).kind = y.kind := rfl
          have nx : (takeP x n).n = n := rfl
          have ny : (takeP y n).n = n := rfl
          rw [if_neg hx'] at rx
          rw [if_neg hy'] at ry
          simp only [List.length_cons] at hf
          have ky3 : y.kind = 1 ∨ y.kind = 3 := by have := (fitU_of (hy y (.head _))).kinds; omega
          have kx3 : x.kind = 1 ∨ x.kind = 3 := by have := (fitU_of (hx x (.head _))).kinds; omega
          have hfr := fromS_posU (fitsU_of tx2)
          have hln : n.toNat ≤ l.length := by omega
          obtain ⟨i1, i2, i3, i4, i5⟩ := tr_run f (restP x xs' n) (restP y ys' n) (l.drop n.toNat) tx2 ty2 (by omega) (by omega) (by rw [List.length_drop]; omega)
          rw [ot_cut ι (hx x (.head _)) hn1 m1, ot_cut ι (hy y (.head _)) hn1 m2]
          have hA : (l.take n.toNat).length = n.toNat := by rw [List.length_take]; omega
          have okx : ∀ (t : List β), x.kind = 1 → ot ι (takeP x n) t = t.take n.toNat ∧ rs (takeP x n) t = t.drop n.toNat := fun t h => ot_keep ι (p := takeP x n) (by rw [kx]; exact h) t
          have oky : ∀ (t : List β), y.kind = 1 → ot ι (takeP y n) t = t.take n.toNat ∧ rs (takeP y n) t = t.drop n.toNat := fun t h => ot_keep ι (p := takeP y n) (by rw [ky]; exact h) t
          have odx : ∀ (t : List β), x.kind = 3 → ot ι (takeP x n) t = [] ∧ rs (takeP x n) t = t.drop n.toNat := fun t h => ot_drop ι (p := takeP x n) (by rw [kx]; exact h) t
          have ody : ∀ (t : List β), y.kind = 3 → ot ι (takeP y n) t = [] ∧ rs (takeP y n) t = t.drop n.toNat := fun t h => ot_drop ι (p := takeP y n) (by rw [ky]; exact h) t
          rcases kx3 with kx1 | kx1 <;> rcases ky3 with ky1 | ky1
          · rw [if_pos kx1, if_pos ky1, (okx l kx1).1, (okx l kx1).2, (oky l ky1).1, (oky l ky1).2]
            refine ⟨FitsU.cons tx1 i1, FitsU.cons ty1 i2, ?_, ?_, ?_⟩
            · simp only [List.cons_append, List.nil_append, fromS, i3, kx, nx, if_neg hx']; omega
            · simp only [List.cons_append, List.nil_append, fromS, i4, ky, ny, if_neg hy']; omega
            · simp only [List.cons_append, List.nil_append]
              rw [runS_cons, runS_cons]
              simp only
              rw [(okx _ kx1).1, (okx _ kx1).2, (oky _ ky1).1, (oky _ ky1).2, List.take_left' hA, List.drop_left' hA, List.take_left' hA, List.drop_left' hA, i5]
          · rw [if_pos kx1, if_neg (show ¬ y.kind = 1 by omega), (okx l kx1).1, (okx l kx1).2, (ody l ky1).1, (ody l ky1).2]
            refine ⟨i1, FitsU.cons ty1 i2, ?_, ?_, ?_⟩
            · simp only [List.nil_append, i3]; omega
            · simp only [List.cons_append, List.nil_append, fromS, i4, ky, ny, if_neg hy']; omega
            · simp only [List.cons_append, List.nil_append]
              rw [runS_cons]
              simp only
              rw [(ody _ ky1).1, (ody _ ky1).2, List.drop_left' hA, i5, List.nil_append]
          · rw [if_neg (show ¬ x.kind = 1 by omega), if_pos ky1, (odx l kx1).1, (odx l kx1).2, (oky l ky1).1, (oky l ky1).2]
            refine ⟨FitsU.cons tx1 i1, i2, ?_, ?_, ?_⟩
            · simp only [List.cons_append, List.nil_append, fromS, i3, kx, nx, if_neg hx']; omega
            · simp only [List.nil_append, i4]; omega
            · simp only [List.cons_append, List.nil_append]
              rw [runS_cons]
              simp only
              rw [(odx _ kx1).1, (odx _ kx1).2, List.drop_left' hA, i5, List.nil_append]
          · rw [if_neg (show ¬ x.kind = 1 by omega), if_neg (show ¬ y.kind = 1 by omega), (odx l kx1).1, (odx l kx1).2, (ody l ky1).1, (ody l ky1).2]
            refine ⟨i1, i2, ?_, ?_, ?_⟩
            · simp only [List.nil_append, i3]; omega
            · simp only [List.nil_append, i4]; omega
            · simp only [List.nil_append]
              exact i5
end
/-! ### What composition makes -/
theorem len_list (n : Int) (h : 0 ≤ n) : ((List.replicate n.toNat (0 : Int)).length : Int) = n := by rw [List.length_replicate]; omega
theorem not_compBad {a b : List Part} (h : ¬ compBad a b) : Ok a ∧ Ok b ∧ toS a = fromS b := by
  unfold compBad at h
  have ha : (sizesF a).2.2 = true := by cases hh : (sizesF a).2.2 <;> simp_all
  have hb : (sizesF b).2.2 = true := by cases hh : (sizesF b).2.2 <;> simp_all
  have oa := ok_iff.1 ha; have ob := ok_iff.1 hb
  refine ⟨oa, ob, ?_⟩
  rw [oa.sizes, ob.sizes] at h
  simp only [Bool.true_eq_false, false_or] at h
  omega
theorem compBad_iff {a b : List Part} : ¬ compBad a b ↔ Ok a ∧ Ok b ∧ toS a = fromS b := by
  refine ⟨not_compBad, fun ⟨oa, ob, e⟩ h => ?_⟩
  unfold compBad at h
  rw [oa.sizes, ob.sizes] at h
  simp only [Bool.true_eq_false, false_or] at h
  omega
theorem compGo_facts {a b : List Part} (oa : Ok a) (ob : Ok b) (e : toS a = fromS b) : FitsU (compGo (a.length + b.length) a b) ∧ fromS (compGo (a.length + b.length) a b) = fromS a ∧ toS (compGo (a.length + b.length) a b) = toS b := by
  have pa := fromS_posU oa.1; have pb := fromS_posU ob.1
  have hl := len_list (fromS a) pa.1
  obtain ⟨h1, h2, h3⟩ := comp_run (id : Int → Int) _ a b (List.replicate (fromS a).toNat 0) oa.fits ob.fits e (Nat.le_refl _) hl
  refine ⟨h1, h2, ?_⟩
  have l1 := (runS_len id (compGo (a.length + b.length) a b) (List.replicate (fromS a).toNat 0) h1 (by omega)).1
  have l2 := (runS_len id a (List.replicate (fromS a).toNat 0) oa.1 (by omega)).1
  have l3 := (runS_len id b (runS id a (List.replicate (fromS a).toNat 0)).1 ob.1 (by omega)).1
  rw [h3] at l1; omega
/-- Two edits that fit make one. -/
theorem comp_law {a b : List Part} (oa : Ok a) (ob : Ok b) (e : toS a = fromS b) :
    compE a b = 0 ∧ Ok (compF a b) ∧ fromS (compF a b) = fromS a ∧ toS (compF a b) = toS b ∧
    ∀ {β : Type} (ι : Int → β) (l : List β), (l.length : Int) = fromS a → (runS ι (compF a b) l).1 = (runS ι b (runS ι a l).1).1 := by
  obtain ⟨h1, h2, h3⟩ := compGo_facts oa ob e
  have nb := compBad_iff.2 ⟨oa, ob, e⟩
  obtain ⟨m1, m2, m3⟩ := addRs_mk (compGo (a.length + b.length) a b) [] MK.nil h1
  have z0 : fromS ([] : List Part) = 0 := rfl
  have z1 : toS ([] : List Part) = 0 := rfl
  have hok : Ok (compR a b).reverse := m1.ok (by have := oa.2.2.1; omega) (by have := ob.2.2.2; omega)
  obtain ⟨c1, c2⟩ := comp_ok nb (ok_iff.2 hok)
  have hrev := fromS_rev (compR a b)
  have hR : compR a b = addRs [] (compGo (a.length + b.length) a b) := rfl
  rw [c2]
  refine ⟨c1, hok, by rw [hrev.1, hR]; omega, by rw [hrev.2, hR]; omega, fun ι l hl => ?_⟩
  rw [hR, maker_run ι h1]
  exact (comp_run ι _ a b l oa.fits ob.fits e (Nat.le_refl _) hl).2.2
/-! ### What transformation makes -/
theorem trBad_iff {a b : List Part} : ¬ trBad a b ↔ Ok a ∧ Ok b ∧ fromS a = fromS b := by
  unfold trBad
  constructor
  · intro h
    have ha : (sizesF a).2.2 = true := by cases hh : (sizesF a).2.2 <;> simp_all
    have hb : (sizesF b).2.2 = true := by cases hh : (sizesF b).2.2 <;> simp_all
    have oa := ok_iff.1 ha; have ob := ok_iff.1 hb
    refine ⟨oa, ob, ?_⟩
    rw [oa.sizes, ob.sizes] at h
    simp only [Bool.true_eq_false, false_or] at h
    omega
  · rintro ⟨oa, ob, e⟩ h
    rw [oa.sizes, ob.sizes] at h
    simp only [Bool.true_eq_false, false_or] at h
    omega
end Go.SK

set_option linter.unusedVariables false
set_option linter.unusedSimpArgs false
set_option maxRecDepth 100000
namespace Go.SK
open Go
theorem runS_scalar : ∀ (e : List Part) (l : List Int), FitsU e → (∀ x ∈ l, scalar x) → ∀ x ∈ (runS id e l).1, scalar x
  | [], l, _, _, x, hx => by simp [runS] at hx
  | p :: r, l, h, hl, x, hx => by
    rw [runS_cons] at hx
    simp only at hx
    have hrs : ∀ y ∈ rs p l, scalar y := by
      intro y hy
      unfold rs at hy
      split at hy
      · exact hl y (List.mem_of_mem_drop hy)
      · split at hy
        · exact hl y (List.mem_of_mem_drop hy)
        · exact hl y hy
    rcases List.mem_append.1 hx with hx | hx
    · unfold ot at hx
      split at hx
      · exact hl x (List.mem_of_mem_take hx)
      · split at hx
        · cases hx
        · rename_i k1 k3
          rw [List.map_id] at hx
          have hv : valid p.text = true := by rcases (h p (.head _)).2 with y | y | y <;> first | omega | exact y.2.1
          exact dec_scalar hv x hx
    · exact runS_scalar r (rs p l) h.tail hrs x hx
theorem inv_run : ∀ (e : List Part) (l : List Int), Fits e → fromS e = l.length → (∀ x ∈ l, scalar x) →
    FitsU (invGo e l) ∧ fromS (invGo e l) = toS e ∧ toS (invGo e l) = fromS e ∧ (runS id (invGo e l) (runS id e l).1).1 = l
  | [], l, _, hl, _ => by
    obtain rfl : l = [] := List.length_eq_zero_iff.1 (by simp only [fromS] at hl; omega)
    exact ⟨fun _ h => (by cases h), rfl, rfl, rfl⟩
  | p :: r, l, h, hl, hs => by
    have hn := fitsB_n (h p (.head _))
    have hp := fromS_posU (fitsU_of h.tail)
    have hf := fitU_of (h p (.head _))
    simp only [fromS] at hl
    rw [invGo, runS_cons]
    rcases hf.kinds with k | k | k
    · rw [if_neg (by omega)] at hl
      obtain ⟨i1, i2, i3, i4⟩ := inv_run r (l.drop p.n.toNat) h.tail (by rw [List.length_drop]; omega) (fun x hx => hs x (List.mem_of_mem_drop hx))
      have hA : (l.take p.n.toNat).length = p.n.toNat := by rw [List.length_take]; omega
      rw [if_pos k, runS_cons]
      refine ⟨FitsU.cons hf i1, ?_, ?_, ?_⟩
      · simp only [fromS, toS, i2]; split <;> split <;> omega
      · simp only [fromS, toS, i3]; split <;> split <;> omega
      · simp only
        rw [(ot_keep id k l).1, (ot_keep id k l).2, (ot_keep id k _).1, (ot_keep id k _).2, List.take_left' hA, List.drop_left' hA, i4, List.take_append_drop]
    · rw [if_pos k] at hl
      obtain ⟨i1, i2, i3, i4⟩ := inv_run r l h.tail (by omega) hs
      have kd : (dropP p.n).kind = 3 := rfl
      have nd : (dropP p.n).n = p.n := rfl
      rw [if_neg (by omega), if_neg (by omega), runS_cons]
      refine ⟨FitsU.cons ⟨hn.1, .inr (.inl ⟨rfl, rfl⟩)⟩ i1, ?_, ?_, ?_⟩
      · simp only [fromS, toS, i2, kd, nd]; rw [if_neg (by omega), if_neg (by omega)]
      · simp only [fromS, toS, i3, kd, nd]; rw [if_pos trivial, if_pos k]
      · simp only
        rw [(ot_put id k l).1, (ot_put id k l).2, (ot_drop id kd _).1, (ot_drop id kd _).2, nd, List.drop_left' (put_len id hf k), i4]
        rfl
    · rw [if_neg (by omega)] at hl
      obtain ⟨i1, i2, i3, i4⟩ := inv_run r (l.drop p.n.toNat) h.tail (by rw [List.length_drop]; omega) (fun x hx => hs x (List.mem_of_mem_drop hx))
      have hA : (l.take p.n.toNat).length = p.n.toNat := by rw [List.length_take]; omega
      have hsc : ∀ x ∈ l.take p.n.toNat, scalar x := fun x hx => hs x (List.mem_of_mem_take hx)
      obtain ⟨q1, q2⟩ := put_fits hsc (by omega) (by omega)
      have kp : (putP (enc (l.take p.n.toNat))).kind = 2 := rfl
      rw [if_neg (by omega), if_pos k, runS_cons]
      refine ⟨FitsU.cons (fitU_of q1) i1, ?_, ?_, ?_⟩
      · simp only [fromS, toS, i2, kp]; rw [if_pos trivial, if_pos k]
      · simp only [fromS, toS, i3, kp, q2]; rw [if_neg (by omega), if_neg (by omega)]; omega
      · simp only
        rw [(ot_drop id k l).1, (ot_drop id k l).2, (ot_put id kp _).1, (ot_put id kp _).2, List.nil_append, i4]
        have : dec (putP (enc (l.take p.n.toNat))).text = l.take p.n.toNat := dec_enc hsc
        rw [this, List.map_id, List.take_append_drop]
theorem applyBad_iff {e : List Part} {s : ByteArray} : ¬ applyBad e s ↔ valid s = true ∧ Ok e ∧ fromS e = (dec s).length := by
  unfold applyBad
  constructor
  · intro h
    have hv : valid s = true := by cases hh : valid s <;> simp_all
    have hc : checkF e (dec s).length = 0 := by
      by_cases hc : checkF e (dec s).length = 0
      · exact hc
      · exact absurd (Or.inr hc) h
    exact ⟨hv, checkF_iff.1 hc⟩
  · rintro ⟨hv, h⟩ (h1 | h1)
    · rw [hv] at h1; cases h1
    · exact h1 (checkF_iff.2 h)
/-- What an edit makes of a text. -/
theorem apply_law {e : List Part} {s : ByteArray} (hv : valid s = true) (h : Ok e) (hn : fromS e = (dec s).length) :
    applyE e s = 0 ∧ applyF e s = enc (runS id e (dec s)).1 ∧ valid (applyF e s) = true ∧ dec (applyF e s) = (runS id e (dec s)).1 ∧ ((dec (applyF e s)).length : Int) = toS e := by
  have hb := applyBad_iff.2 ⟨hv, h, hn⟩
  obtain ⟨a1, a2⟩ := apply_ok hb
  rw [apGo_run, List.nil_append] at a1
  have hsc := runS_scalar e (dec s) h.1 (dec_scalar hv)
  have hd : dec (applyF e s) = (runS id e (dec s)).1 := by rw [a1]; exact dec_enc hsc
  refine ⟨a2, a1, by rw [a1]; exact valid_enc hsc, hd, ?_⟩
  rw [hd]; exact (runS_len id e (dec s) h.1 (by omega)).1
theorem inv_law {e : List Part} {s : ByteArray} (hv : valid s = true) (h : Ok e) (hn : fromS e = (dec s).length) :
    invE e s = 0 ∧ Ok (invF e s) ∧ fromS (invF e s) = toS e ∧ toS (invF e s) = fromS e ∧ applyE (invF e s) (applyF e s) = 0 ∧ applyF (invF e s) (applyF e s) = s := by
  have hb := applyBad_iff.2 ⟨hv, h, hn⟩
  obtain ⟨i1, i2, i3, i4⟩ := inv_run e (dec s) h.fits hn (dec_scalar hv)
  obtain ⟨m1, m2, m3⟩ := addRs_mk (invGo e (dec s)) [] MK.nil i1
  have z0 : fromS ([] : List Part) = 0 := rfl
  have z1 : toS ([] : List Part) = 0 := rfl
  have hR : invR e s = addRs [] (invGo e (dec s)) := rfl
  have hok : Ok (invR e s).reverse := m1.ok (by have := h.2.2.2; omega) (by have := h.2.2.1; omega)
  obtain ⟨c1, c2⟩ := inv_ok hb (ok_iff.2 hok)
  have hrev := fromS_rev (invR e s)
  obtain ⟨a1, a2, a3, a4, a5⟩ := apply_law hv h hn
  have hf : fromS (invF e s) = toS e := by rw [c2, hrev.1, hR]; omega
  obtain ⟨b1, b2, b3, b4, b5⟩ := apply_law (e := invF e s) a3 (by rw [c2]; exact hok) (by rw [hf]; exact a5.symm)
  refine ⟨c1, by rw [c2]; exact hok, hf, by rw [c2, hrev.2, hR]; omega, b1, ?_⟩
  rw [b2, a4, c2, hR, maker_run id i1, i4]
  exact enc_dec hv
end Go.SK

set_option linter.unusedVariables false
set_option linter.unusedSimpArgs false
set_option maxRecDepth 100000
namespace Go.SK
open Go
def putsN : List Part → Int
  | [] => 0
  | p :: r => (if p.kind = 2 then p.n else 0) + putsN r
def dvP (p : Part) : List Bool := if p.kind = 1 then List.replicate p.n.toNat false else if p.kind = 3 then List.replicate p.n.toNat true else []
/-- Which places an edit drops. -/
def dv : List Part → List Bool
  | [] => []
  | p :: r => dvP p ++ dv r
theorem dv_len : ∀ {e : List Part}, FitsU e → ((dv e).length : Int) = fromS e
  | [], _ => rfl
  | p :: r, h => by
    have h1 := h p (.head _)
    have h0 := h1.1
    simp only [dv, List.length_append, fromS, dvP]
    have := dv_len h.tail
    rcases h1.kinds with k | k | k <;> simp [k] <;> omega
theorem dv_cut {x : Part} (hk : ¬ x.kind = 2) {n : Int} (h1 : 1 ≤ n) (h2 : n ≤ x.n) (xs : List Part) : dv (x :: xs) = dvP (takeP x n) ++ dv (restP x xs n) := by
  have kx : (takeP x n).kind = x.kind := rfl
  have nx : (takeP x n).n = n := rfl
  unfold restP
  split
  · have : x.n = n := by omega
    subst this
    simp only [dv, dvP, kx, nx]
  · have kl : (leftP x n).kind = x.kind := rfl
    have nl : (leftP x n).n = x.n - n := rfl
    have hN : x.n.toNat = n.toNat + (x.n - n).toNat := by omega
    simp only [dv, dvP, kx, nx, kl, nl]
    rw [← List.append_assoc]
    congr 1
    split
    · rw [hN, List.replicate_append_replicate]
    · split
      · rw [hN, List.replicate_append_replicate]
      · rfl
theorem putsN_cut {x : Part} (hk : ¬ x.kind = 2) (xs : List Part) (n : Int) : putsN (restP x xs n) = putsN (x :: xs) := by
  unfold restP
  split
  · simp only [putsN, if_neg hk]; omega
  · have kl : (leftP x n).kind = x.kind := rfl
    simp only [putsN, kl, if_neg hk]
theorem dvP_len {x : Part} {n : Int} (hk : ¬ x.kind = 2) (h3 : x.kind = 1 ∨ x.kind = 3) : (dvP (takeP x n)).length = n.toNat := by
  have kx : (takeP x n).kind = x.kind := rfl
  have nx : (takeP x n).n = n := rfl
  simp only [dvP, kx, nx]
  rcases h3 with k | k <;> simp [k]
abbrev fls : Int → Bool := fun _ => false
theorem tr_dv : ∀ (f : Nat) (xs ys : List Part), Fits xs → Fits ys → fromS xs = fromS ys → xs.length + ys.length ≤ f →
    putsN (trGo f xs ys).1 = putsN xs ∧ dv (trGo f xs ys).1 = (runS fls ys (dv xs)).1
  | 0, xs, ys, hx, hy, hb, hf => by
    obtain rfl : xs = [] := List.length_eq_zero_iff.1 (by omega)
    obtain rfl : ys = [] := List.length_eq_zero_iff.1 (by omega)
    exact ⟨rfl, rfl⟩
  | f + 1, xs, ys, hx, hy, hb, hf => by
    by_cases h0 : kindL xs = 0 ∧ kindL ys = 0
    · obtain rfl := kindL_nil hx h0.1
      obtain rfl := kindL_nil hy h0.2
      rw [trGo_stop h0]
      exact ⟨rfl, rfl⟩
    · by_cases h3 : kindL xs = 2
      · obtain ⟨x, xs', rfl, hk⟩ := kindL_cons h3 (by omega)
        rw [trGo_x h3]
        simp only [fromS, List.length_cons, if_pos hk] at hb hf
        obtain ⟨i1, i2⟩ := tr_dv f xs' ys hx.tail hy (by omega) (by omega)
        have hd : dvP x = [] := by unfold dvP; rw [if_neg (by omega), if_neg (by omega)]
        simp only [putsN, dv, i1, i2, hd, List.nil_append, and_self]
      · by_cases h2 : kindL ys = 2
        · obtain ⟨y, ys', rfl, hk⟩ := kindL_cons h2 (by omega)
          rw [trGo_y h3 h2]
          have hfy := fitU_of (hy y (.head _))
          simp only [fromS, List.length_cons, if_pos hk] at hb hf
          obtain ⟨i1, i2⟩ := tr_dv f xs ys' hx hy.tail (by omega) (by omega)
          have kk : (keepP y.n).kind = 1 := rfl
          have kn : (keepP y.n).n = y.n := rfl
          have hl := put_len fls hfy hk
          have hm : (dec y.text).map fls = List.replicate y.n.toNat false := by
            rw [List.eq_replicate_iff]
            exact ⟨hl, fun b hb => by obtain ⟨a, _, rfl⟩ := List.mem_map.1 hb; rfl⟩
          refine ⟨by simp only [putsN, i1, kk]; rw [if_neg (by omega)]; omega, ?_⟩
          rw [runS_cons, (ot_put fls hk _).1, (ot_put fls hk _).2, hm, ← i2]
          simp only [dv, dvP, kk, kn, if_true]
        · have hxs : xs ≠ [] := by
            rintro rfl
            cases ys with
            | nil => exact h0 ⟨rfl, rfl⟩
            | cons y ys' =>
              have h1 := fitsB_n (hy y (.head _)); have h4 := fromS_posU (fitsU_of hy.tail)
              have hy' : ¬ y.kind = 2 := h2
              simp only [fromS, if_neg hy'] at hb; omega
          obtain ⟨x, xs', rfl⟩ := List.exists_cons_of_ne_nil hxs
          have hx' : ¬ x.kind = 2 := h3
          have hnx := fitsB_n (hx x (.head _)); have hnx2 := fromS_posU (fitsU_of hx.tail)
          have hys : ys ≠ [] := by
            rintro rfl
            simp only [fromS, if_neg hx'] at hb; omega
          obtain ⟨y, ys', rfl⟩ := List.exists_cons_of_ne_nil hys
          have hy' : ¬ y.kind = 2 := h2
          have hny := fitsB_n (hy y (.head _)); have hny2 := fromS_posU (fitsU_of hy.tail)
          obtain ⟨m1, m2, m3⟩ := minI_le x.n y.n
          have hll := both_len x y xs' ys'
          have rx := rest_from x xs' (minI x.n y.n); have ry := rest_from y ys' (minI x.n y.n)
          rw [trGo_b h0 h3 h2]
          obtain ⟨tx1, tx2⟩ := take_facts hx (n := minI x.n y.n) (by omega) m1
          obtain ⟨ty1, ty2⟩ := take_facts hy (n := minI x.n y.n) (by omega) m2
          generalize hN : minI x.n y.n = n at *
          have hn1 : 1 ≤ n := by omega
          have kx : (takeP x n).kind = x.kind := rfl
          have ky : (takeP y n).kind = y.kind := rfl
          have nx : (takeP x n).n = n := rfl
          have ny : (takeP y n).n = n := rfl
          rw [if_neg hx'] at rx
          rw [if_neg hy'] at ry
          simp only [List.length_cons] at hf
          have ky3 : y.kind = 1 ∨ y.kind = 3 := by have := (fitU_of (hy y (.head _))).kinds; omega
          have kx3 : x.kind = 1 ∨ x.kind = 3 := by have := (fitU_of (hx x (.head _))).kinds; omega
          obtain ⟨i1, i2⟩ := tr_dv f (restP x xs' n) (restP y ys' n) tx2 ty2 (by omega) (by omega)
          have hA := dvP_len (x := x) (n := n) hx' kx3
          rw [ot_cut fls (hy y (.head _)) hn1 m2, dv_cut hx' hn1 m1]
          have pc := putsN_cut hx' xs' n
          rcases ky3 with ky1 | ky1
          · have hk : (takeP y n).kind = 1 := by rw [ky]; exact ky1
            rw [if_pos ky1]
            simp only [List.cons_append, List.nil_append]
            rw [(ot_keep fls hk _).1, (ot_keep fls hk _).2, ny, List.take_left' hA, List.drop_left' hA, ← i2]
            exact ⟨by rw [putsN, kx, if_neg hx', i1, pc]; omega, rfl⟩
          · have hk : (takeP y n).kind = 3 := by rw [ky]; exact ky1
            rw [if_neg (show ¬ y.kind = 1 by omega)]
            simp only [List.nil_append]
            rw [(ot_drop fls hk _).1, (ot_drop fls hk _).2, ny, List.drop_left' hA, ← i2]
            exact ⟨by rw [i1, pc], rfl⟩
end Go.SK

set_option linter.unusedVariables false
set_option linter.unusedSimpArgs false
set_option maxRecDepth 100000
namespace Go.SK
open Go
theorem dv_append : ∀ (a b : List Part), dv (a ++ b) = dv a ++ dv b
  | [], b => rfl
  | p :: a, b => by rw [List.cons_append, dv, dv, dv_append a b, List.append_assoc]
theorem putsN_append : ∀ (a b : List Part), putsN (a ++ b) = putsN a + putsN b
  | [], b => by simp [putsN]
  | p :: a, b => by rw [List.cons_append, putsN, putsN, putsN_append a b]; omega
theorem dv_more {q p : Part} (hq : FitU q) (hp : FitU p) (h : q.kind = p.kind) (r : List Part) : dv (q.more p :: r) = dv (q :: p :: r) ∧ putsN (q.more p :: r) = putsN (q :: p :: r) := by
  have h1 := hq.1; have h2 := hp.1
  have hn : (q.more p).n = q.n + p.n := rfl
  have hN : (q.n + p.n).toNat = q.n.toNat + p.n.toNat := by omega
  have hk : (q.more p).kind = q.kind := rfl
  simp only [dv, dvP, putsN, hk, hn, ← h]
  constructor
  · rw [← List.append_assoc]
    congr 1
    split
    · rw [hN, List.replicate_append_replicate]
    · split
      · rw [hN, List.replicate_append_replicate]
      · rfl
  · split <;> omega
theorem addR_dv : ∀ (r : List Part) (p : Part), FitsU r → FitU p → ∀ (t : List Part), dv ((addR r p).reverse ++ t) = dv (r.reverse ++ p :: t) ∧ putsN ((addR r p).reverse ++ t) = putsN (r.reverse ++ p :: t)
  | [], p, _, hp, t => by rw [addR_nil (by have := hp.1; omega)]; exact ⟨rfl, rfl⟩
  | q :: r, p, h, hp, t => by
    have hn : ¬ p.n = 0 := by have := hp.1; omega
    have hq := h q (.head _)
    by_cases h1 : q.kind = p.kind
    · rw [addR_more hn h1]
      simp only [List.reverse_cons, List.append_assoc, List.cons_append, List.nil_append]
      rw [dv_append, putsN_append, dv_append, putsN_append, (dv_more hq hp h1 t).1, (dv_more hq hp h1 t).2]
      exact ⟨rfl, rfl⟩
    · by_cases h2 : p.kind ≠ 2 ∨ q.kind ≠ 3
      · rw [addR_push hn h1 h2]
        simp only [List.reverse_cons, List.append_assoc, List.cons_append, List.nil_append]
        exact ⟨trivial, trivial⟩
      · rw [addR_deep hn h1 h2]
        simp only [List.reverse_cons, List.append_assoc, List.cons_append, List.nil_append]
        have ih := addR_dv r p h.tail hp (q :: t)
        rw [ih.1, ih.2, dv_append, dv_append, putsN_append, putsN_append]
        have e : dvP p = [] := by unfold dvP; rw [if_neg (by omega), if_neg (by omega)]
        simp only [dv, putsN, e, List.nil_append, true_and]
        omega
theorem addRs_dv : ∀ (ps r : List Part), MK r → FitsU ps → ∀ (t : List Part), dv ((addRs r ps).reverse ++ t) = dv (r.reverse ++ (ps ++ t)) ∧ putsN ((addRs r ps).reverse ++ t) = putsN (r.reverse ++ (ps ++ t))
  | [], r, _, _, t => ⟨rfl, rfl⟩
  | p :: ps, r, h, hp, t => by
    rw [addRs_cons, (addRs_dv ps (addR r p) (h.add (hp p (.head _))) hp.tail t).1, (addRs_dv ps (addR r p) (h.add (hp p (.head _))) hp.tail t).2, (addR_dv r p h.fit (hp p (.head _)) _).1, (addR_dv r p h.fit (hp p (.head _)) _).2]
    exact ⟨rfl, rfl⟩
theorem maker_dv {ps : List Part} (hp : FitsU ps) : dv (addRs [] ps).reverse = dv ps ∧ putsN (addRs [] ps).reverse = putsN ps := by
  have := addRs_dv ps [] MK.nil hp []
  simpa using this
theorem toS_puts : ∀ {e : List Part}, FitsU e → toS e ≤ fromS e + putsN e ∧ 0 ≤ putsN e
  | [], _ => by simp [toS, fromS, putsN]
  | p :: r, h => by
    have h1 := (h p (.head _)).1
    have := toS_puts h.tail
    simp only [toS, fromS, putsN]
    constructor
    · split <;> split <;> omega
    · split <;> omega
/-- What transformation makes of two edits of one text. -/
theorem tr_law {a b : List Part} (oa : Ok a) (ob : Ok b) (e : fromS a = fromS b) :
    MK (trR1 a b) ∧ MK (trR2 a b) ∧ fromS (trR1 a b).reverse = toS b ∧ fromS (trR2 a b).reverse = toS a ∧ toS (trR1 a b).reverse = toS (trR2 a b).reverse ∧
    putsN (trR1 a b).reverse = putsN a ∧ dv (trR1 a b).reverse = (runS fls b (dv a)).1 ∧
    ∀ {β : Type} (ι : Int → β) (l : List β), (l.length : Int) = fromS a → (runS ι (trR1 a b).reverse (runS ι b l).1).1 = (runS ι (trR2 a b).reverse (runS ι a l).1).1 := by
  have pa := fromS_posU oa.1
  have hl := len_list (fromS a) pa.1
  have key := fun {β : Type} (ι : Int → β) (l : List β) (hl : (l.length : Int) = fromS a) => tr_run ι (a.length + b.length) a b l oa.fits ob.fits e (Nat.le_refl _) hl
  obtain ⟨h1, h2, h3, h4, _⟩ := key (id : Int → Int) (List.replicate (fromS a).toNat 0) hl
  obtain ⟨d1, d2⟩ := tr_dv (a.length + b.length) a b oa.fits ob.fits e (Nat.le_refl _)
  obtain ⟨m1, m2, m3⟩ := addRs_mk (trGo (a.length + b.length) a b).1 [] MK.nil h1
  obtain ⟨n1, n2, n3⟩ := addRs_mk (trGo (a.length + b.length) a b).2 [] MK.nil h2
  have z0 : fromS ([] : List Part) = 0 := rfl
  have z1 : toS ([] : List Part) = 0 := rfl
  have r1 := fromS_rev (trR1 a b); have r2 := fromS_rev (trR2 a b)
  have R1 : trR1 a b = addRs [] (trGo (a.length + b.length) a b).1 := rfl
  have R2 : trR2 a b = addRs [] (trGo (a.length + b.length) a b).2 := rfl
  have f1 : fromS (trR1 a b).reverse = toS b := by rw [r1.1, R1]; omega
  have f2 : fromS (trR2 a b).reverse = toS a := by rw [r2.1, R2]; omega
  have run : ∀ {β : Type} (ι : Int → β) (l : List β), (l.length : Int) = fromS a → (runS ι (trR1 a b).reverse (runS ι b l).1).1 = (runS ι (trR2 a b).reverse (runS ι a l).1).1 := fun ι l hl => by
    rw [R1, R2, maker_run ι h1, maker_run ι h2]; exact (key ι l hl).2.2.2.2
  have g1 : FitsU (trR1 a b).reverse := fun p hp => m1.fit p (List.mem_reverse.1 hp)
  have g2 : FitsU (trR2 a b).reverse := fun p hp => n1.fit p (List.mem_reverse.1 hp)
  refine ⟨m1, n1, f1, f2, ?_, by rw [R1, (maker_dv h1).2, d1], by rw [R1, (maker_dv h1).1, d2], run⟩
  have l1 := (runS_len id b (List.replicate (fromS a).toNat 0) ob.1 (by omega)).1
  have l2 := (runS_len id a (List.replicate (fromS a).toNat 0) oa.1 (by omega)).1
  have l3 := (runS_len id _ (runS id b (List.replicate (fromS a).toNat 0)).1 g1 (by omega)).1
  have l4 := (runS_len id _ (runS id a (List.replicate (fromS a).toNat 0)).1 g2 (by omega)).1
  rw [run id _ hl] at l3
  omega
theorem tr_law_ok {a b : List Part} (oa : Ok a) (ob : Ok b) (e : fromS a = fromS b) (h : toS (trR1 a b).reverse ≤ 1099511627776) :
    trE a b = 0 ∧ trF1 a b = (trR1 a b).reverse ∧ trF2 a b = (trR2 a b).reverse ∧ Ok (trF1 a b) ∧ Ok (trF2 a b) := by
  obtain ⟨m1, m2, f1, f2, t, _⟩ := tr_law oa ob e
  have r1 := fromS_rev (trR1 a b); have r2 := fromS_rev (trR2 a b)
  have o1 : Ok (trR1 a b).reverse := m1.ok (by have := ob.2.2.2; omega) (by omega)
  have o2 : Ok (trR2 a b).reverse := m2.ok (by have := oa.2.2.2; omega) (by omega)
  have nl : ¬ trLong a b := by
    unfold trLong
    rw [ok_iff.2 o1, ok_iff.2 o2]; simp
  obtain ⟨c1, c2, c3⟩ := tr_ok (trBad_iff.2 ⟨oa, ob, e⟩) nl
  exact ⟨c1, c2, c3, by rw [c2]; exact o1, by rw [c3]; exact o2⟩
theorem tr_long_law {a b : List Part} (oa : Ok a) (ob : Ok b) (e : fromS a = fromS b) (h : 1099511627776 < toS (trR1 a b).reverse) : trE a b = 4 := by
  have nl : trLong a b := by
    unfold trLong
    left
    refine not_ok fun ho => ?_
    have := ho.2.2.2; omega
  exact (tr_long (trBad_iff.2 ⟨oa, ob, e⟩) nl).1
end Go.SK

set_option linter.unusedVariables false
set_option linter.unusedSimpArgs false
set_option maxRecDepth 100000
namespace Go.SK
open Go
def genL (n : Nat) : List Gen := (List.range n).map Sum.inl
theorem genL_len (n : Nat) : (genL n).length = n := by simp [genL]
theorem genL_inl (n : Nat) : inlS (genL n) := fun x hx => by
  obtain ⟨i, _, rfl⟩ := List.mem_map.1 hx
  exact ⟨i, rfl⟩
theorem genL_nodup (n : Nat) : (genL n).Nodup := by
  unfold genL
  rw [List.nodup_iff_pairwise_ne, List.pairwise_map]
  exact (List.nodup_iff_pairwise_ne.1 List.nodup_range).imp fun h e => h (by injection e)
theorem form_unique {a b : List Part} (oa : Ok a) (ob : Ok b) (e : fromS a = fromS b)
    (h : ∀ l : List Gen, (l.length : Int) = fromS a → (runS Sum.inr a l).1 = (runS Sum.inr b l).1) : a = b := by
  have pa := fromS_posU oa.1
  have hl : ((genL (fromS a).toNat).length : Int) = fromS a := by rw [genL_len]; omega
  exact same_form a b (genL (fromS a).toNat) oa.1 ob.1 oa.2.1 ob.2.1 hl (by omega) (genL_inl _) (genL_nodup _) (h _ hl)
/-- Composition of three. -/
theorem anyway_law {a b c : List Part} (oa : Ok a) (ob : Ok b) (oc : Ok c) (e1 : toS a = fromS b) (e2 : toS b = fromS c) :
    compE (compF a b) c = 0 ∧ compE a (compF b c) = 0 ∧ compF (compF a b) c = compF a (compF b c) := by
  obtain ⟨_, o1, f1, t1, r1⟩ := comp_law oa ob e1
  obtain ⟨_, o2, f2, t2, r2⟩ := comp_law ob oc e2
  obtain ⟨g1, o3, f3, t3, r3⟩ := comp_law o1 oc (by omega)
  obtain ⟨g2, o4, f4, t4, r4⟩ := comp_law oa o2 (by omega)
  have ha := fromS_posU oa.1
  refine ⟨g1, g2, form_unique o3 o4 (by omega) fun l hl => ?_⟩
  have hl1 : (l.length : Int) = fromS a := by omega
  rw [r3 _ _ (by omega), r1 _ _ hl1, r4 _ _ hl1, r2 _ _ (by rw [(runS_len Sum.inr a l oa.1 (by omega)).1]; exact e1)]
/-- The two ways around. -/
theorem square_law {a b : List Part} (oa : Ok a) (ob : Ok b) (e : fromS a = fromS b) (h : toS (trR1 a b).reverse ≤ 1099511627776) :
    compE a (trF2 a b) = 0 ∧ compE b (trF1 a b) = 0 ∧ compF a (trF2 a b) = compF b (trF1 a b) ∧ Ok (compF a (trF2 a b)) ∧ fromS (compF a (trF2 a b)) = fromS a := by
  obtain ⟨m1, m2, f1, f2, t, _, _, r⟩ := tr_law oa ob e
  obtain ⟨c1, c2, c3, o1, o2⟩ := tr_law_ok oa ob e h
  rw [← c2] at f1 r t; rw [← c3] at f2 r t
  obtain ⟨g1, p1, q1, s1, u1⟩ := comp_law oa o2 f2.symm
  obtain ⟨g2, p2, q2, s2, u2⟩ := comp_law ob o1 f1.symm
  refine ⟨g1, g2, form_unique p1 p2 (by omega) fun l hl => ?_, p1, q1⟩
  rw [u1 _ _ (by omega), u2 _ _ (by omega)]
  exact (r _ _ (by omega)).symm
end Go.SK

set_option linter.unusedVariables false
set_option linter.unusedSimpArgs false
set_option maxRecDepth 100000
namespace Go.SK
open Go
section
variable {p : Part} {r : List Part} {i to : Int} {ah : Bool}
theorem cur_put (h : p.kind = 2 ∧ (0 < i ∨ ah = true)) : curGo (p :: r) i ah to = curGo r i ah (to + p.n) := by rw [curGo, if_pos h]
theorem cur_zero (h : ¬ (p.kind = 2 ∧ (0 < i ∨ ah = true))) (hi : i = 0) : curGo (p :: r) i ah to = to := by rw [curGo, if_neg h, if_pos hi]
theorem cur_part (h : ¬ (p.kind = 2 ∧ (0 < i ∨ ah = true))) (hi : ¬ i = 0) (hl : i < p.n) : curGo (p :: r) i ah to = if p.kind = 1 then to + i else to := by
  have e : minI p.n i = i := by unfold minI; rw [if_pos hl]
  rw [curGo, if_neg h, if_neg hi, e, if_pos hl]
theorem cur_next (h : ¬ (p.kind = 2 ∧ (0 < i ∨ ah = true))) (hi : ¬ i = 0) (hl : ¬ i < p.n) : curGo (p :: r) i ah to = curGo r (i - p.n) ah (if p.kind = 1 then to + p.n else to) := by
  have e : minI p.n i = p.n := by unfold minI; rw [if_neg hl]
  rw [curGo, if_neg h, if_neg hi, e, if_neg (by omega)]
end
theorem cur_in : ∀ (e : List Part) (i to : Int) (ah : Bool), FitsU e → 0 ≤ i → to ≤ curGo e i ah to ∧ curGo e i ah to ≤ to + toS e
  | [], i, to, ah, _, _ => by simp [curGo, toS]
  | p :: r, i, to, ah, h, hi => by
    have hp := h p (.head _)
    have h1 := hp.1
    have hr := fromS_posU h.tail
    by_cases c : p.kind = 2 ∧ (0 < i ∨ ah = true)
    · rw [cur_put c]
      have := cur_in r i (to + p.n) ah h.tail hi
      simp only [toS]; rw [if_neg (by omega)]; omega
    · by_cases z : i = 0
      · rw [cur_zero c z]; simp only [toS]; split <;> omega
      · by_cases l : i < p.n
        · rw [cur_part c z l]; simp only [toS]; split <;> split <;> omega
        · rw [cur_next c z l]
          have := cur_in r (i - p.n) (if p.kind = 1 then to + p.n else to) ah h.tail (by omega)
          have hk : ¬ p.kind = 2 := fun k => c ⟨k, .inl (by omega)⟩
          simp only [toS]
          split at this <;> split <;> omega
theorem cur_ahead : ∀ (e : List Part) (i to : Int), FitsU e → 0 ≤ i → curGo e i false to ≤ curGo e i true to
  | [], i, to, _, _ => by simp [curGo]
  | p :: r, i, to, h, hi => by
    have h1 := (h p (.head _)).1
    by_cases z : i = 0
    · rw [cur_zero (by rintro ⟨_, x | x⟩ <;> first | omega | cases x) z]
      exact (cur_in (p :: r) i to true h hi).1
    · by_cases k : p.kind = 2
      · rw [cur_put ⟨k, .inl (by omega)⟩, cur_put ⟨k, .inl (by omega)⟩]
        exact cur_ahead r i _ h.tail hi
      · by_cases l : i < p.n
        · rw [cur_part (fun c => k c.1) z l, cur_part (fun c => k c.1) z l]; exact Int.le_refl _
        · rw [cur_next (fun c => k c.1) z l, cur_next (fun c => k c.1) z l]
          exact cur_ahead r _ _ h.tail (by omega)
theorem cur_mono : ∀ (e : List Part) (i k to : Int) (ah : Bool), FitsU e → 0 ≤ i → i ≤ k → curGo e i ah to ≤ curGo e k ah to
  | [], i, k, to, ah, _, _, _ => by simp [curGo]
  | p :: r, i, k, to, ah, h, hi, hk => by
    have h1 := (h p (.head _)).1
    by_cases c : p.kind = 2 ∧ (0 < i ∨ ah = true)
    · rw [cur_put c, cur_put ⟨c.1, c.2.imp (fun x => by omega) id⟩]
      exact cur_mono r i k _ ah h.tail hi hk
    · by_cases z : i = 0
      · rw [cur_zero c z]; exact (cur_in (p :: r) k to ah h (by omega)).1
      · have hk2 : ¬ p.kind = 2 := fun x => c ⟨x, .inl (by omega)⟩
        have c' : ¬ (p.kind = 2 ∧ (0 < k ∨ ah = true)) := fun x => hk2 x.1
        by_cases l : i < p.n
        · rw [cur_part c z l]
          by_cases l' : k < p.n
          · rw [cur_part c' (by omega) l']; split <;> omega
          · rw [cur_next c' (by omega) l']
            have := (cur_in r (k - p.n) (if p.kind = 1 then to + p.n else to) ah h.tail (by omega)).1
            split at this <;> split <;> omega
        · rw [cur_next c z l, cur_next c' (by omega) (by omega)]
          exact cur_mono r _ _ _ ah h.tail (by omega) (by omega)
end Go.SK

set_option linter.unusedVariables false
set_option linter.unusedSimpArgs false
set_option maxRecDepth 100000
namespace Go.SK
open Go
theorem fits_nil : Fits [] := fun p hp => by cases hp
theorem compE_z {a b : List Part} (h : compE a b = 0) : ¬ compBad a b ∧ (sizesF (compR a b).reverse).2.2 = true ∧ compF a b = (compR a b).reverse := by
  unfold compE at h
  split at h
  · cases h
  · split at h
    · rename_i h1 h2; exact ⟨h1, h2, (comp_ok h1 h2).2⟩
    · cases h
theorem compF_fits (a b : List Part) : Fits (compF a b) := by
  by_cases h : compE a b = 0
  · obtain ⟨_, h2, h3⟩ := compE_z h
    rw [h3]; exact (ok_iff.1 h2).fits
  · rw [compF, if_neg h]; exact fits_nil
theorem trE_z {a b : List Part} (h : trE a b = 0) : ¬ trBad a b ∧ ¬ trLong a b ∧ trF1 a b = (trR1 a b).reverse ∧ trF2 a b = (trR2 a b).reverse := by
  unfold trE at h
  split at h
  · cases h
  · split at h
    · cases h
    · rename_i h1 h2; exact ⟨h1, h2, (tr_ok h1 h2).2⟩
theorem trF_fits (a b : List Part) : Fits (trF1 a b) ∧ Fits (trF2 a b) := by
  by_cases h : trE a b = 0
  · obtain ⟨_, h2, h3, h4⟩ := trE_z h
    unfold trLong at h2
    rw [h3, h4]
    refine ⟨(ok_iff.1 ?_).fits, (ok_iff.1 ?_).fits⟩
    · cases hh : (sizesF (trR1 a b).reverse).2.2 <;> simp_all
    · cases hh : (sizesF (trR2 a b).reverse).2.2 <;> simp_all
  · rw [trF1, if_neg h, trF2, if_neg h]; exact ⟨fits_nil, fits_nil⟩
theorem invE_z {e : List Part} {s : ByteArray} (h : invE e s = 0) : ¬ applyBad e s ∧ (sizesF (invR e s).reverse).2.2 = true ∧ invF e s = (invR e s).reverse := by
  unfold invE at h
  split at h
  · cases h
  · split at h
    · rename_i h1 h2; exact ⟨h1, h2, (inv_ok h1 h2).2⟩
    · cases h
theorem invF_fits (e : List Part) (s : ByteArray) : Fits (invF e s) := by
  by_cases h : invE e s = 0
  · obtain ⟨_, h2, h3⟩ := invE_z h
    rw [h3]; exact (ok_iff.1 h2).fits
  · rw [invF, if_neg h]; exact fits_nil
theorem addRs_len : ∀ (ps r : List Part), (addRs r ps).length ≤ r.length + ps.length
  | [], r => by simp [addRs]
  | p :: ps, r => by
    rw [addRs_cons]
    have h1 := addRs_len ps (addR r p)
    have h2 : ∀ (r : List Part), (addR r p).length ≤ r.length + 1 := by
      intro r
      by_cases hn : p.n = 0
      · rw [addR_zero hn]; omega
      · induction r with
        | nil => rw [addR_nil hn]; simp
        | cons q r ih =>
          by_cases c1 : q.kind = p.kind
          · rw [addR_more hn c1]; simp
          · by_cases c2 : p.kind ≠ 2 ∨ q.kind ≠ 3
            · rw [addR_push hn c1 c2]; simp
            · rw [addR_deep hn c1 c2]; simp only [List.length_cons]; omega
    have := h2 r
    simp only [List.length_cons]; omega
theorem compGo_len : ∀ (f : Nat) (xs ys : List Part), (compGo f xs ys).length ≤ f
  | 0, xs, ys => by simp [compGo]
  | f + 1, xs, ys => by
    unfold compGo
    split
    · simp
    · split
      · split
        · simp only [List.length_cons]; have := compGo_len f ‹_› ys; omega
        · simp
      · split
        · split
          · simp only [List.length_cons]; have := compGo_len f xs ‹_›; omega
          · simp
        · split
          · rename_i x xs' y ys' _ _ _
            have := compGo_len f (restP x xs' (minI x.n y.n)) (restP y ys' (minI x.n y.n))
            rw [List.length_append]
            split
            · simp only [List.length_singleton]; omega
            · split <;> simp only [List.length_singleton, List.length_nil] <;> omega
          · simp
theorem compF_len (a b : List Part) : (compF a b).length ≤ a.length + b.length := by
  unfold compF
  split
  · have h1 := addRs_len (compGo (a.length + b.length) a b) []
    have h2 := compGo_len (a.length + b.length) a b
    rw [List.length_reverse]; unfold compR; simp only [List.length_nil] at h1; omega
  · simp
theorem invGo_len : ∀ (e : List Part) (l : List Int), (invGo e l).length = e.length
  | [], _ => rfl
  | p :: r, l => by
    unfold invGo
    split
    · simp [invGo_len r]
    · split <;> simp [invGo_len r]
theorem invF_len (e : List Part) (s : ByteArray) : (invF e s).length ≤ e.length := by
  unfold invF
  split
  · have h1 := addRs_len (invGo e (dec s)) []
    have h2 := invGo_len e (dec s)
    rw [List.length_reverse]; unfold invR; simp only [List.length_nil] at h1; omega
  · simp
theorem trGo_len : ∀ (f : Nat) (xs ys : List Part), (trGo f xs ys).1.length ≤ f ∧ (trGo f xs ys).2.length ≤ f
  | 0, xs, ys => by simp [trGo]
  | f + 1, xs, ys => by
    unfold trGo
    split
    · simp
    · split
      · split
        · rename_i xs' _ _
          have := trGo_len f xs' ys; simp only [List.length_cons]; omega
        · simp
      · split
        · split
          · rename_i ys' _ _
            have := trGo_len f xs ys'; simp only [List.length_cons]; omega
          · simp
        · split
          · rename_i x xs' y ys' _ _ _
            have := trGo_len f (restP x xs' (minI x.n y.n)) (restP y ys' (minI x.n y.n))
            simp only [List.length_append]
            constructor
            · split <;> simp only [List.length_singleton, List.length_nil] <;> omega
            · split <;> simp only [List.length_singleton, List.length_nil] <;> omega
          · simp
theorem trF_len (a b : List Part) : (trF1 a b).length ≤ a.length + b.length ∧ (trF2 a b).length ≤ a.length + b.length := by
  have h2 := trGo_len (a.length + b.length) a b
  unfold trF1 trF2
  split
  · have h1 := addRs_len (trGo (a.length + b.length) a b).1 []
    have h3 := addRs_len (trGo (a.length + b.length) a b).2 []
    simp only [List.length_reverse]
    unfold trR1 trR2; simp only [List.length_nil] at h1 h3; omega
  · simp
end Go.SK

set_option linter.unusedVariables false
set_option linter.unusedSimpArgs false
set_option maxRecDepth 100000
namespace Go.SK
open Go
/-! ### Edits that keep all -/
def allKeep (e : List Part) : Prop := ∀ p ∈ e, p.kind = 1
theorem allKeep.tail {p : Part} {r : List Part} (h : allKeep (p :: r)) : allKeep r := fun q hq => h q (.tail _ hq)
theorem allKeep.cons {p : Part} {r : List Part} (h : p.kind = 1) (h' : allKeep r) : allKeep (p :: r) := fun q hq => (List.mem_cons.1 hq).elim (fun x => x ▸ h) (h' q)
theorem allKeep.nil : allKeep [] := fun p hp => by cases hp
theorem allKeep.append {a b : List Part} (h : allKeep a) (h' : allKeep b) : allKeep (a ++ b) := fun q hq => (List.mem_append.1 hq).elim (h q) (h' q)
theorem allKeep.rest {y : Part} {ys : List Part} (h : allKeep (y :: ys)) (n : Int) : allKeep (restP y ys n) := by
  unfold restP
  split
  · exact h.tail
  · exact allKeep.cons (h y (.head _)) h.tail
section
variable {β : Type} (ι : Int → β)
theorem run_keep : ∀ (e : List Part) (l : List β), FitsU e → allKeep e → (l.length : Int) = fromS e → (runS ι e l).1 = l
  | [], l, _, _, hl => by
    simp only [fromS] at hl
    have : l = [] := List.length_eq_zero_iff.1 (by omega)
    rw [this]; rfl
  | p :: r, l, hf, hk, hl => by
    have h1 := (hf p (.head _)).1
    have hk1 := hk p (.head _)
    have hp := fromS_posU hf.tail
    simp only [fromS, if_neg (show ¬ p.kind = 2 by omega)] at hl
    rw [runS_cons, (ot_keep ι hk1 l).1, (ot_keep ι hk1 l).2]
    show _ ++ _ = _
    rw [run_keep r (l.drop p.n.toNat) hf.tail hk.tail (by rw [List.length_drop]; omega), List.take_append_drop]
end
theorem tr_keep2 : ∀ (f : Nat) (xs ys : List Part), allKeep ys → allKeep (trGo f xs ys).2
  | 0, xs, ys, h => by simp only [trGo]; exact allKeep.nil
  | f + 1, xs, ys, h => by
    unfold trGo
    split
    · exact allKeep.nil
    · split
      · split
        · rename_i xs' _ _
          exact allKeep.cons rfl (tr_keep2 f _ ys h)
        · exact allKeep.nil
      · split
        · rename_i hy
          cases ys with
          | nil => exact allKeep.nil
          | cons y ys' => exact absurd hy (by have := h y (.head _); simp only [kindL]; omega)
        · split
          · rename_i x xs' y ys' _ _ _
            refine allKeep.append ?_ (tr_keep2 f _ _ (h.rest _))
            split
            · exact allKeep.cons (h y (.head _)) allKeep.nil
            · exact allKeep.nil
          · exact allKeep.nil
theorem keep_one {n : Int} (h : 0 ≤ n) (h1 : n ≤ 1099511627776) : replE n 0 0 ⟨#[]⟩ = 0 ∧ Ok (replF n 0 0 ⟨#[]⟩) ∧ fromS (replF n 0 0 ⟨#[]⟩) = n ∧ toS (replF n 0 0 ⟨#[]⟩) = n ∧ allKeep (replF n 0 0 ⟨#[]⟩) := by
  have hb : ¬ replBad n 0 0 ⟨#[]⟩ := by
    have : rcount ⟨#[]⟩ = 0 := by rw [rcount_dec]; rfl
    have hv := valid_empty
    unfold replBad; rw [this, hv]; simp only [Bool.true_eq_false, or_false, false_or]; omega
  obtain ⟨o, f, t⟩ := repl_ok hb
  have : rcount ⟨#[]⟩ = 0 := by rw [rcount_dec]; rfl
  refine ⟨if_neg hb, o, f, by rw [t, this]; omega, ?_⟩
  unfold replF
  rw [if_neg hb]
  have e : addRs [] [keepP 0, putP ⟨#[]⟩, dropP 0, keepP (n - 0 - 0)] = addR [] (keepP n) := by
    have h1 : addR [] (keepP 0) = [] := addR_zero rfl
    have h2 : addR [] (putP ⟨#[]⟩) = [] := addR_zero (by show ((rcount ⟨#[]⟩ : Nat) : Int) = 0; rw [this]; rfl)
    have h3 : addR [] (dropP 0) = [] := addR_zero rfl
    rw [addRs_cons, h1, addRs_cons, h2, addRs_cons, h3, addRs_cons, show n - 0 - 0 = n by omega]; rfl
  rw [e]
  by_cases c : n = 0
  · rw [addR_zero (show (keepP n).n = 0 from c)]; exact allKeep.nil
  · rw [addR_nil (show ¬ (keepP n).n = 0 from c)]; exact allKeep.cons rfl allKeep.nil
/-- An edit that changes nothing is nothing to others. -/
theorem nothing_law {e same fin : List Part} (oe : Ok e) (hs : same = replF (fromS e) 0 0 ⟨#[]⟩) (hf : fin = replF (toS e) 0 0 ⟨#[]⟩) :
    replE (fromS e) 0 0 ⟨#[]⟩ = 0 ∧ replE (toS e) 0 0 ⟨#[]⟩ = 0 ∧ compE same e = 0 ∧ compE e fin = 0 ∧ trE e same = 0 ∧ compF same e = e ∧ compF e fin = e ∧ trF1 e same = e ∧ trF2 e same = fin := by
  have hp := fromS_posU oe.1
  obtain ⟨a1, a2, a3, a4, a5⟩ := keep_one hp.1 oe.2.2.1
  obtain ⟨b1, b2, b3, b4, b5⟩ := keep_one hp.2 oe.2.2.2
  rw [← hs] at a2 a3 a4 a5
  rw [← hf] at b2 b3 b4 b5
  obtain ⟨c1, c2, c3, c4, c5⟩ := comp_law a2 oe a4
  obtain ⟨d1, d2, d3, d4, d5⟩ := comp_law oe b2 b3.symm
  obtain ⟨m1, m2, f1, f2, t, _, _, r⟩ := tr_law oe a2 a3.symm
  have hk : allKeep (trGo (e.length + same.length) e same).2 := tr_keep2 _ _ _ a5
  obtain ⟨g1, g2, g3, g4, _⟩ := tr_run (β := Gen) Sum.inr (e.length + same.length) e same (genL (fromS e).toNat) oe.fits a2.fits a3.symm (Nat.le_refl _) (by rw [genL_len]; omega)
  have run2 : ∀ l : List Gen, (l.length : Int) = toS e → (runS Sum.inr (trR2 e same).reverse l).1 = l := fun l hl => by
    unfold trR2
    rw [maker_run Sum.inr g2 l]
    exact run_keep Sum.inr _ l g2 hk (by omega)
  have t2 : toS (trR2 e same).reverse = toS e := by
    have hl : ((genL (toS e).toNat).length : Int) = toS e := by rw [genL_len]; omega
    have h1 := (runS_len Sum.inr (trR2 e same).reverse (genL (toS e).toNat) (by intro q hq; exact m2.fit q (List.mem_reverse.1 hq)) (by omega)).1
    rw [run2 _ hl] at h1
    omega
  obtain ⟨h1, h2, h3, h4, h5⟩ := tr_law_ok oe a2 a3.symm (by rw [t, t2]; exact oe.2.2.2)
  refine ⟨a1, b1, c1, d1, h1, form_unique c2 oe (by omega) fun l hl => ?_, form_unique d2 oe (by omega) fun l hl => ?_, form_unique h4 oe (by rw [h2, f1]; exact a4) fun l hl => ?_, form_unique h5 b2 (by rw [h3, f2]; exact b3.symm) fun l hl => ?_⟩
  · have hl1 : (l.length : Int) = fromS same := by omega
    rw [c5 _ _ hl1, run_keep Sum.inr same l a2.1 a5 hl1]
  · have hl1 : (l.length : Int) = fromS e := by omega
    rw [d5 _ _ hl1, run_keep Sum.inr fin _ b2.1 b5 (by rw [(runS_len Sum.inr e l oe.1 (by omega)).1]; exact b3.symm)]
  · have hl1 : (l.length : Int) = fromS e := by rw [hl, h2, f1]; exact a4
    have := r Sum.inr l hl1
    rw [run_keep Sum.inr same l a2.1 a5 (by omega), run2 _ (runS_len Sum.inr e l oe.1 (by omega)).1] at this
    rw [h2]; exact this
  · have hl1 : (l.length : Int) = toS e := by rw [hl, h3, f2]
    rw [h3, run2 l hl1, run_keep Sum.inr fin l b2.1 b5 (by omega)]
/-! ### The one form -/
theorem filter_all {e : List Part} (h : Fits e) : e.filter fitsB = e := List.filter_eq_self.2 h
theorem norm_ok {e : List Part} (oe : Ok e) : normF e = e := by
  unfold normF
  rw [filter_all oe.fits]
  obtain ⟨m, f, t⟩ := addRs_mk e [] MK.nil oe.1
  have f0 : fromS ([] : List Part) = 0 := rfl
  have t0 : toS ([] : List Part) = 0 := rfl
  have hm := m.ok (by rw [f, f0]; have := oe.2.2.1; omega) (by rw [t, t0]; have := oe.2.2.2; omega)
  exact form_unique hm oe (by rw [(fromS_rev _).1, f, f0]; omega) fun l hl => congrArg Prod.fst (maker_run Sum.inr oe.1 l)
theorem compE_cases {a b : List Part} (oa : Ok a) (ob : Ok b) : (compE a b = 0 ∧ toS a = fromS b) ∨ (compE a b = 30 ∧ toS a ≠ fromS b) := by
  by_cases h : toS a = fromS b
  · exact .inl ⟨(comp_law oa ob h).1, h⟩
  · exact .inr ⟨(comp_bad (by rw [← Decidable.not_not (p := compBad a b), compBad_iff]; exact fun x => h x.2.2)).1, h⟩
theorem trE_cases {a b : List Part} (oa : Ok a) (ob : Ok b) : (trE a b = 0 ∧ fromS a = fromS b ∧ Ok (trF1 a b) ∧ Ok (trF2 a b) ∧ fromS (trF1 a b) = toS b ∧ fromS (trF2 a b) = toS a ∧ toS (trF1 a b) = toS (trF2 a b)) ∨ (trE a b = 30 ∧ fromS a ≠ fromS b) ∨ (trE a b = 4 ∧ fromS a = fromS b) := by
  by_cases h : fromS a = fromS b
  · obtain ⟨m1, m2, f1, f2, t, _, _, r⟩ := tr_law oa ob h
    by_cases hl : toS (trR1 a b).reverse ≤ 1099511627776
    · obtain ⟨h1, h2, h3, h4, h5⟩ := tr_law_ok oa ob h hl
      exact .inl ⟨h1, h, h4, h5, by rw [h2]; exact f1, by rw [h3]; exact f2, by rw [h2, h3]; exact t⟩
    · exact .inr (.inr ⟨tr_long_law oa ob h (by omega), h⟩)
  · exact .inr (.inl ⟨(tr_bad (by rw [← Decidable.not_not (p := trBad a b), trBad_iff]; exact fun x => h x.2.2)).1, h⟩)
/-! ### What an edit weighs -/
def dropN : List Part → Int
  | [] => 0
  | p :: r => (if p.kind = 3 then p.n else 0) + dropN r
theorem weightGo_eq : ∀ (e : List Part) (a b : Int), Fits e → weightGo e a b = (a + putsN e, b + dropN e)
  | [], a, b, _ => by simp [weightGo, putsN, dropN]
  | p :: r, a, b, h => by
    rw [weightGo, if_pos (h p (.head _)), weightGo_eq r _ _ h.tail]
    simp only [putsN, dropN]
    congr 1
    · split <;> omega
    · split <;> omega
theorem weight_ok {e : List Part} (h : Fits e) : weightF e = (putsN e, dropN e) := by
  unfold weightF; rw [weightGo_eq e 0 0 h]; simp
theorem dv_drop : ∀ {e : List Part}, FitsU e → ((dv e).count true : Int) = dropN e
  | [], _ => rfl
  | p :: r, h => by
    have h1 := (h p (.head _)).1
    have ih := dv_drop h.tail
    rw [dv, List.count_append]
    simp only [dropN]
    rcases (h p (.head _)).kinds with k | k | k
    · unfold dvP; rw [if_pos k, if_neg (by omega), List.count_replicate]; simp only [Bool.false_eq_true, BEq.rfl, beq_iff_eq, if_false]; omega
    · unfold dvP; rw [if_neg (by omega), if_neg (by omega), if_neg (by omega), List.count_nil]; omega
    · unfold dvP; rw [if_neg (by omega), if_pos k, if_pos k, List.count_replicate]; simp only [BEq.rfl, if_true]; omega
/-- The flags behind an edit: as many are gone as it drops at most. -/
theorem ot_count {p : Part} (hp : FitU p) (l : List Bool) (h : (if p.kind = 2 then 0 else p.n) ≤ (l.length : Int)) : (l.count true : Int) ≤ ((ot fls p l).count true : Int) + ((rs p l).count true : Int) + (if p.kind = 3 then p.n else 0) := by
  have h1 := hp.1
  rcases hp.kinds with k | k | k
  · rw [(ot_keep fls k l).1, (ot_keep fls k l).2, if_neg (by omega), ← Int.natCast_add, ← List.count_append, List.take_append_drop]; omega
  · rw [(ot_put fls k l).2, if_neg (by omega)]; omega
  · rw [(ot_drop fls k l).1, (ot_drop fls k l).2, if_pos k]
    have h2 : (l.take p.n.toNat).count true ≤ (l.take p.n.toNat).length := List.count_le_length
    have h3 : l.count true = (l.take p.n.toNat).count true + (l.drop p.n.toNat).count true := by rw [← List.count_append, List.take_append_drop]
    rw [List.length_take] at h2
    simp only [List.count_nil]; omega
theorem run_count : ∀ (e : List Part) (l : List Bool), FitsU e → fromS e ≤ l.length → (l.count true : Int) ≤ ((runS fls e l).1.count true : Int) + ((runS fls e l).2.count true : Int) + dropN e ∧ (fromS e = l.length → (runS fls e l).2 = [])
  | [], l, _, _ => by
    refine ⟨by simp [runS, dropN], fun h => ?_⟩
    simp only [fromS] at h
    exact List.length_eq_zero_iff.1 (by simp only [runS]; omega)
  | p :: r, l, h, hl => by
    have hp := h p (.head _)
    have hr := fromS_posU h.tail
    simp only [fromS] at hl
    have h1 := ot_count hp l (by omega)
    have h2 := (ot_len fls hp (l := l) (by omega)).2
    have h3 := run_count r (rs p l) h.tail (by omega)
    rw [runS_cons]
    simp only [dropN]
    refine ⟨?_, fun e => h3.2 (by simp only [fromS] at e; omega)⟩
    rw [List.count_append]
    have := h3.1
    omega
/-- Behind a composed edit. -/
theorem through_law {a b c : List Part} (oa : Ok a) (ob : Ok b) (oc : Ok c) (e1 : fromS a = fromS b) (e2 : toS b = fromS c) (hx : trE a b = 0)
    (hn : toS a ≤ 400) (hb : toS b ≤ 400) (hc : toS c ≤ 400) (ha : fromS a ≤ 400) :
    trE (trF1 a b) c = 0 ∧ trE a (compF b c) = 0 ∧ fromS (trF1 a (compF b c)) = fromS (trF1 (trF1 a b) c) ∧ weightF (trF1 (trF1 a b) c) = weightF (trF1 a (compF b c)) ∧ Ok (trF1 a (compF b c)) ∧ Ok (trF1 (trF1 a b) c) := by
  have pa := fromS_posU oa.1
  have pb := fromS_posU ob.1
  have pc := fromS_posU oc.1
  have hpa := toS_puts oa.1
  obtain ⟨g1, o1, f1, t1, r1⟩ := comp_law ob oc e2
  obtain ⟨_, _, hx1, hx2⟩ := trE_z hx
  obtain ⟨m1, m2, x1, x2, x3, x4, x5, _⟩ := tr_law oa ob e1
  have hpx : putsN a ≤ toS a := by
    have : ∀ {e : List Part}, FitsU e → putsN e ≤ toS e := by
      intro e
      induction e with
      | nil => intro _; simp [putsN, toS]
      | cons p r ih =>
        intro h
        have h1 := (h p (.head _)).1
        have := ih h.tail
        simp only [putsN, toS]
        split <;> split <;> omega
    exact this oa.1
  have ot1 : ∀ {x : List Part}, MK x → toS x.reverse ≤ fromS x.reverse + putsN x.reverse := fun h => (toS_puts (e := _) (fun q hq => h.fit q (List.mem_reverse.1 hq))).1
  have l1 := ot1 m1
  rw [x1, x4] at l1
  obtain ⟨y1, y2, y3, y4, y5⟩ := tr_law_ok oa ob e1 (by omega)
  have fx : fromS (trF1 a b) = toS b := by rw [y2]; exact x1
  obtain ⟨n1, n2, z1, z2, z3, z4, z5, _⟩ := tr_law y4 oc (by omega)
  have l2 := ot1 n1
  rw [z1, z4, y2, x4] at l2
  obtain ⟨w1, w2, w3, w4, w5⟩ := tr_law_ok y4 oc (by omega) (by rw [y2]; omega)
  obtain ⟨k1, k2, v1, v2, v3, v4, v5, _⟩ := tr_law oa o1 (by omega)
  have l3 := ot1 k1
  rw [v1, v4] at l3
  obtain ⟨u1, u2, u3, u4, u5⟩ := tr_law_ok oa o1 (by omega) (by omega)
  refine ⟨w1, u1, by rw [u2, v1, w2, z1]; exact t1, ?_, u4, w4⟩
  rw [weight_ok w4.fits, weight_ok u4.fits, ← dv_drop w4.1, ← dv_drop u4.1, w2, u2, z4, v4, z5, v5, y2, x4, x5, r1 fls (dv a) (by rw [dv_len oa.1]; omega)]
/-! ### Cursors -/
theorem cur_shift : ∀ (e : List Part) (i : Int) (ah : Bool) (t : Int), curGo e i ah t = t + curGo e i ah 0
  | [], i, ah, t => by simp [curGo]
  | p :: r, i, ah, t => by
    by_cases c : p.kind = 2 ∧ (0 < i ∨ ah = true)
    · rw [cur_put c, cur_put c, cur_shift r i ah (t + p.n), cur_shift r i ah (0 + p.n)]; omega
    · by_cases z : i = 0
      · rw [cur_zero c z, cur_zero c z]; omega
      · by_cases l : i < p.n
        · rw [cur_part c z l, cur_part c z l]; split <;> omega
        · rw [cur_next c z l, cur_next c z l, cur_shift r _ ah (if p.kind = 1 then t + p.n else t), cur_shift r _ ah (if p.kind = 1 then 0 + p.n else 0)]; split <;> omega
def noDrop (e : List Part) : Prop := ∀ p ∈ e, p.kind ≠ 3
theorem noDrop.tail {p : Part} {r : List Part} (h : noDrop (p :: r)) : noDrop r := fun q hq => h q (.tail _ hq)
theorem noDrop.cons {p : Part} {r : List Part} (h : p.kind ≠ 3) (h' : noDrop r) : noDrop (p :: r) := fun q hq => (List.mem_cons.1 hq).elim (fun x => x ▸ h) (h' q)
theorem noDrop.rest {y : Part} {ys : List Part} (h : noDrop (y :: ys)) (n : Int) : noDrop (restP y ys n) := by
  unfold restP
  split
  · exact h.tail
  · exact noDrop.cons (h y (.head _)) h.tail
theorem noDrop_of {e : List Part} (h : FitsU e) (hd : dropN e ≤ 0) : noDrop e := by
  have hz : ∀ {e : List Part}, FitsU e → 0 ≤ dropN e := by
    intro e
    induction e with
    | nil => intro _; simp [dropN]
    | cons p r ih => intro h; have h1 := (h p (.head _)).1; have := ih h.tail; simp only [dropN]; split <;> omega
  induction e with
  | nil => exact fun p hp => by cases hp
  | cons p r ih =>
    have h1 := (h p (.head _)).1
    have h2 := hz h.tail
    simp only [dropN] at hd
    split at hd
    · omega
    · exact noDrop.cons (by assumption) (ih h.tail (by omega))
theorem cur_congr (u v : List Part) (ah : Bool) (h : ∀ i t, 0 ≤ i → curGo u i ah t = curGo v i ah t) : ∀ (a : List Part) (i t : Int), 0 ≤ i → curGo (a ++ u) i ah t = curGo (a ++ v) i ah t
  | [], i, t, hi => h i t hi
  | p :: r, i, t, hi => by
    simp only [List.cons_append]
    by_cases c : p.kind = 2 ∧ (0 < i ∨ ah = true)
    · rw [cur_put c, cur_put c]; exact cur_congr u v ah h r _ _ hi
    · by_cases z : i = 0
      · rw [cur_zero c z, cur_zero c z]
      · by_cases l : i < p.n
        · rw [cur_part c z l, cur_part c z l]
        · rw [cur_next c z l, cur_next c z l]; exact cur_congr u v ah h r _ _ (by omega)
theorem cur_more {q p : Part} (hq : FitU q) (hp : FitU p) (hk : q.kind ≠ 3) (h : q.kind = p.kind) (r : List Part) (i t : Int) (ah : Bool) (hi : 0 ≤ i) : curGo (q.more p :: r) i ah t = curGo (q :: p :: r) i ah t := by
  have h1 := hq.1
  have h2 := hp.1
  have hkk : (q.more p).kind = q.kind := rfl
  have hnn : (q.more p).n = q.n + p.n := rfl
  by_cases k2 : q.kind = 2
  · by_cases c : 0 < i ∨ ah = true
    · rw [cur_put ⟨hkk.trans k2, c⟩, cur_put ⟨k2, c⟩, cur_put ⟨h ▸ k2, c⟩, hnn]; congr 1; omega
    · rw [cur_zero (fun x => c x.2) (by omega), cur_zero (fun x => c x.2) (by omega)]
  · have k1 : q.kind = 1 := by rcases hq.kinds with k | k | k <;> omega
    have p1 : p.kind = 1 := h ▸ k1
    by_cases z : i = 0
    · rw [cur_zero (by rw [hkk]; exact fun x => k2 x.1) z, cur_zero (fun x => k2 x.1) z]
    · by_cases l1 : i < q.n
      · rw [cur_part (by rw [hkk]; exact fun x => k2 x.1) z (by omega), cur_part (fun x => k2 x.1) z l1, hkk]
      · rw [cur_next (p := q) (fun x => k2 x.1) z l1, if_pos k1]
        by_cases z2 : i - q.n = 0
        · rw [cur_zero (p := p) (fun x => by omega) z2, cur_part (by rw [hkk]; exact fun x => k2 x.1) z (by omega), hkk, if_pos k1]; omega
        · by_cases l2 : i - q.n < p.n
          · rw [cur_part (p := p) (fun x => by omega) z2 l2, cur_part (by rw [hkk]; exact fun x => k2 x.1) z (by omega), hkk, if_pos k1, if_pos p1]; omega
          · rw [cur_next (p := p) (fun x => by omega) z2 l2, cur_next (by rw [hkk]; exact fun x => k2 x.1) z (by omega), hkk, if_pos k1, if_pos p1, hnn]; congr 1 <;> omega
theorem addR_cur {r : List Part} {p : Part} (hr : FitsU r) (hp : FitU p) (hn : noDrop r) (ah : Bool) (u : List Part) (i t : Int) (hi : 0 ≤ i) : curGo ((addR r p).reverse ++ u) i ah t = curGo (r.reverse ++ p :: u) i ah t := by
  have hz : ¬ p.n = 0 := by have := hp.1; omega
  cases r with
  | nil => rw [addR_nil hz]; rfl
  | cons q r =>
    by_cases c1 : q.kind = p.kind
    · rw [addR_more hz c1, List.reverse_cons, List.reverse_cons, List.append_assoc, List.append_assoc]
      exact cur_congr _ _ ah (fun i t hi => cur_more (hr q (.head _)) hp (hn q (.head _)) c1 u i t ah hi) _ i t hi
    · rw [addR_push hz c1 (.inr (hn q (.head _)))]
      simp only [List.reverse_cons, List.append_assoc, List.singleton_append]
      rfl
theorem addR_noDrop {r : List Part} {p : Part} (hn : noDrop r) (hp : p.kind ≠ 3) : noDrop (addR r p) := by
  by_cases hz : p.n = 0
  · rw [addR_zero hz]; exact hn
  cases r with
  | nil => rw [addR_nil hz]; exact noDrop.cons hp hn
  | cons q r =>
    by_cases c1 : q.kind = p.kind
    · rw [addR_more hz c1]; exact noDrop.cons (hn q (.head _)) hn.tail
    · rw [addR_push hz c1 (.inr (hn q (.head _)))]; exact noDrop.cons hp hn
theorem addRs_cur : ∀ (ps r : List Part), MK r → FitsU ps → noDrop r → noDrop ps → ∀ (ah : Bool) (i t : Int), 0 ≤ i → curGo (addRs r ps).reverse i ah t = curGo (r.reverse ++ ps) i ah t
  | [], r, _, _, _, _, ah, i, t, hi => by rw [List.append_nil]; rfl
  | p :: ps, r, hm, hp, hr, hd, ah, i, t, hi => by
    rw [addRs_cons, addRs_cur ps (addR r p) (hm.add (hp p (.head _))) hp.tail (addR_noDrop hr (hd p (.head _))) hd.tail ah i t hi]
    exact addR_cur hm.fit (hp p (.head _)) hr ah ps i t hi
theorem cur_ge : ∀ (e : List Part) (i : Int) (ah : Bool), FitsU e → noDrop e → 0 ≤ i → i ≤ fromS e → i ≤ curGo e i ah 0
  | [], i, ah, _, _, hi, h2 => by simp only [fromS] at h2; simp only [curGo]; omega
  | p :: r, i, ah, hf, hn, hi, h2 => by
    have h1 := (hf p (.head _)).1
    have hk := hn p (.head _)
    have hfr := fromS_posU hf.tail
    simp only [fromS] at h2
    by_cases c : p.kind = 2 ∧ (0 < i ∨ ah = true)
    · rw [if_pos c.1] at h2
      rw [cur_put c, cur_shift]
      have := cur_ge r i ah hf.tail hn.tail hi (by omega); omega
    · by_cases z : i = 0
      · rw [cur_zero c z]; omega
      · have k2 : ¬ p.kind = 2 := fun k => c ⟨k, .inl (by omega)⟩
        have k1 : p.kind = 1 := by rcases (hf p (.head _)).kinds with k | k | k <;> omega
        rw [if_neg k2] at h2
        by_cases l : i < p.n
        · rw [cur_part c z l, if_pos k1]; omega
        · rw [cur_next c z l, if_pos k1, cur_shift]
          have := cur_ge r (i - p.n) ah hf.tail hn.tail (by omega) (by omega); omega
theorem cur_zeroF : ∀ (e : List Part), FitsU e → curGo e 0 false 0 = 0
  | [], _ => rfl
  | p :: r, h => cur_zero (fun x => by rcases x.2 with h | h <;> first | omega | cases h) rfl
/-- A piece ahead of the rest. -/
theorem cur_cut {x : Part} {xs : List Part} (hx : FitU x) {n : Int} (h1 : 1 ≤ n) (h2 : n ≤ x.n) (i : Int) (ah : Bool) (t : Int) (hi : 0 ≤ i) :
    curGo (x :: xs) i ah t = if x.kind = 2 ∧ (0 < i ∨ ah = true) then curGo (restP x xs n) i ah (t + n) else if i = 0 then t else if i < n then (if x.kind = 1 then t + i else t) else curGo (restP x xs n) (if x.kind = 2 then i else i - n) ah (if x.kind = 1 then t + n else t) := by
  unfold restP
  by_cases c : x.kind = 2 ∧ (0 < i ∨ ah = true)
  · rw [if_pos c, cur_put c]
    split
    · rw [show x.n = n by omega]
    · rw [cur_put (p := leftP x n) c]
      show _ = curGo xs i ah (t + n + (x.n - n))
      congr 1; omega
  · rw [if_neg c]
    by_cases z : i = 0
    · rw [if_pos z, cur_zero c z]
    · have k2 : ¬ x.kind = 2 := fun k => c ⟨k, .inl (by omega)⟩
      rw [if_neg z, if_neg k2]
      by_cases l : i < n
      · rw [if_pos l, cur_part c z (by omega)]
      · rw [if_neg l]
        by_cases e : x.n - n = 0
        · rw [if_pos e, cur_next c z (by omega), show x.n = n by omega]
        · rw [if_neg e]
          have c' : ¬ ((leftP x n).kind = 2 ∧ (0 < i - n ∨ ah = true)) := fun w => k2 w.1
          have hk : (leftP x n).kind = x.kind := rfl
          have hn : (leftP x n).n = x.n - n := rfl
          by_cases z2 : i - n = 0
          · rw [cur_zero c' z2, cur_part c z (by omega)]; split <;> omega
          · by_cases l2 : i < x.n
            · rw [cur_part c z l2, cur_part c' z2 (by omega), hk]; split <;> omega
            · rw [cur_next c z l2, cur_next c' z2 (by omega), hk, hn]
              by_cases k1 : x.kind = 1
              · simp only [if_pos k1]; congr 1 <;> omega
              · simp only [if_neg k1]; congr 1; omega
theorem go_cur : ∀ (f : Nat) (xs ys : List Part) (i t : Int) (ah : Bool), Fits xs → Fits ys → noDrop xs → noDrop ys → toS xs = fromS ys → xs.length + ys.length ≤ f → 0 ≤ i → i ≤ fromS xs →
    curGo (compGo f xs ys) i ah t = curGo ys (curGo xs i ah 0) ah t ∧ noDrop (compGo f xs ys)
  | 0, xs, ys, i, t, ah, hx, hy, nx, ny, hb, hl, hi, hi2 => by
    have h1 : xs = [] := List.length_eq_zero_iff.1 (by omega)
    have h2 : ys = [] := List.length_eq_zero_iff.1 (by omega)
    subst h1 h2
    exact ⟨rfl, fun p hp => by simp only [compGo] at hp; cases hp⟩
  | f + 1, xs, ys, i, t, ah, hx, hy, nx, ny, hb, hl, hi, hi2 => by
    by_cases h0 : kindL xs = 0 ∧ kindL ys = 0
    · rw [compGo_stop h0, kindL_nil hx h0.1, kindL_nil hy h0.2]
      exact ⟨rfl, fun p hp => by cases hp⟩
    have hx3 : ¬ kindL xs = 3 := fun k => by
      obtain ⟨x, xs', rfl, k'⟩ := kindL_cons k (by omega)
      exact nx x (.head _) k'
    by_cases hy2 : kindL ys = 2
    · obtain ⟨y, ys', rfl, k⟩ := kindL_cons hy2 (by omega)
      rw [compGo_y hx3 hy2]
      have hfy : fromS (y :: ys') = fromS ys' := by simp only [fromS, if_pos k]; omega
      have hl' : xs.length + ys'.length ≤ f := by simp only [List.length_cons] at hl; omega
      refine ⟨?_, noDrop.cons (by omega) (go_cur f xs ys' i t ah hx hy.tail nx ny.tail (by omega) hl' hi hi2).2⟩
      have hge := cur_ge xs i ah (fitsU_of hx) nx hi hi2
      by_cases c : 0 < i ∨ ah = true
      · rw [cur_put ⟨k, c⟩, cur_put ⟨k, by rcases c with c | c; exact .inl (by omega); exact .inr c⟩]
        exact (go_cur f xs ys' i (t + y.n) ah hx hy.tail nx ny.tail (by omega) hl' hi hi2).1
      · have hi0 : i = 0 := by omega
        have hah : ah = false := by cases ah; rfl; exact absurd (.inr rfl) c
        subst hi0 hah
        rw [cur_zeroF xs (fitsU_of hx), cur_zero (fun x => c x.2) rfl, cur_zero (fun x => c x.2) rfl]
    · cases xs with
      | nil =>
        cases ys with
        | nil => exact absurd ⟨rfl, rfl⟩ h0
        | cons y ys' =>
          have h1 := fitsB_n (hy y (.head _))
          have hp := fromS_pos hy.tail
          have k : ¬ y.kind = 2 := hy2
          simp only [toS, fromS, if_neg k] at hb
          omega
      | cons x xs' =>
        cases ys with
        | nil =>
          have h1 := fitsB_n (hx x (.head _))
          have hp := fromS_pos hx.tail
          have k : ¬ x.kind = 3 := nx x (.head _)
          simp only [toS, fromS, if_neg k] at hb
          omega
        | cons y ys' =>
          have x1 := fitsB_n (hx x (.head _))
          have y1 := fitsB_n (hy y (.head _))
          have hm := minI_le x.n y.n
          have hm1 : 1 ≤ minI x.n y.n := by rcases hm.2.2 with e | e <;> omega
          have hyk : y.kind = 1 := by
            have h3 := ny y (.head _)
            rcases (fitU_of (hy y (.head _))).kinds with k | k | k
            · exact k
            · exact absurd k hy2
            · exact absurd k h3
          have hxk : x.kind = 1 ∨ x.kind = 2 := by
            have h3 := nx x (.head _)
            rcases (fitU_of (hx x (.head _))).kinds with k | k | k
            · exact .inl k
            · exact .inr k
            · exact absurd k h3
          rw [compGo_b h0 hx3 hy2, if_pos hyk]
          have fx := rest_fits hx hm1 hm.1
          have fy := rest_fits hy hm1 hm.2.1
          have bx := rest_from x xs' (minI x.n y.n)
          have by_ := rest_from y ys' (minI x.n y.n)
          rw [if_neg (show ¬ x.kind = 3 by omega)] at bx
          rw [if_neg (show ¬ y.kind = 2 by omega)] at by_
          have hl2 : (restP x xs' (minI x.n y.n)).length + (restP y ys' (minI x.n y.n)).length ≤ f := by
            have := both_len x y xs' ys'
            have e1 := rest_len x xs' (minI x.n y.n)
            have e2 := rest_len y ys' (minI x.n y.n)
            simp only [List.length_cons] at hl
            omega
          have ih := fun i t hi hi2 => go_cur f (restP x xs' (minI x.n y.n)) (restP y ys' (minI x.n y.n)) i t ah fx fy (nx.rest _) (ny.rest _) (by omega) hl2 hi hi2
          generalize minI x.n y.n = n at *
          have hfx := fromS_pos fx
          refine ⟨?_, noDrop.cons (nx x (.head _)) (ih 0 0 (by omega) hfx.1).2⟩
          have ux := fitU_of (hx x (.head _))
          have uy := fitU_of (hy y (.head _))
          rw [List.singleton_append, cur_cut ux hm1 hm.1 i ah 0 hi]
          have tk : (takeP x n).kind = x.kind := rfl
          have tn : (takeP x n).n = n := rfl
          by_cases c : x.kind = 2 ∧ (0 < i ∨ ah = true)
          · rw [if_pos c, cur_put (p := takeP x n) c, tn]
            have g0 := cur_in (restP x xs' n) i (0 + n) ah (fitsU_of fx) hi
            rw [cur_cut uy hm1 hm.2.1 _ ah t (by omega), if_neg (fun w => by omega), if_neg (by omega), if_neg (by omega), if_neg (show ¬ y.kind = 2 by omega), if_pos hyk, (ih i (t + n) hi (by rw [if_pos c.1] at bx; omega)).1]
            congr 1
            rw [cur_shift (restP x xs' n) i ah (0 + n)]; omega
          · rw [if_neg c]
            by_cases z : i = 0
            · rw [if_pos z, cur_zero (p := takeP x n) c z, cur_zero (p := y) (fun w => by omega) rfl]
            · have k2 : ¬ x.kind = 2 := fun k => c ⟨k, .inl (by omega)⟩
              have k1 : x.kind = 1 := by omega
              rw [if_neg z, if_neg k2, if_pos k1]
              by_cases l : i < n
              · rw [if_pos l, cur_part (p := takeP x n) c z (by omega), tk, if_pos k1, cur_cut uy hm1 hm.2.1 _ ah t (by omega), if_neg (fun w => by omega), if_neg (by omega), if_pos (by omega), if_pos hyk]; omega
              · rw [if_neg l, cur_next (p := takeP x n) c z (by omega), tk, tn, if_pos k1, if_pos k1]
                rw [if_neg k2] at bx
                have g0 := cur_in (restP x xs' n) (i - n) (0 + n) ah (fitsU_of fx) (by omega)
                rw [cur_cut uy hm1 hm.2.1 _ ah t (by omega), if_neg (fun w => by omega), if_neg (by omega), if_neg (by omega), if_neg (show ¬ y.kind = 2 by omega), if_pos hyk, (ih (i - n) (t + n) (by omega) (by omega)).1]
                congr 1
                rw [cur_shift (restP x xs' n) (i - n) ah (0 + n)]; omega
/-- Through two edits that drop nothing. -/
theorem go_law {a b : List Part} (oa : Ok a) (ob : Ok b) (e : toS a = fromS b) (na : noDrop a) (nb : noDrop b) {i : Int} (ah : Bool) (hi : 0 ≤ i) (h2 : i ≤ fromS a) :
    curF (compF a b) i ah = curF b (curF a i ah) ah := by
  obtain ⟨c1, c2, c3, c4, _⟩ := comp_law oa ob e
  obtain ⟨_, _, hc⟩ := compE_z c1
  have g := go_cur (a.length + b.length) a b i 0 ah oa.fits ob.fits na nb e (Nat.le_refl _) hi h2
  obtain ⟨f1, f2, f3⟩ := compGo_facts oa ob e
  have hin := cur_in a i 0 ah oa.1 hi
  have hge := cur_ge a i ah oa.1 na hi h2
  have b1 : ¬ curBad a i := by unfold curBad; rw [oa.sizes]; simp only [Bool.true_eq_false, false_or]; omega
  have b2 : ¬ curBad b (curGo a i ah 0) := by unfold curBad; rw [ob.sizes]; simp only [Bool.true_eq_false, false_or]; omega
  have b3 : ¬ curBad (compF a b) i := by unfold curBad; rw [c2.sizes]; simp only [Bool.true_eq_false, false_or]; omega
  rw [(cur_ok b3).1, (cur_ok (ah := ah) b1).1, (cur_ok b2).1, ← g.1, hc]
  unfold compR
  rw [addRs_cur _ [] MK.nil f1 (fun p hp => by cases hp) g.2 ah i 0 hi]
  rfl
theorem cur_E {e : List Part} (oe : Ok e) {i : Int} : curE e i = 0 ↔ 0 ≤ i ∧ i ≤ fromS e := by
  have hb : curBad e i ↔ ¬ (0 ≤ i ∧ i ≤ fromS e) := by unfold curBad; rw [oe.sizes]; simp only [Bool.true_eq_false, false_or]; omega
  unfold curE
  by_cases h : curBad e i
  · rw [if_pos h]; exact ⟨fun x => absurd x (by decide), fun x => absurd x (hb.1 h)⟩
  · rw [if_neg h]; exact ⟨fun _ => Decidable.not_not.1 fun x => h (hb.2 x), fun _ => rfl⟩
end Go.SK

set_option linter.unusedVariables false
set_option linter.unusedSimpArgs false
set_option maxRecDepth 100000
namespace Go.SK
open Go
theorem sizeE_ok {e : List Part} (h : sizeE e = 0) : Ok e ∧ (sizeF e).1 = fromS e ∧ (sizeF e).2 = toS e := by
  have h1 : (sizesF e).2.2 = true := by unfold sizeE at h; by_cases c : (sizesF e).2.2 = true; exact c; rw [if_neg c] at h; omega
  have o := ok_iff.1 h1
  unfold sizeF
  rw [if_pos h1, o.sizes]; exact ⟨o, rfl, rfl⟩
theorem ok_size {e : List Part} (o : Ok e) : sizeE e = 0 ∧ (sizeF e).1 = fromS e ∧ (sizeF e).2 = toS e := by
  have h1 := ok_iff.2 o
  unfold sizeE sizeF
  rw [if_pos h1, if_pos h1, o.sizes]; exact ⟨rfl, rfl, rfl⟩
theorem applyE_z {e : List Part} {s : ByteArray} (h : applyE e s = 0) : valid s = true ∧ Ok e ∧ fromS e = (dec s).length := by
  refine applyBad_iff.1 fun hb => ?_
  rw [(apply_bad hb).2] at h; omega
theorem applyE_nz {e : List Part} {s : ByteArray} (h : applyE e s ≠ 0) : applyF e s = ⟨#[]⟩ := by
  by_cases hb : applyBad e s
  · exact (apply_bad hb).1
  · exact absurd (apply_ok hb).2 h
theorem applyF_size (e : List Part) (s : ByteArray) : (applyF e s).size ≤ 4398046511104 := by
  by_cases hb : applyBad e s
  · rw [(apply_bad hb).1]; decide
  · obtain ⟨hv, o, hn⟩ := applyBad_iff.1 hb
    obtain ⟨_, h2, _, h4, h5⟩ := apply_law hv o hn
    have h6 := (enc_size (runS id e (dec s)).1).2
    rw [← h4] at h6
    rw [h2, ← h4]
    have := o.2.2.2; omega
theorem repl_len (n a k : Int) (s : ByteArray) : (replF n a k s).length ≤ 4 := by
  unfold replF
  split
  · simp
  · rw [List.length_reverse]; exact addRs_len _ []
theorem square_z {a b : List Part} (z : trE a b = 0) : compE a (trF2 a b) = 0 ∧ compE b (trF1 a b) = 0 ∧ compF a (trF2 a b) = compF b (trF1 a b) := by
  obtain ⟨hb, _, h3, h4⟩ := trE_z z
  obtain ⟨oa, ob, e1⟩ := trBad_iff.1 hb
  rcases trE_cases oa ob with ⟨_, _, o1, _⟩ | ⟨h, _⟩ | ⟨h, _⟩
  · obtain ⟨l1, l2, l3, _⟩ := square_law oa ob e1 (by rw [← h3]; exact o1.2.2.2)
    exact ⟨l1, l2, l3⟩
  · omega
  · omega
theorem tr_nz {a b : List Part} (h : trE a b ≠ 0) : trF1 a b = [] ∧ trF2 a b = [] := ⟨if_neg h, if_neg h⟩
theorem anyway_z {a b c : List Part} (z1 : compE a b = 0) (z2 : compE b c = 0) : compE (compF a b) c = 0 ∧ compE a (compF b c) = 0 ∧ compF (compF a b) c = compF a (compF b c) := by
  obtain ⟨oa, ob, e1⟩ := compBad_iff.1 (compE_z z1).1
  obtain ⟨_, oc, e2⟩ := compBad_iff.1 (compE_z z2).1
  exact anyway_law oa ob oc e1 e2
theorem row_z {a b : List Part} {s : ByteArray} (z1 : applyE a s = 0) (z2 : applyE b (applyF a s) = 0) : compE a b = 0 ∧ applyE (compF a b) s = 0 ∧ applyF (compF a b) s = applyF b (applyF a s) := by
  obtain ⟨hv, oa, hn⟩ := applyE_z z1
  obtain ⟨hv2, ob, hn2⟩ := applyE_z z2
  obtain ⟨a1, a2, a3, a4, a5⟩ := apply_law hv oa hn
  obtain ⟨b1, b2, b3, b4, b5⟩ := apply_law hv2 ob hn2
  obtain ⟨c1, c2, c3, c4, c5⟩ := comp_law oa ob (by omega)
  obtain ⟨d1, d2, d3, d4, d5⟩ := apply_law hv c2 (by omega)
  refine ⟨c1, d1, ?_⟩
  rw [d2, b2, c5 id (dec s) hn.symm, a4]
theorem back_z {e : List Part} {s : ByteArray} (z : applyE e s = 0) : invE e s = 0 ∧ applyE (invF e s) (applyF e s) = 0 ∧ applyF (invF e s) (applyF e s) = s ∧ invE (invF e s) (applyF e s) = 0 ∧
    applyE (invF (invF e s) (applyF e s)) s = 0 ∧ applyF (invF (invF e s) (applyF e s)) s = applyF e s := by
  obtain ⟨hv, oe, hn⟩ := applyE_z z
  obtain ⟨a1, a2, a3, a4, a5⟩ := apply_law hv oe hn
  obtain ⟨b1, b2, b3, b4, b5, b6⟩ := inv_law hv oe hn
  obtain ⟨c1, c2, c3, c4, c5, c6⟩ := inv_law a3 b2 (by omega)
  rw [b6] at c5 c6
  exact ⟨b1, b5, b6, c1, c5, c6⟩
theorem nothing_z {e : List Part} (z : sizeE e = 0) :
    replE (sizeF e).1 0 0 ⟨#[]⟩ = 0 ∧ replE (sizeF e).2 0 0 ⟨#[]⟩ = 0 ∧ compE (replF (sizeF e).1 0 0 ⟨#[]⟩) e = 0 ∧ compE e (replF (sizeF e).2 0 0 ⟨#[]⟩) = 0 ∧ trE e (replF (sizeF e).1 0 0 ⟨#[]⟩) = 0 ∧
    compF (replF (sizeF e).1 0 0 ⟨#[]⟩) e = e ∧ compF e (replF (sizeF e).2 0 0 ⟨#[]⟩) = e ∧ trF1 e (replF (sizeF e).1 0 0 ⟨#[]⟩) = e ∧ trF2 e (replF (sizeF e).1 0 0 ⟨#[]⟩) = replF (sizeF e).2 0 0 ⟨#[]⟩ := by
  obtain ⟨oe, h1, h2⟩ := sizeE_ok z
  rw [h1, h2]
  exact nothing_law oe rfl rfl
theorem form_z {a b : List Part} (za : sizeE a = 0) (zb : sizeE b = 0) :
    (compE a b = 0 → sizeE (compF a b) = 0 ∧ (sizeF (compF a b)).1 = (sizeF a).1 ∧ (sizeF (compF a b)).2 = (sizeF b).2 ∧ (sizeF a).2 = (sizeF b).1 ∧ normF (compF a b) = compF a b) ∧
    (compE a b ≠ 0 → compE a b = 30 ∧ (sizeF a).2 ≠ (sizeF b).1) ∧
    (trE a b ≠ 0 → decide (trE a b = 30) = decide ((sizeF a).1 ≠ (sizeF b).1)) ∧
    (trE a b = 0 → sizeE (trF1 a b) = 0 ∧ sizeE (trF2 a b) = 0 ∧ (sizeF (trF1 a b)).1 = (sizeF b).2 ∧ (sizeF (trF2 a b)).1 = (sizeF a).2 ∧ (sizeF (trF1 a b)).2 = (sizeF (trF2 a b)).2) := by
  obtain ⟨oa, a1, a2⟩ := sizeE_ok za
  obtain ⟨ob, b1, b2⟩ := sizeE_ok zb
  refine ⟨fun h => ?_, fun h => ?_, fun h => ?_, fun h => ?_⟩
  · rcases compE_cases oa ob with ⟨_, e⟩ | ⟨h', _⟩
    · obtain ⟨c1, c2, c3, c4, _⟩ := comp_law oa ob e
      obtain ⟨d1, d2, d3⟩ := ok_size c2
      exact ⟨d1, by omega, by omega, by omega, norm_ok c2⟩
    · omega
  · rcases compE_cases oa ob with ⟨h', e⟩ | ⟨h', e⟩
    · exact absurd h' h
    · exact ⟨h', by omega⟩
  · rcases trE_cases oa ob with ⟨h', _⟩ | ⟨h', e⟩ | ⟨h', e⟩
    · exact absurd h' h
    · rw [h', a1, b1]; simp [e]
    · rw [h', a1, b1]; simp [e]
  · rcases trE_cases oa ob with ⟨_, _, o1, o2, f1, f2, t⟩ | ⟨h', e⟩ | ⟨h', e⟩
    · obtain ⟨d1, d2, d3⟩ := ok_size o1
      obtain ⟨g1, g2, g3⟩ := ok_size o2
      exact ⟨d1, g1, by omega, by omega, by omega⟩
    · omega
    · omega
theorem through_z {a b c : List Part} (z1 : compE b c = 0) (z2 : trE a b = 0) (ha : Narrow a) (hb : Narrow b) (hc : Narrow c) :
    trE (trF1 a b) c = 0 ∧ trE a (compF b c) = 0 ∧ (sizeF (trF1 a (compF b c))).1 = (sizeF (trF1 (trF1 a b) c)).1 ∧ weightF (trF1 (trF1 a b) c) = weightF (trF1 a (compF b c)) := by
  obtain ⟨ob, oc, e2⟩ := compBad_iff.1 (compE_z z1).1
  obtain ⟨oa, _, e1⟩ := trBad_iff.1 (trE_z z2).1
  obtain ⟨a1, a2, a3⟩ := ok_size oa
  obtain ⟨b1, b2, b3⟩ := ok_size ob
  obtain ⟨c1, c2, c3⟩ := ok_size oc
  have ha' := ha a1; have hb' := hb b1; have hc' := hc c1
  obtain ⟨l1, l2, l3, l4, l5, l6⟩ := through_law oa ob oc e1 e2 z2 (by omega) (by omega) (by omega) (by omega)
  exact ⟨l1, l2, by rw [(ok_size l5).2.1, (ok_size l6).2.1]; exact l3, l4⟩
theorem cur_z {e : List Part} {i : Int} (h : curE e i = 0) : 0 ≤ i ∧ i ≤ fromS e ∧ Ok e := by
  have hb : ¬ curBad e i := fun hb => by rw [(cur_bad (ah := false) hb).2] at h; omega
  unfold curBad at hb
  have o : Ok e := ok_iff.1 (by by_cases c : (sizesF e).2.2 = true; exact c; exact absurd (.inl (by simpa using c)) hb)
  have := (cur_E o).1 h
  exact ⟨this.1, this.2, o⟩
/-- Where a cursor goes stays within what is made. -/
theorem cur_out {e : List Part} {i : Int} (ah : Bool) (h : curE e i = 0) : 0 ≤ curF e i ah ∧ curF e i ah ≤ toS e := by
  obtain ⟨h0, h1, o⟩ := cur_z h
  have hb : ¬ curBad e i := fun hb => by rw [(cur_bad (ah := false) hb).2] at h; omega
  rw [(cur_ok hb).1]
  have := cur_in e i 0 ah o.1 h0
  omega
theorem dropN_pos : ∀ {e : List Part}, FitsU e → 0 ≤ dropN e
  | [], _ => by simp [dropN]
  | p :: r, h => by have h1 := (h p (.head _)).1; have := dropN_pos h.tail; simp only [dropN]; split <;> omega
theorem dropN_le : ∀ {e : List Part}, FitsU e → dropN e ≤ fromS e
  | [], _ => by simp [dropN, fromS]
  | p :: r, h => by have h1 := (h p (.head _)).1; have := dropN_le h.tail; simp only [dropN, fromS]; split <;> split <;> omega
theorem go_z {a b : List Part} {i : Int} {ah : Bool} (z : compE a b = 0) (hc : curE a i = 0) :
    curE b (curF a i ah) = 0 ∧ curE (compF a b) i = 0 ∧ 0 ≤ (weightF a).2 ∧ 0 ≤ (weightF b).2 ∧ (weightF a).2 ≤ 1099511627776 ∧ (weightF b).2 ≤ 1099511627776 ∧
    (¬ 0 < (weightF a).2 + (weightF b).2 → curF (compF a b) i ah = curF b (curF a i ah) ah) := by
  obtain ⟨oa, ob, e⟩ := compBad_iff.1 (compE_z z).1
  obtain ⟨h0, h1, _⟩ := cur_z hc
  obtain ⟨k0, k1⟩ := cur_out ah hc
  obtain ⟨_, c2, c3, _⟩ := comp_law oa ob e
  have wa := weight_ok oa.fits
  have wb := weight_ok ob.fits
  have da := dropN_pos oa.1; have db := dropN_pos ob.1
  have da2 := dropN_le oa.1; have db2 := dropN_le ob.1
  have fa := oa.2.2.1; have fb := ob.2.2.1
  rw [wa, wb]
  refine ⟨(cur_E ob).2 ⟨k0, by omega⟩, (cur_E c2).2 ⟨h0, by omega⟩, da, db, by omega, by omega, fun hd => ?_⟩
  exact go_law oa ob e (noDrop_of oa.1 (by omega)) (noDrop_of ob.1 (by omega)) ah h0 h1
theorem order_z {e : List Part} {i k : Int} (z : sizeE e = 0) (hi : 0 ≤ i) (hi2 : i ≤ (sizeF e).1) (hk : 0 ≤ k) (hk2 : k ≤ (sizeF e).1) :
    ∀ lo hi, lo = minI i k → (hi = i ∨ hi = k) → i ≤ hi → k ≤ hi → curE e lo = 0 ∧ curE e hi = 0 ∧ 0 ≤ curF e lo false ∧ curF e lo false ≤ curF e lo true ∧ curF e lo true ≤ (sizeF e).2 ∧ curF e lo false ≤ curF e hi false := by
  obtain ⟨oe, h1, h2⟩ := sizeE_ok z
  intro lo up hlo hup h3 h4
  have hm := minI_le i k
  have l0 : curE e lo = 0 := (cur_E oe).2 ⟨by omega, by omega⟩
  have u0 : curE e up = 0 := (cur_E oe).2 ⟨by omega, by omega⟩
  have lb : ¬ curBad e lo := fun hb => by rw [(cur_bad (ah := false) hb).2] at l0; omega
  have ub : ¬ curBad e up := fun hb => by rw [(cur_bad (ah := false) hb).2] at u0; omega
  have o1 := cur_out false l0
  have o2 := cur_out true l0
  refine ⟨l0, u0, o1.1, ?_, by omega, ?_⟩
  · rw [(cur_ok lb).1, (cur_ok lb).1]; exact cur_ahead e lo 0 oe.1 (by omega)
  · rw [(cur_ok lb).1, (cur_ok ub).1]; exact cur_mono e lo up 0 false oe.1 (by omega) (by omega)
/-! ### Two edits of one text -/
theorem puts_tl : ∀ {e : List Part}, FitsU e → (∀ p ∈ e, p.text.size < 4096) → putsN e ≤ tl e
  | [], _, _ => by simp [putsN, tl]
  | p :: r, h, hs => by
    have ih := puts_tl h.tail fun q hq => hs q (.tail _ hq)
    have h1 := hs p (.head _)
    have h2 := dec_len p.text
    have hm : minI (p.text.size : Int) 4096 = p.text.size := by unfold minI; rw [if_neg (by omega)]
    simp only [putsN, tl, hm]
    rcases (h p (.head _)).2 with ⟨k, _⟩ | ⟨k, _⟩ | ⟨k, _, k2⟩
    · rw [if_neg (by omega)]; omega
    · rw [if_neg (by omega)]; omega
    · rw [if_pos k]; omega
theorem tl_pos : ∀ (e : List Part), 0 ≤ tl e
  | [] => by simp [tl]
  | p :: r => by have := tl_pos r; have := minI_le (p.text.size : Int) 4096; simp only [tl]; omega
theorem tl_long : ∀ {e : List Part} {p : Part}, p ∈ e → minI p.text.size 4096 ≤ tl e
  | q :: r, p, h => by
    have := tl_pos r; have := minI_le (q.text.size : Int) 4096
    simp only [tl]
    rcases List.mem_cons.1 h with rfl | h
    · omega
    · have := tl_long h; omega
theorem tl_zero : ∀ {e : List Part}, FitsU e → tl e ≤ 0 → putsN e = 0
  | [], _, _ => rfl
  | p :: r, h, hz => by
    have h3 := tl_pos r; have hm := minI_le (p.text.size : Int) 4096
    simp only [tl] at hz
    have h2 := dec_len p.text
    simp only [putsN, tl_zero h.tail (by omega)]
    rcases (h p (.head _)).2 with ⟨k, _⟩ | ⟨k, _⟩ | ⟨k, _, k2⟩
    · rw [if_neg (by omega)]; omega
    · rw [if_neg (by omega)]; omega
    · rw [if_pos k]; omega
/-- What the dropped and kept ones are. -/
theorem toS_eq : ∀ {e : List Part}, FitsU e → toS e = fromS e - dropN e + putsN e
  | [], _ => rfl
  | p :: r, h => by
    have := toS_eq h.tail
    simp only [toS, fromS, dropN, putsN]
    rcases (h p (.head _)).kinds with k | k | k
    · rw [if_neg (by omega), if_neg (by omega), if_neg (by omega), if_neg (by omega)]; omega
    · rw [if_neg (by omega), if_pos k, if_neg (by omega), if_pos k]; omega
    · rw [if_pos k, if_neg (by omega), if_pos k, if_neg (by omega)]; omega
theorem diamond_small {a b : List Part} (oa : Ok a) (ob : Ok b) (e : fromS a = fromS b) (hn : fromS a ≤ 4096) (hl : tl a + tl b ≤ 4096) : toS (trR1 a b).reverse ≤ 1099511627776 := by
  obtain ⟨m1, m2, f1, f2, t, hp, _, _⟩ := tr_law oa ob e
  have hu : ∀ {r : List Part}, MK r → FitsU r.reverse := fun h q hq => h.fit q (List.mem_reverse.1 hq)
  have h1 := (toS_puts (hu m1)).1
  have h2 := toS_eq (hu m1)
  have h3 := dropN_pos (hu m1)
  have pa := fromS_posU oa.1; have pb := fromS_posU ob.1
  have ta := toS_eq oa.1; have tb := toS_eq ob.1
  have da := dropN_pos oa.1; have db := dropN_pos ob.1
  have qa := (toS_puts oa.1).2; have qb := (toS_puts ob.1).2
  have la := tl_pos a; have lb := tl_pos b
  have dla := dropN_le oa.1
  have dlb := dropN_le ob.1
  have fa := oa.2.2; have fb := ob.2.2
  by_cases hb0 : ∀ p ∈ b, p.text.size < 4096
  · by_cases ha0 : ∀ p ∈ a, p.text.size < 4096
    · have := puts_tl oa.1 ha0; have := puts_tl ob.1 hb0; omega
    · -- a long text in a: nothing is put in b
      obtain ⟨p, hp1, hp2⟩ : ∃ p ∈ a, ¬ p.text.size < 4096 := by
        by_cases h : ∃ p ∈ a, ¬ p.text.size < 4096
        · exact h
        · exact absurd (fun p hp => Decidable.not_not.1 fun hn => h ⟨p, hp, hn⟩) ha0
      have h5 := tl_long hp1
      have hm : minI (p.text.size : Int) 4096 = 4096 ∨ minI (p.text.size : Int) 4096 = p.text.size := by unfold minI; split; exact .inl rfl; exact .inr rfl
      have hz := tl_zero ob.1 (by omega)
      rw [f1, hp] at h2
      -- what b makes is no longer than what it is of
      have d1 : dropN (trR1 a b).reverse ≥ dropN a - dropN b := by
        obtain ⟨_, _, _, _, _, _, hv, _⟩ := tr_law oa ob e
        have c1 := dv_drop (hu m1)
        rw [hv] at c1
        have c2 := dv_drop oa.1
        have c3 := run_count b (dv a) ob.1 (by rw [dv_len oa.1]; omega)
        have c4 := c3.1
        rw [c3.2 (by rw [dv_len oa.1]; omega)] at c4
        simp only [List.count_nil] at c4
        omega
      omega
  · obtain ⟨p, hp1, hp2⟩ : ∃ p ∈ b, ¬ p.text.size < 4096 := by
      by_cases h : ∃ p ∈ b, ¬ p.text.size < 4096
      · exact h
      · exact absurd (fun p hp => Decidable.not_not.1 fun hn => h ⟨p, hp, hn⟩) hb0
    have h5 := tl_long hp1
    have hm : minI (p.text.size : Int) 4096 = 4096 ∨ minI (p.text.size : Int) 4096 = p.text.size := by unfold minI; split; exact .inl rfl; exact .inr rfl
    have hz := tl_zero oa.1 (by omega)
    omega
theorem diamond_z {a b : List Part} {s : ByteArray} (z1 : applyE a s = 0) (z2 : applyE b s = 0) (hs : s.size ≤ 4096) (hl : tl a + tl b ≤ 4096) :
    trE a b = 0 ∧ applyE (trF2 a b) (applyF a s) = 0 ∧ applyE (trF1 a b) (applyF b s) = 0 ∧ compE a (trF2 a b) = 0 ∧ compE b (trF1 a b) = 0 ∧ applyF (trF2 a b) (applyF a s) = applyF (trF1 a b) (applyF b s) ∧
    compF a (trF2 a b) = compF b (trF1 a b) ∧ checkF (compF a (trF2 a b)) (rcount s) = 0 ∧ checkF (compF b (trF1 a b)) (rcount s) = 0 := by
  obtain ⟨hv, oa, hna⟩ := applyE_z z1
  obtain ⟨_, ob, hnb⟩ := applyE_z z2
  have hd := dec_len s
  have hle := diamond_small oa ob (by omega) (by omega) hl
  obtain ⟨m1, m2, f1, f2, t, _, _, r⟩ := tr_law oa ob (by omega)
  obtain ⟨c1, c2, c3, o1, o2⟩ := tr_law_ok oa ob (by omega) hle
  rw [← c2] at f1 r t; rw [← c3] at f2 r t
  obtain ⟨g1, g2, g3, g4, g5⟩ := square_law oa ob (by omega) hle
  obtain ⟨a1, a2, a3, a4, a5⟩ := apply_law hv oa hna
  obtain ⟨b1, b2, b3, b4, b5⟩ := apply_law hv ob hnb
  obtain ⟨p1, p2, _⟩ := apply_law a3 o2 (by omega)
  obtain ⟨q1, q2, _⟩ := apply_law b3 o1 (by omega)
  have ck : checkF (compF a (trF2 a b)) (rcount s) = 0 := checkF_iff.2 ⟨g4, by rw [g5, rcount_dec]; exact hna⟩
  refine ⟨c1, p1, q1, g1, g2, ?_, g3, ck, by rw [← g3]; exact ck⟩
  rw [p2, q2, a4, b4, r id (dec s) hna.symm]
end Go.SK
