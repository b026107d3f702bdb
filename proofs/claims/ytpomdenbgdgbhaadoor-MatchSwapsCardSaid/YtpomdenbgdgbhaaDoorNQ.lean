/- Plain words: the table of well-formed sequences is the model's decoder. Plain words for the document's own answer: lists put together part by part. -/
import Derived.Test.YtpomdenbgdgbhaaDoorNC
import Derived.Test.YtpomdenbgdgbhaaDoorMB
import Derived.Lib.DecodeNEq
set_option linter.unusedVariables false
set_option linter.unusedSimpArgs false
set_option maxRecDepth 100000
namespace Go.SK
open Go Go.Lib Go.RowKit
def kOf (c : Nat) : Nat := if c < 128 then 1 else if 194 ≤ c ∧ c ≤ 223 then 2 else if 224 ≤ c ∧ c ≤ 239 then 3 else if 240 ≤ c ∧ c ≤ 244 then 4 else 0
def loOf (c : Nat) : Nat := if c = 224 then 160 else if c = 240 then 144 else 128
def hiOf (c : Nat) : Nat := if c = 237 then 159 else if c = 244 then 143 else 191
def by' (l : List UInt8) (j : Nat) : Nat := (l.getD j 0).toNat
def okAt (l : List UInt8) (j : Nat) : Prop := (if j = 1 then loOf (by' l 0) else 128) ≤ by' l j ∧ by' l j ≤ (if j = 1 then hiOf (by' l 0) else 191)
def stepOk (l : List UInt8) : Prop := kOf (by' l 0) ≠ 0 ∧ kOf (by' l 0) ≤ l.length ∧ ∀ j, 1 ≤ j → j < kOf (by' l 0) → okAt l j
def badL (l : List UInt8) : Prop := (decodeL l).1 = 65533 ∧ (decodeL l).2 = 1
theorem cls : ∀ c : Fin 256, (kOf c.val = 1 ∧ firstT c.val = 240) ∨ (kOf c.val = 0 ∧ firstT c.val = 241) ∨ (2 ≤ kOf c.val ∧ kOf c.val ≤ 4 ∧ firstT c.val < 240 ∧ firstT c.val % 8 = kOf c.val ∧ accLo (firstT c.val / 16) = loOf c.val ∧ accHi (firstT c.val / 16) = hiOf c.val) := by decide
theorem by'_lt (l : List UInt8) (j : Nat) : by' l j < 256 := UInt8.toNat_lt _
theorem table {l : List UInt8} (h : l ≠ []) : (stepOk l → ¬ badL l ∧ (decodeL l).2 = kOf (by' l 0)) ∧ (¬ stepOk l → badL l) := by
  obtain ⟨b, t, rfl⟩ := List.exists_cons_of_ne_nil h
  generalize hl : b :: t = l
  have hlen : 1 ≤ l.length := by rw [← hl]; simp
  have h0 := by'_lt l 0; have h1 := by'_lt l 1; have h2 := by'_lt l 2; have h3 := by'_lt l 3
  have hd : decodeL l = decodeN l.length (by' l 0) (by' l 1) (by' l 2) (by' l 3) := decodeL_N l
  have hc := cls ⟨by' l 0, h0⟩
  simp only at hc
  unfold badL stepOk
  rw [hd]
  rcases hc with ⟨k1, k2⟩ | ⟨k1, k2⟩ | ⟨k1, k2, k3, k4, k5, k6⟩
  · rw [ascii_eq _ _ _ _ _ k2]
    refine ⟨fun _ => ⟨fun hh => by have := hh.1; simp only at this; omega, by simp only [k1]⟩, fun hn => absurd ⟨by omega, by omega, fun j a b => by omega⟩ hn⟩
  · rw [bad_eq _ _ _ _ _ h0 k2]
    exact ⟨fun hh => absurd k1 hh.1, fun _ => ⟨rfl, rfl⟩⟩
  · have hs := slow_eq l.length (by' l 0) (by' l 1) (by' l 2) (by' l 3) hlen h1 h2 h3 k3
    rw [k4, k5, k6] at hs
    rw [← hs]
    have o1 : okAt l 1 ↔ loOf (by' l 0) ≤ by' l 1 ∧ by' l 1 ≤ hiOf (by' l 0) := by simp [okAt]
    have o2 : okAt l 2 ↔ 128 ≤ by' l 2 ∧ by' l 2 ≤ 191 := by simp [okAt]
    have o3 : okAt l 3 ↔ 128 ≤ by' l 3 ∧ by' l 3 ≤ 191 := by simp [okAt]
    constructor
    · rintro ⟨_, c2, c3⟩
      have e1 := o1.1 (c3 1 (by omega) (by omega))
      unfold slowN
      rw [if_neg (by omega), if_neg (by omega)]
      by_cases q2 : kOf (by' l 0) ≤ 2
      · rw [if_pos q2]; simp only; omega
      · have e2 := o2.1 (c3 2 (by omega) (by omega))
        rw [if_neg q2, if_neg (by omega)]
        by_cases q3 : kOf (by' l 0) ≤ 3
        · rw [if_pos q3]; simp only; omega
        · have e3 := o3.1 (c3 3 (by omega) (by omega))
          rw [if_neg q3, if_neg (by omega)]; simp only; omega
    · intro hn
      unfold slowN
      by_cases c2 : l.length < kOf (by' l 0)
      · rw [if_pos c2]; exact ⟨rfl, rfl⟩
      · rw [if_neg c2]
        by_cases e1 : by' l 1 < loOf (by' l 0) ∨ hiOf (by' l 0) < by' l 1
        · rw [if_pos e1]; exact ⟨rfl, rfl⟩
        · rw [if_neg e1]
          have f1 := o1.2 (by omega)
          by_cases q2 : kOf (by' l 0) ≤ 2
          · exact absurd ⟨by omega, by omega, fun j a b => by obtain rfl : j = 1 := by omega
                                                              exact f1⟩ hn
          · rw [if_neg q2]
            by_cases e2 : by' l 2 < 128 ∨ 191 < by' l 2
            · rw [if_pos e2]; exact ⟨rfl, rfl⟩
            · rw [if_neg e2]
              have f2 := o2.2 (by omega)
              by_cases q3 : kOf (by' l 0) ≤ 3
              · refine absurd ⟨by omega, by omega, fun j a b => ?_⟩ hn
                rcases (show j = 1 ∨ j = 2 by omega) with rfl | rfl
                · exact f1
                · exact f2
              · rw [if_neg q3]
                by_cases e3 : by' l 3 < 128 ∨ 191 < by' l 3
                · rw [if_pos e3]; exact ⟨rfl, rfl⟩
                · have f3 := o3.2 (by omega)
                  refine absurd ⟨by omega, by omega, fun j a b => ?_⟩ hn
                  rcases (show j = 1 ∨ j = 2 ∨ j = 3 by omega) with rfl | rfl | rfl
                  · exact f1
                  · exact f2
                  · exact f3
def runesF (l : List UInt8) : Int := if validD l = true then ((decsL l).length : Int) else -1
structure RInv (l0 l : List UInt8) (n : Int) : Prop where
  v : validD l = validD l0
  c : n + (decsL l).length = (decsL l0).length
  n0 : 0 ≤ n
  b : n + l.length ≤ l0.length
theorem RInv.start (l : List UInt8) : RInv l l 0 := ⟨rfl, by omega, by omega, by omega⟩
theorem RInv.bad {l0 l : List UInt8} {n : Int} (h : RInv l0 l n) (hne : l ≠ []) (hb : ¬ stepOk l) : runesF l0 = -1 := by
  have this : (decodeL l).1 = 65533 ∧ (decodeL l).2 = 1 := (table hne).2 hb
  have hv := h.v
  rw [validD_step hne, if_pos this] at hv
  rw [runesF, ← hv]; rfl
theorem RInv.step {l0 l : List UInt8} {n : Int} (h : RInv l0 l n) (hne : l ≠ []) (hb : stepOk l) : RInv l0 (l.drop (kOf (by' l 0))) (n + 1) := by
  have this := (table hne).1 hb
  have hnb : ¬ ((decodeL l).1 = 65533 ∧ (decodeL l).2 = 1) := this.1
  have hv := h.v; have hc := h.c; have h0 := h.n0; have hbb := h.b
  rw [validD_step hne, if_neg hnb, this.2] at hv
  rw [decsL_step hne, this.2, List.length_cons] at hc
  have := hb.1; have := hb.2.1
  exact ⟨hv, by omega, by omega, by rw [List.length_drop]; omega⟩
theorem RInv.stop {l0 : List UInt8} {n : Int} (h : RInv l0 [] n) : n = runesF l0 := by
  have hv := h.v; have hc := h.c
  have e1 : validD [] = true := rfl
  have e2 : (decsL []).length = 0 := rfl
  rw [e1] at hv; rw [e2] at hc
  rw [runesF, if_pos hv.symm]; omega
theorem runesF_str (s : ByteArray) : runesF s.data.toList = if valid s = true then ((dec s).length : Int) else -1 := rfl
section
variable {S : Nat → Prop} {w0 : World} {L : List Res}
theorem rd_dropF {α : Type} {f : α → Value} {v : Value} {ns : List α} {w : World} (h : Hp S w0 w (.rd v 1 ns.length (ns.map f) :: L)) (k : Nat) (hk : k ≤ ns.length) : Hp S w0 w (.rd (Value.cut v k ns.length 1) 1 (ns.drop k).length ((ns.drop k).map f) :: L) := by
  have := rd_cut h k ns.length hk (Nat.le_refl _)
  rw [List.length_drop]
  simp only [Nat.mul_one] at this
  rw [List.take_of_length_le (by rw [List.length_drop, List.length_map]; omega), ← List.map_drop] at this
  exact this
abbrev u8v (b : UInt8) : Value := .int .u8 b.toNat
theorem lkU8 {l : List UInt8} {i k : Nat} (h : i < l.length) (hk : k = i) : (l.map u8v)[k]? = some (.int .u8 ((by' l i : Nat) : Int)) := by
  subst hk
  simp [by', List.getElem?_eq_getElem h, List.getD_eq_getElem?_getD]
end
end Go.SK

set_option linter.unusedVariables false
set_option linter.unusedSimpArgs false
set_option maxRecDepth 100000
namespace Go.SK
open Go
/-- A part behind a list (the last one first), as one with the last, if that is of its kind. -/
def oneR (r : List Part) (p : Part) : List Part := match r with
  | [] => [p]
  | q :: r' => if q.kind = p.kind then q.more p :: r' else p :: q :: r'
theorem oneR_same {q : Part} {r : List Part} {p : Part} (h : q.kind = p.kind) : oneR (q :: r) p = q.more p :: r := if_pos h
theorem oneR_push {q : Part} {r : List Part} {p : Part} (h : ¬ q.kind = p.kind) : oneR (q :: r) p = p :: q :: r := if_neg h
theorem oneR_facts (r : List Part) (p : Part) (h : ∀ q ∈ r, 0 ≤ q.n) (h0 : 0 ≤ p.n) : (∀ q ∈ oneR r p, 0 ≤ q.n) ∧ nsum (oneR r p) = nsum r + p.n ∧ tsum (oneR r p) = tsum r + p.text.size ∧ (oneR r p).length ≤ r.length + 1 := by
  cases r with
  | nil => simp [oneR, nsum, tsum, h0]
  | cons q r =>
    unfold oneR
    simp only
    have hq := h q (.head _)
    split
    · refine ⟨fun x hx => ?_, by simp only [nsum, Part.more]; omega, by simp only [tsum, Part.more, ByteArray.size_append]; omega, by simp⟩
      rcases List.mem_cons.1 hx with rfl | hx
      · simp only [Part.more]; omega
      · exact h x (.tail _ hx)
    · refine ⟨fun x hx => ?_, by simp only [nsum]; omega, by simp only [tsum]; omega, by simp⟩
      rcases List.mem_cons.1 hx with rfl | hx
      · exact h0
      · exact h x hx
/-- The list of parts as the document puts it into one form. -/
def normStep (r : List Part) (p : Part) : List Part := if fitsB p = true then (match r with
    | d :: r' => if p.kind = 2 ∧ d.kind = 3 then oneR (oneR r' p) d else oneR r p
    | [] => oneR r p) else r
def normRef (l : List Part) : List Part := (l.foldl normStep []).reverse
/-- No two neighbours are of one kind. -/
def Alt : List Part → Prop
  | [] => True
  | [_] => True
  | p :: q :: r => p.kind ≠ q.kind ∧ Alt (q :: r)
theorem Alt.tail {p : Part} {r : List Part} (h : Alt (p :: r)) : Alt r := by
  cases r with
  | nil => trivial
  | cons q r => exact h.2
theorem Alt.cons {p : Part} {r : List Part} (h : Alt r) (hp : ∀ q, r.head? = some q → p.kind ≠ q.kind) : Alt (p :: r) := by
  cases r with
  | nil => trivial
  | cons q r => exact ⟨hp q rfl, h⟩
theorem Alt.head {p q : Part} {r : List Part} (h : Alt (p :: r)) (hk : q.kind = p.kind) : Alt (q :: r) := by
  cases r with
  | nil => trivial
  | cons s r => exact ⟨by rw [hk]; exact h.1, h.2⟩
theorem oneR_alt {r : List Part} {p : Part} (h : Alt r) : Alt (oneR r p) ∧ (∀ q, (oneR r p).head? = some q → q.kind = p.kind) := by
  cases r with
  | nil => exact ⟨trivial, fun q hq => by simp [oneR] at hq; rw [hq]⟩
  | cons q r =>
    by_cases hk : q.kind = p.kind
    · rw [oneR_same hk]
      exact ⟨h.head rfl, fun s hs => by simp at hs; rw [← hs]; exact hk⟩
    · rw [oneR_push hk]
      exact ⟨⟨fun e => hk e.symm, h⟩, fun s hs => by simp at hs; rw [hs]⟩
theorem addR_oneR {r : List Part} {p : Part} (hn : ¬ p.n = 0) (h : Alt r) : addR r p = match r with
    | d :: r' => if p.kind = 2 ∧ d.kind = 3 then oneR (oneR r' p) d else oneR r p
    | [] => oneR r p := by
  cases r with
  | nil => rw [addR_nil hn]; rfl
  | cons q r =>
    simp only
    by_cases hk : q.kind = p.kind
    · rw [addR_more hn hk, if_neg (by omega), oneR_same hk]
    · by_cases hc : p.kind ≠ 2 ∨ q.kind ≠ 3
      · rw [addR_push hn hk hc, if_neg (by omega), oneR_push hk]
      · rw [addR_deep hn hk hc, if_pos (by omega)]
        have h1 : addR r p = oneR r p := by
          cases r with
          | nil => rw [addR_nil hn]; rfl
          | cons s r =>
            have hs := h.1
            by_cases hk2 : s.kind = p.kind
            · rw [addR_more hn hk2, oneR_same hk2]
            · rw [addR_push hn hk2 (by omega), oneR_push hk2]
        have h2 := (oneR_alt (p := p) h.tail).2
        rw [h1]
        cases ho : oneR r p with
        | nil => rfl
        | cons s t =>
          have := h2 s (by rw [ho]; rfl)
          rw [oneR_push (by omega)]
theorem normStep_alt {r : List Part} {p : Part} (h : Alt r) : Alt (normStep r p) := by
  unfold normStep
  split
  · split
    · split
      · exact (oneR_alt (oneR_alt h.tail).1).1
      · exact (oneR_alt h).1
    · exact (oneR_alt h).1
  · exact h
theorem normStep_fit {r : List Part} {p : Part} (h : fitsB p = true) : normStep r p = match r with
    | d :: r' => if p.kind = 2 ∧ d.kind = 3 then oneR (oneR r' p) d else oneR r p
    | [] => oneR r p := by unfold normStep; rw [if_pos h]
theorem normStep_no {r : List Part} {p : Part} (h : ¬ fitsB p = true) : normStep r p = r := by unfold normStep; rw [if_neg h]
theorem norm_same (l : List Part) : normF l = normRef l := by
  unfold normF normRef
  congr 1
  have key : ∀ (l r : List Part), Alt r → addRs r (l.filter fitsB) = l.foldl normStep r := by
    intro l
    induction l with
    | nil => intro r _; rfl
    | cons p l ih =>
      intro r hr
      rw [List.foldl_cons, ← ih _ (normStep_alt hr), List.filter_cons]
      by_cases hf : fitsB p = true
      · rw [if_pos hf, addRs_cons]
        congr 1
        rw [addR_oneR (by have := fitsB_n hf; omega) hr, normStep_fit hf]
        cases r <;> rfl
      · rw [if_neg hf, normStep_no hf]
  exact key l [] trivial
theorem okAt_of {l : List UInt8} {i : Nat} (h1 : ¬ ((by' l i : Nat) : Int) < ((if i = 1 then loOf (by' l 0) else 128 : Nat) : Int)) (h2 : ¬ ((if i = 1 then hiOf (by' l 0) else 191 : Nat) : Int) < ((by' l i : Nat) : Int)) : okAt l i := ⟨by omega, by omega⟩
theorem okBad1 {l : List UInt8} {i : Nat} (h1 : ((by' l i : Nat) : Int) < ((if i = 1 then loOf (by' l 0) else 128 : Nat) : Int)) (h : okAt l i) : False := by have := h.1; omega
theorem okBad2 {l : List UInt8} {i : Nat} (h2 : ((if i = 1 then hiOf (by' l 0) else 191 : Nat) : Int) < ((by' l i : Nat) : Int)) (h : okAt l i) : False := by have := h.2; omega
theorem okAt_succ {l : List UInt8} {i : Nat} (h : ∀ j, 1 ≤ j → j < i → okAt l j) (hi : okAt l i) : ∀ j, 1 ≤ j → j < i + 1 → okAt l j := fun j a b => by
  rcases Nat.lt_or_ge j i with hj | hj
  · exact h j a hj
  · obtain rfl : j = i := by omega
    exact hi
theorem fitsB_two {p : Part} (h1 : ¬ p.n < 1) (h2 : ¬ 1099511627776 < p.n) (hk : p.kind = 2) : decide (runesF p.text.data.toList = p.n) = fitsB p := by
  unfold fitsB
  rw [if_neg h1, if_neg h2, if_neg (by omega), if_neg (by omega), if_pos hk, runesF_str, rcount_dec]
  cases hv : valid p.text
  · have : ¬ ((if (false : Bool) = true then ((dec p.text).length : Int) else -1) = p.n) := by rw [if_neg (by simp)]; omega
    rw [decide_eq_false this]; rfl
  · simp
theorem OneB.of {r : List Part} {p : Part} (h : ∀ q ∈ r, 0 ≤ q.n) (h0 : 0 ≤ p.n) (h1 : nsum r + p.n ≤ 4611686018427387904) (h2 : tsum r + p.text.size ≤ 4611686018427387904) (h3 : r.length < 1099511627776) : OneB r p := ⟨h, h0, h1, h2, h3⟩
theorem runesF_cases (s : ByteArray) : (valid s = true ∧ runesF s.data.toList = (rcount s : Int)) ∨ (valid s = false ∧ runesF s.data.toList = -1) := by
  rw [runesF_str, rcount_dec]
  cases hv : valid s
  · exact .inr ⟨rfl, by simp⟩
  · exact .inl ⟨rfl, by simp⟩
theorem Rdb.takeR {L : List Go.SK.Res} {v : Value} {q : Part} {r : List Part} (h : Rdb L v 3 (q :: r).length (encs (q :: r).reverse)) : Rdb L (Value.cut v 0 r.length 3) 3 r.length (encs r.reverse) := by
  have h1 := h.cut 0 r.length (Nat.zero_le _) (by simp)
  rw [encs_rev, Nat.zero_mul, List.drop_zero, Nat.sub_zero, List.take_append_of_le_length (by rw [encs3, List.length_reverse]; exact Nat.le_refl _), List.take_of_length_le (by rw [encs3, List.length_reverse]; exact Nat.le_refl _)] at h1
  exact h1
theorem row_len3 {S : Nat → Prop} {w0 w : World} {L : List Go.SK.Res} {v : Value} {e m : Nat} {l : List Part} (h : Hp S w0 w (.row v e 3 m (encs l) :: L)) : Hp S w0 w (.row v e 3 l.length (encs l) :: L) := by
  have h1 : w.ownsRow 0 e 3 v m (encs l) := h.at_ _ (.head _)
  have h2 : l.length = m := by have := h1.1; rw [encs3] at this; omega
  rw [h2]; exact h
structure BothB (r : List Part) (s : ByteArray) (d : Int) : Prop where
  pos : ∀ q ∈ r, 0 ≤ q.n
  d0 : 0 ≤ d
  n : nsum r + rcount s + d ≤ 4611686018427387904
  t : tsum r + s.size ≤ 4611686018427387904
  len : r.length + 1 < 1099511627776
theorem BothB.b1 {r : List Part} {s : ByteArray} {d : Int} (h : BothB r s d) : OneB r (putP s) := by
  have h1 := h.n; have h2 := h.t; have h3 := h.len; have h4 := h.d0
  exact ⟨h.pos, by simp only [putP]; omega, by simp only [putP]; omega, by simp only [putP]; omega, by omega⟩
theorem BothB.b2 {r : List Part} {s : ByteArray} {d : Int} (h : BothB r s d) : OneB (oneR r (putP s)) (dropP d) := by
  have h1 := h.n; have h2 := h.t; have h3 := h.len; have h4 := h.d0
  obtain ⟨a1, a2, a3, a4⟩ := oneR_facts r (putP s) h.pos (by simp only [putP]; omega)
  simp only [putP] at a2 a3
  have e0 : (⟨#[]⟩ : ByteArray).size = 0 := rfl
  exact ⟨a1, h4, by simp only [dropP, putP]; omega, by simp only [dropP, putP]; omega, by omega⟩
theorem BothB.b3 {r : List Part} {s : ByteArray} {d : Int} (h : BothB r s d) : OneB r (dropP d) := by
  have h1 := h.n; have h2 := h.t; have h3 := h.len; have h4 := h.d0
  have e0 : (⟨#[]⟩ : ByteArray).size = 0 := rfl
  exact ⟨h.pos, h4, by simp only [dropP]; omega, by simp only [dropP]; omega, by omega⟩
/-- The state of the document's Norm. -/
structure NInv (e : List Part) (k : Nat) (r : List Part) : Prop where
  kle : k ≤ e.length
  go : (e.take k).foldl normStep [] = r
  pos : ∀ q ∈ r, 0 ≤ q.n
  n : nsum r ≤ k * 1099511627776
  t : (tsum r : Int) ≤ 4 * nsum r
  len : r.length ≤ k
theorem NInv.start (e : List Part) : NInv e 0 [] := ⟨Nat.zero_le _, rfl, by simp, by simp [nsum], by simp [nsum, tsum], by simp⟩
section
variable {e : List Part} {k : Nat} {r : List Part} {p : Part}
theorem NInv.skip (h : NInv e k r) (hk : k < e.length) (hp : e.getD k default = p) (hf : ¬ fitsB p = true) : NInv e (k + 1) r := by
  have h1 := h.n; have h2 := h.len
  refine ⟨by omega, ?_, h.pos, by omega, h.t, by omega⟩
  rw [take_getD hk hp, List.foldl_append, h.go]; exact normStep_no hf
theorem NInv.ob (h : NInv e k r) (hk : k < e.length) (hl : e.length ≤ 524288) (hf : fitsB p = true) : OneB r p := by
  have h1 := h.n; have h2 := h.len; have h3 := h.t; have h4 := fitsB_n hf; have h5 := fits_size hf
  exact ⟨h.pos, by omega, by omega, by omega, by omega⟩
theorem NInv.one (h : NInv e k r) (hk : k < e.length) (hp : e.getD k default = p) (hf : fitsB p = true) (hc : ∀ d r', r = d :: r' → ¬ (p.kind = 2 ∧ d.kind = 3)) : NInv e (k + 1) (oneR r p) := by
  have h1 := h.n; have h2 := h.len; have h3 := h.t; have h4 := fitsB_n hf; have h5 := fits_size hf
  obtain ⟨a1, a2, a3, a4⟩ := oneR_facts r p h.pos (by omega)
  refine ⟨by omega, ?_, a1, by omega, by omega, by omega⟩
  rw [take_getD hk hp, List.foldl_append, h.go]
  show normStep r p = _
  rw [normStep_fit hf]
  cases r with
  | nil => rfl
  | cons d r' => simp only; rw [if_neg (hc d r' rfl)]
theorem NInv.swap {d : Part} (h : NInv e k (d :: r)) (hk : k < e.length) (hp : e.getD k default = p) (hf : fitsB p = true) (h2 : p.kind = 2) (h3 : d.kind = 3) (hl : e.length ≤ 524288) : OneB r p ∧ OneB (oneR r p) d ∧ NInv e (k + 1) (oneR (oneR r p) d) := by
  have h1 := h.n; have hl2 := h.len; have ht := h.t; have h4 := fitsB_n hf; have h5 := fits_size hf
  have hd := h.pos d (.head _)
  simp only [nsum, tsum, List.length_cons] at h1 ht hl2
  have hr : ∀ q ∈ r, 0 ≤ q.n := fun q hq => h.pos q (.tail _ hq)
  obtain ⟨a1, a2, a3, a4⟩ := oneR_facts r p hr (by omega)
  obtain ⟨b1, b2, b3, b4⟩ := oneR_facts _ d a1 hd
  have hn := nsum_pos hr
  refine ⟨⟨hr, by omega, by omega, by omega, by omega⟩, ⟨a1, hd, by omega, by omega, by omega⟩, by omega, ?_, b1, by omega, by omega, by omega⟩
  rw [take_getD hk hp, List.foldl_append, h.go]
  show normStep (d :: r) p = _
  rw [normStep_fit hf]; simp only; rw [if_pos ⟨h2, h3⟩]
end
theorem take_eq_all {α : Type} {a b : List α} {k : Nat} (h : a.take k = b.take k) (ha : a.length ≤ k) (hl : a.length = b.length) : a = b := by
  rwa [List.take_of_length_le ha, List.take_of_length_le (by omega)] at h
structure RB4 (ps : List Part) (i : Nat) (r : List Part) : Prop where
  pos : ∀ q ∈ r, 0 ≤ q.n
  n : nsum r ≤ i * 1099511627776
  t : (tsum r : Int) ≤ i * 1152921504606846976
  len : r.length ≤ i
theorem RB4.start (ps : List Part) : RB4 ps 0 [] := ⟨by simp, by simp only [nsum]; omega, by simp only [tsum]; omega, by simp⟩
def RBnd (ps : List Part) : Prop := ∀ p ∈ ps, p.n ≤ 1099511627776 ∧ p.text.size ≤ 1152921504606846976
theorem RB4.skip {ps : List Part} {i : Nat} {r : List Part} {p : Part} (h : RB4 ps i r) (hk : i < ps.length) (hp : ps.getD i default = p) : RB4 ps (i + 1) r := by
  have h1 := h.n; have h2 := h.t; have h3 := h.len
  exact ⟨h.pos, by omega, by omega, by omega⟩
theorem RB4.one {ps : List Part} {i : Nat} {r : List Part} {p : Part} (h : RB4 ps i r) (hb : RBnd ps) (hl : ps.length ≤ 4 := by decide) (hk : i < ps.length) (hp : ps.getD i default = p) (h0 : 0 < p.n) : OneB r p ∧ RB4 ps (i + 1) (oneR r p) := by
  have h1 := h.n; have h2 := h.t; have h3 := h.len
  have hm : p ∈ ps := by rw [← hp, List.getD_eq_getElem?_getD, List.getElem?_eq_getElem hk]; exact List.getElem_mem hk
  have h5 := hb p hm
  obtain ⟨a1, a2, a3, a4⟩ := oneR_facts r p h.pos (by omega)
  exact ⟨⟨h.pos, by omega, by omega, by omega, by omega⟩, a1, by omega, by omega, by omega⟩
end Go.SK
