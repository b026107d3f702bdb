/- Plain words: the table of well-formed sequences is the model's decoder. Plain words for the document's own answer: lists put together part by part. The examples, reckoned out. Plain words: what a maker makes is an edit in its one form. Plain words: what an edit does to a list of anything; its one form is known by that. Plain words: what composition, transformation and inverse do. Plain words: what transformation and the inverse do; what composition makes is an edit. Plain words: what an edit makes of a text, and its inverse. Plain words: what is made where texts stand for stretches. -/
import Derived.Test.YtpomdenbgdgbhaaDoorNC
import Derived.Test.YtpomdenbgdgbhaaDoorMB
import Derived.Lib.DecodeNEq
import Derived.KernelRfl
set_option linter.unusedVariables false
set_option linter.unusedSimpArgs false
set_option maxRecDepth 100000
namespace Go.SK
open Go Go.Lib Go.RowKit
def kOf (c : Nat) : Nat := if c < 128 then 1 else if 194 ≤ c ∧ c ≤ 223 then 2 else if 224 ≤ c ∧ c ≤ 239 then 3 else if 240 ≤ c ∧ c ≤ 244 then 4 else 0
def loOf (c : Nat) : Nat := if c = 224 then 160 else if c = 240 then 144 else 128
def hiOf (c : Nat) : Nat := if c = 237 then 159 else if c = 244 then 143 else 191
def by' (l : List UInt8) (j : Nat) : Nat := (l.getD j 0).toNat
def okAt (l : List UInt8) (j : Nat) : Prop := (if j = 1 then loOf (by' l 0) else 128) ≤ by' l j ∧ by' l j ≤ (if j = 1 then hiOf (by' l 0) else 191)
def stepOk (l : List UInt8) : Prop := kOf (by' l 0) ≠ 0 ∧ kOf (by' l 0) ≤ l.length ∧ ∀ j, 1 ≤ j → j < kOf (by' l 0) → okAt l j
def badL (l : List UInt8) : Prop := (decodeL l).1 = 65533 ∧ (decodeL l).2 = 1
theorem cls : ∀ c : Fin 256, (kOf c.val = 1 ∧ firstT c.val = 240) ∨ (kOf c.val = 0 ∧ firstT c.val = 241) ∨ (2 ≤ kOf c.val ∧ kOf c.val ≤ 4 ∧ firstT c.val < 240 ∧ firstT c.val % 8 = kOf c.val ∧ accLo (firstT c.val / 16) = loOf c.val ∧ accHi (firstT c.val / 16) = hiOf c.val) := by decide
theorem by'_lt (l : List UInt8) (j : Nat) : by' l j < 256 := UInt8.toNat_lt _
theorem table {l : List UInt8} (h : l ≠ []) : (stepOk l → ¬ badL l ∧ (decodeL l).2 = kOf (by' l 0)) ∧ (¬ stepOk l → badL l) := by
  obtain ⟨b, t, rfl⟩ := List.exists_cons_of_ne_nil h
  generalize hl : b :: t = l
  have hlen : 1 ≤ l.length := by rw [← hl]; simp
  have h0 := by'_lt l 0; have h1 := by'_lt l 1; have h2 := by'_lt l 2; have h3 := by'_lt l 3
  have hd : decodeL l = decodeN l.length (by' l 0) (by' l 1) (by' l 2) (by' l 3) := decodeL_N l
  have hc := cls ⟨by' l 0, h0⟩
  simp only at hc
  unfold badL stepOk
  rw [hd]
  rcases hc with ⟨k1, k2⟩ | ⟨k1, k2⟩ | ⟨k1, k2, k3, k4, k5, k6⟩
  · rw [ascii_eq _ _ _ _ _ k2]
    refine ⟨fun _ => ⟨fun hh => by have := hh.1; simp only at this; omega, by simp only [k1]⟩, fun hn => absurd ⟨by omega, by omega, fun j a b => by omega⟩ hn⟩
  · rw [bad_eq _ _ _ _ _ h0 k2]
    exact ⟨fun hh => absurd k1 hh.1, fun _ => ⟨rfl, rfl⟩⟩
  · have hs := slow_eq l.length (by' l 0) (by' l 1) (by' l 2) (by' l 3) hlen h1 h2 h3 k3
    rw [k4, k5, k6] at hs
    rw [← hs]
    have o1 : okAt l 1 ↔ loOf (by' l 0) ≤ by' l 1 ∧ by' l 1 ≤ hiOf (by' l 0) := by simp [okAt]
    have o2 : okAt l 2 ↔ 128 ≤ by' l 2 ∧ by' l 2 ≤ 191 := by simp [okAt]
    have o3 : okAt l 3 ↔ 128 ≤ by' l 3 ∧ by' l 3 ≤ 191 := by simp [okAt]
    constructor
    · rintro ⟨_, c2, c3⟩
      have e1 := o1.1 (c3 1 (by omega) (by omega))
      unfold slowN
      rw [if_neg (by omega), if_neg (by omega)]
      by_cases q2 : kOf (by' l 0) ≤ 2
      · rw [if_pos q2]; simp only; omega
      · have e2 := o2.1 (c3 2 (by omega) (by omega))
        rw [if_neg q2, if_neg (by omega)]
        by_cases q3 : kOf (by' l 0) ≤ 3
        · rw [if_pos q3]; simp only; omega
        · have e3 := o3.1 (c3 3 (by omega) (by omega))
          rw [if_neg q3, if_neg (by omega)]; simp only; omega
    · intro hn
      unfold slowN
      by_cases c2 : l.length < kOf (by' l 0)
      · rw [if_pos c2]; exact ⟨rfl, rfl⟩
      · rw [if_neg c2]
        by_cases e1 : by' l 1 < loOf (by' l 0) ∨ hiOf (by' l 0) < by' l 1
        · rw [if_pos e1]; exact ⟨rfl, rfl⟩
        · rw [if_neg e1]
          have f1 := o1.2 (by omega)
          by_cases q2 : kOf (by' l 0) ≤ 2
          · exact absurd ⟨by omega, by omega, fun j a b => by obtain rfl : j = 1 := by omega
                                                              exact f1⟩ hn
          · rw [if_neg q2]
            by_cases e2 : by' l 2 < 128 ∨ 191 < by' l 2
            · rw [if_pos e2]; exact ⟨rfl, rfl⟩
            · rw [if_neg e2]
              have f2 := o2.2 (by omega)
              by_cases q3 : kOf (by' l 0) ≤ 3
              · refine absurd ⟨by omega, by omega, fun j a b => ?_⟩ hn
                rcases (show j = 1 ∨ j = 2 by omega) with rfl | rfl
                · exact f1
                · exact f2
              · rw [if_neg q3]
                by_cases e3 : by' l 3 < 128 ∨ 191 < by' l 3
                · rw [if_pos e3]; exact ⟨rfl, rfl⟩
                · have f3 := o3.2 (by omega)
                  refine absurd ⟨by omega, by omega, fun j a b => ?_⟩ hn
                  rcases (show j = 1 ∨ j = 2 ∨ j = 3 by omega) with rfl | rfl | rfl
                  · exact f1
                  · exact f2
                  · exact f3
def runesF (l : List UInt8) : Int := if validD l = true then ((decsL l).length : Int) else -1
structure RInv (l0 l : List UInt8) (n : Int) : Prop where
  v : validD l = validD l0
  c : n + (decsL l).length = (decsL l0).length
  n0 : 0 ≤ n
  b : n + l.length ≤ l0.length
theorem RInv.start (l : List UInt8) : RInv l l 0 := ⟨rfl, by omega, by omega, by omega⟩
theorem RInv.bad {l0 l : List UInt8} {n : Int} (h : RInv l0 l n) (hne : l ≠ []) (hb : ¬ stepOk l) : runesF l0 = -1 := by
  have this : (decodeL l).1 = 65533 ∧ (decodeL l).2 = 1 := (table hne).2 hb
  have hv := h.v
  rw [validD_step hne, if_pos this] at hv
  rw [runesF, ← hv]; rfl
theorem RInv.step {l0 l : List UInt8} {n : Int} (h : RInv l0 l n) (hne : l ≠ []) (hb : stepOk l) : RInv l0 (l.drop (kOf (by' l 0))) (n + 1) := by
  have this := (table hne).1 hb
  have hnb : ¬ ((decodeL l).1 = 65533 ∧ (decodeL l).2 = 1) := this.1
  have hv := h.v; have hc := h.c; have h0 := h.n0; have hbb := h.b
  rw [validD_step hne, if_neg hnb, this.2] at hv
  rw [decsL_step hne, this.2, List.length_cons] at hc
  have := hb.1; have := hb.2.1
  exact ⟨hv, by omega, by omega, by rw [List.length_drop]; omega⟩
theorem RInv.stop {l0 : List UInt8} {n : Int} (h : RInv l0 [] n) : n = runesF l0 := by
  have hv := h.v; have hc := h.c
  have e1 : validD [] = true := rfl
  have e2 : (decsL []).length = 0 := rfl
  rw [e1] at hv; rw [e2] at hc
  rw [runesF, if_pos hv.symm]; omega
theorem runesF_str (s : ByteArray) : runesF s.data.toList = if valid s = true then ((dec s).length : Int) else -1 := rfl
section
variable {S : Nat → Prop} {w0 : World} {L : List Res}
theorem rd_dropF {α : Type} {f : α → Value} {v : Value} {ns : List α} {w : World} (h : Hp S w0 w (.rd v 1 ns.length (ns.map f) :: L)) (k : Nat) (hk : k ≤ ns.length) : Hp S w0 w (.rd (Value.cut v k ns.length 1) 1 (ns.drop k).length ((ns.drop k).map f) :: L) := by
  have := rd_cut h k ns.length hk (Nat.le_refl _)
  rw [List.length_drop]
  simp only [Nat.mul_one] at this
  rw [List.take_of_length_le (by rw [List.length_drop, List.length_map]; omega), ← List.map_drop] at this
  exact this
abbrev u8v (b : UInt8) : Value := .int .u8 b.toNat
theorem lkU8 {l : List UInt8} {i k : Nat} (h : i < l.length) (hk : k = i) : (l.map u8v)[k]? = some (.int .u8 ((by' l i : Nat) : Int)) := by
  subst hk
  simp [by', List.getElem?_eq_getElem h, List.getD_eq_getElem?_getD]
end
end Go.SK

set_option linter.unusedVariables false
set_option linter.unusedSimpArgs false
set_option maxRecDepth 100000
namespace Go.SK
open Go
/-- A part behind a list (the last one first), as one with the last, if that is of its kind. -/
def oneR (r : List Part) (p : Part) : List Part := match r with
  | [] => [p]
  | q :: r' => if q.kind = p.kind then q.more p :: r' else p :: q :: r'
theorem oneR_nil (p : Part) : oneR [] p = [p] := rfl
theorem oneR_same {q : Part} {r : List Part} {p : Part} (h : q.kind = p.kind) : oneR (q :: r) p = q.more p :: r := if_pos h
theorem oneR_push {q : Part} {r : List Part} {p : Part} (h : ¬ q.kind = p.kind) : oneR (q :: r) p = p :: q :: r := if_neg h
theorem oneR_facts (r : List Part) (p : Part) (h : ∀ q ∈ r, 0 ≤ q.n) (h0 : 0 ≤ p.n) : (∀ q ∈ oneR r p, 0 ≤ q.n) ∧ nsum (oneR r p) = nsum r + p.n ∧ tsum (oneR r p) = tsum r + p.text.size ∧ (oneR r p).length ≤ r.length + 1 := by
  cases r with
  | nil => simp [oneR, nsum, tsum, h0]
  | cons q r =>
    unfold oneR
    simp only
    have hq := h q (.head _)
    split
    · refine ⟨fun x hx => ?_, by simp only [nsum, Part.more]; omega, by simp only [tsum, Part.more, ByteArray.size_append]; omega, by simp⟩
      rcases List.mem_cons.1 hx with rfl | hx
      · simp only [Part.more]; omega
      · exact h x (.tail _ hx)
    · refine ⟨fun x hx => ?_, by simp only [nsum]; omega, by simp only [tsum]; omega, by simp⟩
      rcases List.mem_cons.1 hx with rfl | hx
      · exact h0
      · exact h x hx
/-- The list of parts as the document puts it into one form. -/
def normStep (r : List Part) (p : Part) : List Part := if fitsB p = true then (match r with
    | d :: r' => if p.kind = 2 ∧ d.kind = 3 then oneR (oneR r' p) d else oneR r p
    | [] => oneR r p) else r
def normRef (l : List Part) : List Part := (l.foldl normStep []).reverse
/-- No two neighbours are of one kind. -/
def Alt : List Part → Prop
  | [] => True
  | [_] => True
  | p :: q :: r => p.kind ≠ q.kind ∧ Alt (q :: r)
theorem Alt.tail {p : Part} {r : List Part} (h : Alt (p :: r)) : Alt r := by
  cases r with
  | nil => trivial
  | cons q r => exact h.2
theorem Alt.cons {p : Part} {r : List Part} (h : Alt r) (hp : ∀ q, r.head? = some q → p.kind ≠ q.kind) : Alt (p :: r) := by
  cases r with
  | nil => trivial
  | cons q r => exact ⟨hp q rfl, h⟩
theorem Alt.head {p q : Part} {r : List Part} (h : Alt (p :: r)) (hk : q.kind = p.kind) : Alt (q :: r) := by
  cases r with
  | nil => trivial
  | cons s r => exact ⟨by rw [hk]; exact h.1, h.2⟩
theorem oneR_alt {r : List Part} {p : Part} (h : Alt r) : Alt (oneR r p) ∧ (∀ q, (oneR r p).head? = some q → q.kind = p.kind) := by
  cases r with
  | nil => exact ⟨trivial, fun q hq => by simp [oneR] at hq; rw [hq]⟩
  | cons q r =>
    by_cases hk : q.kind = p.kind
    · rw [oneR_same hk]
      exact ⟨h.head rfl, fun s hs => by simp at hs; rw [← hs]; exact hk⟩
    · rw [oneR_push hk]
      exact ⟨⟨fun e => hk e.symm, h⟩, fun s hs => by simp at hs; rw [hs]⟩
theorem addR_oneR {r : List Part} {p : Part} (hn : ¬ p.n = 0) (h : Alt r) : addR r p = match r with
    | d :: r' => if p.kind = 2 ∧ d.kind = 3 then oneR (oneR r' p) d else oneR r p
    | [] => oneR r p := by
  cases r with
  | nil => rw [addR_nil hn]; rfl
  | cons q r =>
    simp only
    by_cases hk : q.kind = p.kind
    · rw [addR_more hn hk, if_neg (by omega), oneR_same hk]
    · by_cases hc : p.kind ≠ 2 ∨ q.kind ≠ 3
      · rw [addR_push hn hk hc, if_neg (by omega), oneR_push hk]
      · rw [addR_deep hn hk hc, if_pos (by omega)]
        have h1 : addR r p = oneR r p := by
          cases r with
          | nil => rw [addR_nil hn]; rfl
          | cons s r =>
            have hs := h.1
            by_cases hk2 : s.kind = p.kind
            · rw [addR_more hn hk2, oneR_same hk2]
            · rw [addR_push hn hk2 (by omega), oneR_push hk2]
        have h2 := (oneR_alt (p := p) h.tail).2
        rw [h1]
        cases ho : oneR r p with
        | nil => rfl
        | cons s t =>
          have := h2 s (by rw [ho]; rfl)
          rw [oneR_push (by omega)]
theorem normStep_alt {r : List Part} {p : Part} (h : Alt r) : Alt (normStep r p) := by
  unfold normStep
  split
  · split
    · split
      · exact (oneR_alt (oneR_alt h.tail).1).1
      · exact (oneR_alt h).1
    · exact (oneR_alt h).1
  · exact h
theorem normStep_fit {r : List Part} {p : Part} (h : fitsB p = true) : normStep r p = match r with
    | d :: r' => if p.kind = 2 ∧ d.kind = 3 then oneR (oneR r' p) d else oneR r p
    | [] => oneR r p := by unfold normStep; rw [if_pos h]
theorem normStep_no {r : List Part} {p : Part} (h : ¬ fitsB p = true) : normStep r p = r := by unfold normStep; rw [if_neg h]
theorem norm_same (l : List Part) : normF l = normRef l := by
  unfold normF normRef
  congr 1
  have key : ∀ (l r : List Part), Alt r → addRs r (l.filter fitsB) = l.foldl normStep r := by
    intro l
    induction l with
    | nil => intro r _; rfl
    | cons p l ih =>
      intro r hr
      rw [List.foldl_cons, ← ih _ (normStep_alt hr), List.filter_cons]
      by_cases hf : fitsB p = true
      · rw [if_pos hf, addRs_cons]
        congr 1
        rw [addR_oneR (by have := fitsB_n hf; omega) hr, normStep_fit hf]
        cases r <;> rfl
      · rw [if_neg hf, normStep_no hf]
  exact key l [] trivial
/-- What the document answers to Replace. -/
def replRef (n a k : Int) (s : ByteArray) : List Part := if replBad n a k s then [] else (([⟨1, a, ⟨#[]⟩⟩, ⟨2, (rcount s : Int), s⟩, ⟨3, k, ⟨#[]⟩⟩, ⟨1, n - a - k, ⟨#[]⟩⟩] : List Part).foldl (fun r p => if 0 < p.n then oneR r p else r) []).reverse
theorem repl_same (n a k : Int) (s : ByteArray) : replF n a k s = replRef n a k s := by
  unfold replF replRef
  split
  · rfl
  · rename_i h
    unfold replBad at h
    congr 1
    show addR (addR (addR (addR [] (keepP a)) (putP s)) (dropP k)) (keepP (n - a - k)) = _
    have e1 : (keepP a) = ⟨1, a, ⟨#[]⟩⟩ := rfl
    simp only [List.foldl_cons, List.foldl_nil, keepP, putP, dropP]
    have z : ∀ (r : List Part) (p : Part), 0 ≤ p.n → (∀ q, r.head? = some q → ¬ (p.kind = 2 ∧ q.kind = 3)) → addR r p = if 0 < p.n then oneR r p else r := by
      intro r p hp hq
      by_cases h0 : p.n = 0
      · rw [addR_zero h0, if_neg (by omega)]
      · rw [if_pos (by omega)]
        cases r with
        | nil => rw [addR_nil h0]; rfl
        | cons q r =>
          have := hq q rfl
          by_cases hk : q.kind = p.kind
          · rw [addR_more h0 hk, oneR_same hk]
          · rw [addR_push h0 hk (by omega), oneR_push hk]
    rw [z [] ⟨1, a, ⟨#[]⟩⟩ (by show 0 ≤ a; omega) (by simp), z _ ⟨2, (rcount s : Int), s⟩ (by show (0 : Int) ≤ (rcount s : Int); omega), z _ ⟨3, k, ⟨#[]⟩⟩ (by show 0 ≤ k; omega), z _ ⟨1, n - a - k, ⟨#[]⟩⟩ (by show 0 ≤ n - a - k; omega)]
    · intro q _ hh; simp at hh
    · intro q _ hh; simp at hh
    · intro q hq
      split at hq
      · simp [oneR] at hq; rw [← hq]; simp
      · simp at hq
theorem okAt_of {l : List UInt8} {i : Nat} (h1 : ¬ ((by' l i : Nat) : Int) < ((if i = 1 then loOf (by' l 0) else 128 : Nat) : Int)) (h2 : ¬ ((if i = 1 then hiOf (by' l 0) else 191 : Nat) : Int) < ((by' l i : Nat) : Int)) : okAt l i := ⟨by omega, by omega⟩
theorem okBad1 {l : List UInt8} {i : Nat} (h1 : ((by' l i : Nat) : Int) < ((if i = 1 then loOf (by' l 0) else 128 : Nat) : Int)) (h : okAt l i) : False := by have := h.1; omega
theorem okBad2 {l : List UInt8} {i : Nat} (h2 : ((if i = 1 then hiOf (by' l 0) else 191 : Nat) : Int) < ((by' l i : Nat) : Int)) (h : okAt l i) : False := by have := h.2; omega
theorem okAt_succ {l : List UInt8} {i : Nat} (h : ∀ j, 1 ≤ j → j < i → okAt l j) (hi : okAt l i) : ∀ j, 1 ≤ j → j < i + 1 → okAt l j := fun j a b => by
  rcases Nat.lt_or_ge j i with hj | hj
  · exact h j a hj
  · obtain rfl : j = i := by omega
    exact hi
theorem fitsB_two {p : Part} (h1 : ¬ p.n < 1) (h2 : ¬ 1099511627776 < p.n) (hk : p.kind = 2) : decide (runesF p.text.data.toList = p.n) = fitsB p := by
  unfold fitsB
  rw [if_neg h1, if_neg h2, if_neg (by omega), if_neg (by omega), if_pos hk, runesF_str, rcount_dec]
  cases hv : valid p.text
  · have : ¬ ((if (false : Bool) = true then ((dec p.text).length : Int) else -1) = p.n) := by rw [if_neg (by simp)]; omega
    rw [decide_eq_false this]; rfl
  · simp
theorem OneB.of {r : List Part} {p : Part} (h : ∀ q ∈ r, 0 ≤ q.n) (h0 : 0 ≤ p.n) (h1 : nsum r + p.n ≤ 4611686018427387904) (h2 : tsum r + p.text.size ≤ 4611686018427387904) (h3 : r.length < 1099511627776) : OneB r p := ⟨h, h0, h1, h2, h3⟩
theorem runesF_cases (s : ByteArray) : (valid s = true ∧ runesF s.data.toList = (rcount s : Int)) ∨ (valid s = false ∧ runesF s.data.toList = -1) := by
  rw [runesF_str, rcount_dec]
  cases hv : valid s
  · exact .inr ⟨rfl, by simp⟩
  · exact .inl ⟨rfl, by simp⟩
theorem Rdb.takeR {L : List Go.SK.Res} {v : Value} {q : Part} {r : List Part} (h : Rdb L v 3 (q :: r).length (encs (q :: r).reverse)) : Rdb L (Value.cut v 0 r.length 3) 3 r.length (encs r.reverse) := by
  have h1 := h.cut 0 r.length (Nat.zero_le _) (by simp)
  rw [encs_rev, Nat.zero_mul, List.drop_zero, Nat.sub_zero, List.take_append_of_le_length (by rw [encs3, List.length_reverse]; exact Nat.le_refl _), List.take_of_length_le (by rw [encs3, List.length_reverse]; exact Nat.le_refl _)] at h1
  exact h1
theorem row_len3 {S : Nat → Prop} {w0 w : World} {L : List Go.SK.Res} {v : Value} {e m : Nat} {l : List Part} (h : Hp S w0 w (.row v e 3 m (encs l) :: L)) : Hp S w0 w (.row v e 3 l.length (encs l) :: L) := by
  have h1 : w.ownsRow 0 e 3 v m (encs l) := h.at_ _ (.head _)
  have h2 : l.length = m := by have := h1.1; rw [encs3] at this; omega
  rw [h2]; exact h
/-- What is put, and behind that what is dropped. -/
def bothR (r : List Part) (s : ByteArray) (d : Int) : List Part := if 0 < d then oneR (if s = ⟨#[]⟩ then r else oneR r (putP s)) (dropP d) else (if s = ⟨#[]⟩ then r else oneR r (putP s))
structure BothB (r : List Part) (s : ByteArray) (d : Int) : Prop where
  pos : ∀ q ∈ r, 0 ≤ q.n
  d0 : 0 ≤ d
  n : nsum r + rcount s + d ≤ 4611686018427387904
  t : tsum r + s.size ≤ 4611686018427387904
  len : r.length + 1 < 1099511627776
theorem BothB.b1 {r : List Part} {s : ByteArray} {d : Int} (h : BothB r s d) : OneB r (putP s) := by
  have h1 := h.n; have h2 := h.t; have h3 := h.len; have h4 := h.d0
  exact ⟨h.pos, by simp only [putP]; omega, by simp only [putP]; omega, by simp only [putP]; omega, by omega⟩
theorem BothB.b2 {r : List Part} {s : ByteArray} {d : Int} (h : BothB r s d) : OneB (oneR r (putP s)) (dropP d) := by
  have h1 := h.n; have h2 := h.t; have h3 := h.len; have h4 := h.d0
  obtain ⟨a1, a2, a3, a4⟩ := oneR_facts r (putP s) h.pos (by simp only [putP]; omega)
  simp only [putP] at a2 a3
  have e0 : (⟨#[]⟩ : ByteArray).size = 0 := rfl
  exact ⟨a1, h4, by simp only [dropP, putP]; omega, by simp only [dropP, putP]; omega, by omega⟩
theorem BothB.b3 {r : List Part} {s : ByteArray} {d : Int} (h : BothB r s d) : OneB r (dropP d) := by
  have h1 := h.n; have h2 := h.t; have h3 := h.len; have h4 := h.d0
  have e0 : (⟨#[]⟩ : ByteArray).size = 0 := rfl
  exact ⟨h.pos, h4, by simp only [dropP]; omega, by simp only [dropP]; omega, by omega⟩
theorem bothR_facts {r : List Part} {s : ByteArray} {d : Int} (h : BothB r s d) : (∀ q ∈ bothR r s d, 0 ≤ q.n) ∧ nsum (bothR r s d) ≤ nsum r + rcount s + d ∧ tsum (bothR r s d) ≤ tsum r + s.size ∧ (bothR r s d).length ≤ r.length + 2 := by
  have h4 := h.d0
  have e0 : (dropP d).text.size = 0 := rfl
  have e1 : (dropP d).n = d := rfl
  have e2 : (putP s).text.size = s.size := rfl
  have e3 : (putP s).n = (rcount s : Int) := rfl
  unfold bothR
  split <;> split
  · obtain ⟨a1, a2, a3, a4⟩ := oneR_facts r (dropP d) h.pos h4
    exact ⟨a1, by omega, by omega, by omega⟩
  · obtain ⟨a1, a2, a3, a4⟩ := oneR_facts r (putP s) h.pos (by omega)
    obtain ⟨b1, b2, b3, b4⟩ := oneR_facts _ (dropP d) a1 h4
    exact ⟨b1, by omega, by omega, by omega⟩
  · exact ⟨h.pos, by omega, by omega, by omega⟩
  · obtain ⟨a1, a2, a3, a4⟩ := oneR_facts r (putP s) h.pos (by omega)
    exact ⟨a1, by omega, by omega, by omega⟩
/-- The state of the document's Norm. -/
structure NInv (e : List Part) (k : Nat) (r : List Part) : Prop where
  kle : k ≤ e.length
  go : (e.take k).foldl normStep [] = r
  pos : ∀ q ∈ r, 0 ≤ q.n
  n : nsum r ≤ k * 1099511627776
  t : (tsum r : Int) ≤ 4 * nsum r
  len : r.length ≤ k
theorem NInv.start (e : List Part) : NInv e 0 [] := ⟨Nat.zero_le _, rfl, by simp, by simp [nsum], by simp [nsum, tsum], by simp⟩
section
variable {e : List Part} {k : Nat} {r : List Part} {p : Part}
theorem NInv.skip (h : NInv e k r) (hk : k < e.length) (hp : e.getD k default = p) (hf : ¬ fitsB p = true) : NInv e (k + 1) r := by
  have h1 := h.n; have h2 := h.len
  refine ⟨by omega, ?_, h.pos, by omega, h.t, by omega⟩
  rw [take_getD hk hp, List.foldl_append, h.go]; exact normStep_no hf
theorem NInv.ob (h : NInv e k r) (hk : k < e.length) (hl : e.length ≤ 524288) (hf : fitsB p = true) : OneB r p := by
  have h1 := h.n; have h2 := h.len; have h3 := h.t; have h4 := fitsB_n hf; have h5 := fits_size hf
  exact ⟨h.pos, by omega, by omega, by omega, by omega⟩
theorem NInv.one (h : NInv e k r) (hk : k < e.length) (hp : e.getD k default = p) (hf : fitsB p = true) (hc : ∀ d r', r = d :: r' → ¬ (p.kind = 2 ∧ d.kind = 3)) : NInv e (k + 1) (oneR r p) := by
  have h1 := h.n; have h2 := h.len; have h3 := h.t; have h4 := fitsB_n hf; have h5 := fits_size hf
  obtain ⟨a1, a2, a3, a4⟩ := oneR_facts r p h.pos (by omega)
  refine ⟨by omega, ?_, a1, by omega, by omega, by omega⟩
  rw [take_getD hk hp, List.foldl_append, h.go]
  show normStep r p = _
  rw [normStep_fit hf]
  cases r with
  | nil => rfl
  | cons d r' => simp only; rw [if_neg (hc d r' rfl)]
theorem NInv.swap {d : Part} (h : NInv e k (d :: r)) (hk : k < e.length) (hp : e.getD k default = p) (hf : fitsB p = true) (h2 : p.kind = 2) (h3 : d.kind = 3) (hl : e.length ≤ 524288) : OneB r p ∧ OneB (oneR r p) d ∧ NInv e (k + 1) (oneR (oneR r p) d) := by
  have h1 := h.n; have hl2 := h.len; have ht := h.t; have h4 := fitsB_n hf; have h5 := fits_size hf
  have hd := h.pos d (.head _)
  simp only [nsum, tsum, List.length_cons] at h1 ht hl2
  have hr : ∀ q ∈ r, 0 ≤ q.n := fun q hq => h.pos q (.tail _ hq)
  obtain ⟨a1, a2, a3, a4⟩ := oneR_facts r p hr (by omega)
  obtain ⟨b1, b2, b3, b4⟩ := oneR_facts _ d a1 hd
  have hn := nsum_pos hr
  refine ⟨⟨hr, by omega, by omega, by omega, by omega⟩, ⟨a1, hd, by omega, by omega, by omega⟩, by omega, ?_, b1, by omega, by omega, by omega⟩
  rw [take_getD hk hp, List.foldl_append, h.go]
  show normStep (d :: r) p = _
  rw [normStep_fit hf]; simp only; rw [if_pos ⟨h2, h3⟩]
end
theorem take_eq_all {α : Type} {a b : List α} {k : Nat} (h : a.take k = b.take k) (ha : a.length ≤ k) (hl : a.length = b.length) : a = b := by
  rwa [List.take_of_length_le ha, List.take_of_length_le (by omega)] at h
structure RB4 (ps : List Part) (i : Nat) (r : List Part) : Prop where
  pos : ∀ q ∈ r, 0 ≤ q.n
  n : nsum r ≤ i * 1099511627776
  t : (tsum r : Int) ≤ i * 1152921504606846976
  len : r.length ≤ i
theorem RB4.start (ps : List Part) : RB4 ps 0 [] := ⟨by simp, by simp only [nsum]; omega, by simp only [tsum]; omega, by simp⟩
def RBnd (ps : List Part) : Prop := ∀ p ∈ ps, p.n ≤ 1099511627776 ∧ p.text.size ≤ 1152921504606846976
theorem RB4.skip {ps : List Part} {i : Nat} {r : List Part} {p : Part} (h : RB4 ps i r) (hk : i < ps.length) (hp : ps.getD i default = p) : RB4 ps (i + 1) r := by
  have h1 := h.n; have h2 := h.t; have h3 := h.len
  exact ⟨h.pos, by omega, by omega, by omega⟩
theorem repl_bounds {n a k : Int} {s : ByteArray} (h : ¬ replBad n a k s) (hs : s.size ≤ 1152921504606846976) : RBnd [⟨1, a, ⟨#[]⟩⟩, ⟨2, (rcount s : Int), s⟩, ⟨3, k, ⟨#[]⟩⟩, ⟨1, n - a - k, ⟨#[]⟩⟩] := by
  unfold replBad at h
  have e0 : (⟨#[]⟩ : ByteArray).size = 0 := rfl
  intro p hp
  simp only [List.mem_cons, List.not_mem_nil, or_false] at hp
  rcases hp with rfl | rfl | rfl | rfl <;> simp only <;> omega
theorem RB4.one {ps : List Part} {i : Nat} {r : List Part} {p : Part} (h : RB4 ps i r) (hb : RBnd ps) (hl : ps.length ≤ 4 := by decide) (hk : i < ps.length) (hp : ps.getD i default = p) (h0 : 0 < p.n) : OneB r p ∧ RB4 ps (i + 1) (oneR r p) := by
  have h1 := h.n; have h2 := h.t; have h3 := h.len
  have hm : p ∈ ps := by rw [← hp, List.getD_eq_getElem?_getD, List.getElem?_eq_getElem hk]; exact List.getElem_mem hk
  have h5 := hb p hm
  obtain ⟨a1, a2, a3, a4⟩ := oneR_facts r p h.pos (by omega)
  exact ⟨⟨h.pos, by omega, by omega, by omega, by omega⟩, a1, by omega, by omega, by omega⟩
end Go.SK

set_option linter.unusedVariables false
set_option linter.unusedSimpArgs false
set_option maxRecDepth 100000
namespace Go.SK
open Go
abbrev sXY : ByteArray := ⟨#[120, 121]⟩
abbrev sA : ByteArray := ⟨#[97]⟩
abbrev sB : ByteArray := ⟨#[98]⟩
abbrev sHello : ByteArray := ⟨#[104, 101, 108, 108, 111]⟩
abbrev s12 : ByteArray := ⟨#[49, 50]⟩
abbrev s1b2 : ByteArray := ⟨#[49, 98, 50]⟩
abbrev s1a2 : ByteArray := ⟨#[49, 97, 50]⟩
theorem aw1 : applyF (replF 5 2 1 sXY) sHello = ⟨#[104, 101, 120, 121, 108, 111]⟩ ∧ applyE (replF 5 2 1 sXY) sHello = 0 := ⟨by kernel_rfl, by kernel_rfl⟩
theorem awA : replF 2 1 0 sA = [⟨1, 1, ⟨#[]⟩⟩, ⟨2, 1, sA⟩, ⟨1, 1, ⟨#[]⟩⟩] := by kernel_rfl
theorem awB : replF 2 1 0 sB = [⟨1, 1, ⟨#[]⟩⟩, ⟨2, 1, sB⟩, ⟨1, 1, ⟨#[]⟩⟩] := by kernel_rfl
theorem awX : replF 5 2 1 sXY = [⟨1, 2, ⟨#[]⟩⟩, ⟨2, 2, sXY⟩, ⟨3, 1, ⟨#[]⟩⟩, ⟨1, 2, ⟨#[]⟩⟩] := by kernel_rfl
theorem awE : trE (replF 2 1 0 sA) (replF 2 1 0 sB) = 0 := by kernel_rfl
theorem aw2 : trF1 (replF 2 1 0 sA) (replF 2 1 0 sB) = [⟨1, 1, ⟨#[]⟩⟩, ⟨2, 1, sA⟩, ⟨1, 2, ⟨#[]⟩⟩] ∧ trF2 (replF 2 1 0 sA) (replF 2 1 0 sB) = [⟨1, 2, ⟨#[]⟩⟩, ⟨2, 1, sB⟩, ⟨1, 1, ⟨#[]⟩⟩] := ⟨by kernel_rfl, by kernel_rfl⟩
theorem aw3 : applyF (replF 2 1 0 sB) s12 = s1b2 ∧ applyE (replF 2 1 0 sB) s12 = 0 := ⟨by kernel_rfl, by kernel_rfl⟩
theorem aw4 : applyF (trF1 (replF 2 1 0 sA) (replF 2 1 0 sB)) s1b2 = ⟨#[49, 97, 98, 50]⟩ ∧ applyE (trF1 (replF 2 1 0 sA) (replF 2 1 0 sB)) s1b2 = 0 := ⟨by kernel_rfl, by kernel_rfl⟩
theorem aw5 : applyE (trF2 (replF 2 1 0 sA) (replF 2 1 0 sB)) s1a2 = 0 := by kernel_rfl
theorem aw6 : checkF [] 1 = 30 := by kernel_rfl
def small (e : List Part) : Prop := ∀ p ∈ e, p.text.size < 9223372036854775807
theorem smallA : small (replF 2 1 0 sA) := by rw [awA]; intro p hp; simp only [List.mem_cons, List.not_mem_nil, or_false] at hp; rcases hp with rfl | rfl | rfl <;> decide
theorem smallB : small (replF 2 1 0 sB) := by rw [awB]; intro p hp; simp only [List.mem_cons, List.not_mem_nil, or_false] at hp; rcases hp with rfl | rfl | rfl <;> decide
theorem smallX : small (replF 5 2 1 sXY) := by rw [awX]; intro p hp; simp only [List.mem_cons, List.not_mem_nil, or_false] at hp; rcases hp with rfl | rfl | rfl | rfl <;> decide
theorem small1 : small (trF1 (replF 2 1 0 sA) (replF 2 1 0 sB)) := by rw [aw2.1]; intro p hp; simp only [List.mem_cons, List.not_mem_nil, or_false] at hp; rcases hp with rfl | rfl | rfl <;> decide
theorem small2 : small (trF2 (replF 2 1 0 sA) (replF 2 1 0 sB)) := by rw [aw2.2]; intro p hp; simp only [List.mem_cons, List.not_mem_nil, or_false] at hp; rcases hp with rfl | rfl | rfl <;> decide
end Go.SK

set_option linter.unusedVariables false
set_option linter.unusedSimpArgs false
set_option maxRecDepth 100000
namespace Go.SK
open Go
/-- A part that fits, however long. -/
def FitU (p : Part) : Prop := 1 ≤ p.n ∧ ((p.kind = 1 ∧ p.text = ⟨#[]⟩) ∨ (p.kind = 3 ∧ p.text = ⟨#[]⟩) ∨ (p.kind = 2 ∧ valid p.text = true ∧ ((dec p.text).length : Int) = p.n))
theorem fitU_of {p : Part} (h : fitsB p = true) : FitU p := by have := fitsB_cases h; exact ⟨this.1, this.2.2⟩
theorem fitsB_of {p : Part} (h : FitU p) (h1 : p.n ≤ 1099511627776) : fitsB p = true := fitsB_mk h.1 h1 h.2
theorem FitU.kinds {p : Part} (h : FitU p) : p.kind = 1 ∨ p.kind = 2 ∨ p.kind = 3 := by rcases h.2 with h | h | h <;> omega
def FitsU (e : List Part) : Prop := ∀ p ∈ e, FitU p
theorem FitsU.tail {p : Part} {e : List Part} (h : FitsU (p :: e)) : FitsU e := fun q hq => h q (.tail _ hq)
theorem FitsU.cons {p : Part} {e : List Part} (h : FitU p) (h' : FitsU e) : FitsU (p :: e) := fun q hq => (List.mem_cons.1 hq).elim (fun x => x ▸ h) (h' q)
/-- May a part of kind j stand behind what k says? -/
def okPrev (k : Option Int) (j : Int) : Prop := match k with
  | none => True
  | some k => k ≠ j ∧ ¬ (k = 3 ∧ j = 2)
def NA : Option Int → List Part → Prop
  | _, [] => True
  | k, p :: r => okPrev k p.kind ∧ NA (some p.kind) r
theorem stopB_iff {k : Option Int} {p : Part} : stopB k p = false ↔ fitsB p = true ∧ okPrev k p.kind := by
  unfold stopB okPrev
  cases k with
  | none => simp
  | some k => simp
theorem fromS_posU : ∀ {e : List Part}, FitsU e → 0 ≤ fromS e ∧ 0 ≤ toS e
  | [], _ => by simp [fromS, toS]
  | p :: r, h => by
    have h1 := h p (.head _); have h2 := fromS_posU h.tail
    have := h1.1
    simp only [fromS, toS]
    constructor <;> split <;> omega
theorem sizesGo_iff : ∀ (e : List Part) (k : Option Int) (f t : Int), 0 ≤ f → f ≤ 1099511627776 → 0 ≤ t → t ≤ 1099511627776 →
    ((sizesGo k e f t).2.2 = true ↔ FitsU e ∧ NA k e ∧ f + fromS e ≤ 1099511627776 ∧ t + toS e ≤ 1099511627776)
  | [], k, f, t, _, h2, _, h4 => by simp [sizesGo, FitsU, NA, fromS, toS, h2, h4]
  | p :: r, k, f, t, h1, h2, h3, h4 => by
    simp only [sizesGo]
    by_cases hs : stopB k p = true
    · rw [if_pos hs]
      refine ⟨fun h => (by cases h), fun ⟨g1, g2, g3, g4⟩ => ?_⟩
      have g5 := g1 p (.head _)
      have g6 := fromS_posU g1.tail
      simp only [fromS, toS] at g3 g4
      have g7 : p.n ≤ 1099511627776 := by
        rcases g5.kinds with hk | hk | hk
        · rw [if_neg (by omega)] at g3; omega
        · rw [if_neg (by omega)] at g4; omega
        · rw [if_neg (by omega)] at g3; omega
      have := stopB_iff.2 ⟨fitsB_of g5 g7, g2.1⟩
      rw [this] at hs; cases hs
    · rw [if_neg hs]
      obtain ⟨a1, a2⟩ := stopB_iff.1 (by simpa using hs : stopB k p = false)
      have a3 := fitsB_n a1
      by_cases hb : 1099511627776 < addF p f ∨ 1099511627776 < addT p t
      · rw [if_pos hb]
        refine ⟨fun h => (by cases h), fun ⟨g1, g2, g3, g4⟩ => ?_⟩
        have g6 := fromS_posU g1.tail
        simp only [fromS, toS] at g3 g4
        unfold addF addT at hb
        rcases hb with hb | hb
        · split at hb <;> rename_i hk
          · omega
          · rw [if_neg hk] at g3; omega
        · split at hb <;> rename_i hk
          · omega
          · rw [if_neg hk] at g4; omega
      · rw [if_neg hb, sizesGo_iff r (some p.kind) (addF p f) (addT p t) (by unfold addF; split <;> omega) (by omega) (by unfold addT; split <;> omega) (by omega)]
        have e1 : addF p f + fromS r = f + fromS (p :: r) := by simp only [addF, fromS]; split <;> omega
        have e2 : addT p t + toS r = t + toS (p :: r) := by simp only [addT, toS]; split <;> omega
        rw [e1, e2]
        exact ⟨fun ⟨g1, g2, g3, g4⟩ => ⟨FitsU.cons (fitU_of a1) g1, ⟨a2, g2⟩, g3, g4⟩, fun ⟨g1, g2, g3, g4⟩ => ⟨g1.tail, g2.2, g3, g4⟩⟩
/-- An edit. -/
def Ok (e : List Part) : Prop := FitsU e ∧ NA none e ∧ fromS e ≤ 1099511627776 ∧ toS e ≤ 1099511627776
theorem ok_iff {e : List Part} : (sizesF e).2.2 = true ↔ Ok e := by
  have := sizesGo_iff e none 0 0 (by omega) (by omega) (by omega) (by omega)
  unfold sizesF Ok
  rw [this]; simp
theorem Ok.sizes {e : List Part} (h : Ok e) : sizesF e = (fromS e, toS e, true) := by
  have h1 := ok_iff.2 h
  have h2 := sizesF_sum h1
  exact Prod.ext h2.1 (Prod.ext h2.2.1 h1)
theorem Ok.fits {e : List Part} (h : Ok e) : Fits e := (sizesF_sum (ok_iff.2 h)).2.2
theorem not_ok {e : List Part} (h : ¬ Ok e) : (sizesF e).2.2 = false := by
  cases hh : (sizesF e).2.2 with
  | false => rfl
  | true => exact absurd (ok_iff.1 hh) h
theorem checkF_iff {e : List Part} {n : Int} : checkF e n = 0 ↔ Ok e ∧ fromS e = n := by
  constructor
  · intro h; have := checkF_ok h; exact ⟨ok_iff.1 this.1, this.2.1⟩
  · rintro ⟨h1, h2⟩
    unfold checkF; rw [h1.sizes]; simp [h2]
/-! ### The same, the last one first -/
def NAR : List Part → Prop
  | [] => True
  | [_] => True
  | p :: q :: r => okPrev (some q.kind) p.kind ∧ NAR (q :: r)
def lastK (k : Option Int) : List Part → Option Int
  | [] => k
  | p :: r => lastK (some p.kind) r
theorem NA_append : ∀ (a b : List Part) (k : Option Int), NA k (a ++ b) ↔ NA k a ∧ NA (lastK k a) b
  | [], b, k => by simp [NA, lastK]
  | p :: a, b, k => by
    have ih := NA_append a b (some p.kind)
    exact ⟨fun h => ⟨⟨h.1, (ih.1 h.2).1⟩, (ih.1 h.2).2⟩, fun h => ⟨h.1.1, ih.2 ⟨h.1.2, h.2⟩⟩⟩
theorem lastK_append (a : List Part) (p : Part) (k : Option Int) : lastK k (a ++ [p]) = some p.kind := by
  induction a generalizing k with
  | nil => rfl
  | cons q a ih => exact ih _
theorem NA_rev : ∀ (r : List Part), NA none r.reverse ↔ NAR r
  | [] => by simp [NA, NAR]
  | [p] => by simp [NA, NAR, okPrev]
  | p :: q :: r => by
    rw [List.reverse_cons, NA_append, NA_rev (q :: r)]
    rw [show lastK none (q :: r).reverse = some q.kind by rw [List.reverse_cons, lastK_append]]
    simp only [NA, NAR, and_true]
    exact And.comm
theorem NAR.tail {p : Part} {r : List Part} (h : NAR (p :: r)) : NAR r := by
  cases r with
  | nil => trivial
  | cons q r => exact h.2
theorem fromS_append (a b : List Part) : fromS (a ++ b) = fromS a + fromS b ∧ toS (a ++ b) = toS a + toS b := by
  induction a with
  | nil => simp [fromS, toS]
  | cons p a ih => simp only [List.cons_append, fromS, toS]; omega
theorem fromS_rev (r : List Part) : fromS r.reverse = fromS r ∧ toS r.reverse = toS r := by
  induction r with
  | nil => simp [fromS, toS]
  | cons p r ih =>
    have := fromS_append r.reverse [p]
    rw [List.reverse_cons, this.1, this.2, ih.1, ih.2]
    simp only [fromS, toS]; omega
theorem more_fit {q p : Part} (hq : FitU q) (hp : FitU p) (h : q.kind = p.kind) : FitU (q.more p) := by
  have e0 : (⟨#[]⟩ : ByteArray) ++ ⟨#[]⟩ = ⟨#[]⟩ := rfl
  refine ⟨by have := hq.1; have := hp.1; simp only [Part.more]; omega, ?_⟩
  simp only [Part.more]
  rcases hq.2 with ⟨k1, t1⟩ | ⟨k1, t1⟩ | ⟨k1, v1, l1⟩ <;> rcases hp.2 with ⟨k2, t2⟩ | ⟨k2, t2⟩ | ⟨k2, v2, l2⟩ <;> try omega
  · exact .inl ⟨k1, by rw [t1, t2, e0]⟩
  · exact .inr (.inl ⟨k1, by rw [t1, t2, e0]⟩)
  · exact .inr (.inr ⟨k1, valid_append v1 v2, by rw [dec_append v1 v2, List.length_append]; omega⟩)
/-- What a maker holds is in its one form. -/
structure MK (r : List Part) : Prop where
  fit : FitsU r
  na : NAR r
theorem MK.nil : MK [] := ⟨fun _ h => (by cases h), trivial⟩
theorem MK.tail {p : Part} {r : List Part} (h : MK (p :: r)) : MK r := ⟨h.fit.tail, h.na.tail⟩
theorem addR_head {r : List Part} {p : Part} (hn : ¬ p.n = 0) : ∀ q, (addR r p).head? = some q → q.kind = p.kind ∨ (q.kind = 3 ∧ p.kind = 2) := by
  intro q hq
  cases r with
  | nil => rw [addR_nil hn] at hq; simp at hq; rw [hq]; exact .inl rfl
  | cons s r =>
    by_cases h1 : s.kind = p.kind
    · rw [addR_more hn h1] at hq; simp at hq; rw [← hq]; exact .inl h1
    · by_cases h2 : p.kind ≠ 2 ∨ s.kind ≠ 3
      · rw [addR_push hn h1 h2] at hq; simp at hq; rw [hq]; exact .inl rfl
      · rw [addR_deep hn h1 h2] at hq; simp at hq; rw [← hq]; exact .inr ⟨by omega, by omega⟩
theorem MK.add : ∀ {r : List Part} {p : Part}, MK r → FitU p → MK (addR r p)
  | [], p, h, hp => by
    rw [addR_nil (by have := hp.1; omega)]
    exact ⟨FitsU.cons hp (fun _ h => (by cases h)), trivial⟩
  | q :: r, p, h, hp => by
    have hn : ¬ p.n = 0 := by have := hp.1; omega
    have hq := h.fit q (.head _)
    by_cases h1 : q.kind = p.kind
    · rw [addR_more hn h1]
      refine ⟨FitsU.cons (more_fit hq hp h1) h.fit.tail, ?_⟩
      cases r with
      | nil => trivial
      | cons s r => exact h.na
    · by_cases h2 : p.kind ≠ 2 ∨ q.kind ≠ 3
      · rw [addR_push hn h1 h2]
        exact ⟨FitsU.cons hp h.fit, ⟨h1, by omega⟩, h.na⟩
      · rw [addR_deep hn h1 h2]
        have ih := MK.add h.tail hp
        refine ⟨FitsU.cons hq ih.fit, ?_⟩
        have hh := addR_head (r := r) hn
        have key : ∀ s, (addR r p).head? = some s → okPrev (some s.kind) q.kind := by
          intro s hs
          have hs3 : ¬ s.kind = 3 := by
            intro hs3
            cases r with
            | nil => rw [addR_nil hn] at hs; simp at hs; rw [← hs] at hs3; omega
            | cons u r =>
              have hu := h.na.1
              by_cases c1 : u.kind = p.kind
              · rw [addR_more hn c1] at hs; simp at hs; rw [← hs] at hs3; simp only [Part.more] at hs3; omega
              · by_cases c2 : p.kind ≠ 2 ∨ u.kind ≠ 3
                · rw [addR_push hn c1 c2] at hs; simp at hs; rw [← hs] at hs3; omega
                · exact absurd hu.1 (by omega)
          exact ⟨by omega, by omega⟩
        cases hr : addR r p with
        | nil => trivial
        | cons s t => rw [hr] at ih key; exact ⟨key s rfl, ih.na⟩
theorem addR_sum : ∀ (r : List Part) (p : Part), FitU p → fromS (addR r p) = fromS r + (if p.kind = 2 then 0 else p.n) ∧ toS (addR r p) = toS r + (if p.kind = 3 then 0 else p.n)
  | [], p, hp => by
    rw [addR_nil (by have := hp.1; omega)]
    simp only [fromS, toS]; omega
  | q :: r, p, hp => by
    have hn : ¬ p.n = 0 := by have := hp.1; omega
    by_cases h1 : q.kind = p.kind
    · rw [addR_more hn h1]
      simp only [fromS, toS, Part.more, h1]
      constructor <;> split <;> omega
    · by_cases h2 : p.kind ≠ 2 ∨ q.kind ≠ 3
      · rw [addR_push hn h1 h2]; simp only [fromS, toS]; omega
      · rw [addR_deep hn h1 h2]
        have := addR_sum r p hp
        simp only [fromS, toS]; omega
theorem addRs_mk : ∀ (ps r : List Part), MK r → FitsU ps → MK (addRs r ps) ∧ fromS (addRs r ps) = fromS r + fromS ps ∧ toS (addRs r ps) = toS r + toS ps
  | [], r, h, _ => ⟨h, by simp [addRs, fromS], by simp [addRs, toS]⟩
  | p :: ps, r, h, hp => by
    have h1 := addR_sum r p (hp p (.head _))
    obtain ⟨a1, a2, a3⟩ := addRs_mk ps (addR r p) (h.add (hp p (.head _))) hp.tail
    rw [addRs_cons]
    exact ⟨a1, by rw [a2, h1.1]; simp only [fromS]; omega, by rw [a3, h1.2]; simp only [toS]; omega⟩
theorem MK.ok {r : List Part} (h : MK r) (h1 : fromS r ≤ 1099511627776) (h2 : toS r ≤ 1099511627776) : Ok r.reverse := by
  have h3 := fromS_rev r
  exact ⟨fun p hp => h.fit p (List.mem_reverse.1 hp), (NA_rev r).2 h.na, by omega, by omega⟩
/-- Parts of no length go for nothing. -/
theorem addRs_filter : ∀ (ps r : List Part), addRs r ps = addRs r (ps.filter fun p => decide (p.n ≠ 0))
  | [], r => rfl
  | p :: ps, r => by
    rw [addRs_cons, List.filter_cons]
    by_cases h : p.n = 0
    · rw [addR_zero h, if_neg (by simp [h])]; exact addRs_filter ps r
    · rw [if_pos (by simp [h]), addRs_cons]; exact addRs_filter ps _
/-! ### The edit by which a stretch becomes a text -/
theorem repl_ok {n a k : Int} {s : ByteArray} (h : ¬ replBad n a k s) : Ok (replF n a k s) ∧ fromS (replF n a k s) = n ∧ toS (replF n a k s) = n - k + rcount s := by
  have hb := h
  unfold replBad at h
  have hv : valid s = true := by cases hh : valid s <;> simp_all
  rw [replF, if_neg hb, addRs_filter]
  have hf : FitsU ([keepP a, putP s, dropP k, keepP (n - a - k)].filter fun p => decide (p.n ≠ 0)) := by
    intro p hp
    obtain ⟨h1, h2⟩ := List.mem_filter.1 hp
    simp only [ne_eq, decide_not, Bool.not_eq_true', decide_eq_false_iff_not] at h2
    simp only [List.mem_cons, List.not_mem_nil, or_false] at h1
    rcases h1 with rfl | rfl | rfl | rfl
    · exact ⟨by simp only [keepP] at h2 ⊢; omega, .inl ⟨rfl, rfl⟩⟩
    · exact ⟨by simp only [putP] at h2 ⊢; omega, .inr (.inr ⟨rfl, hv, by simp only [putP, rcount_dec]⟩)⟩
    · exact ⟨by simp only [dropP] at h2 ⊢; omega, .inr (.inl ⟨rfl, rfl⟩)⟩
    · exact ⟨by simp only [keepP] at h2 ⊢; omega, .inl ⟨rfl, rfl⟩⟩
  obtain ⟨m1, m2, m3⟩ := addRs_mk _ [] MK.nil hf
  have hz : ∀ l : List Part, fromS (l.filter fun p => decide (p.n ≠ 0)) = fromS l ∧ toS (l.filter fun p => decide (p.n ≠ 0)) = toS l := by
    intro l
    induction l with
    | nil => simp
    | cons p l ih =>
      rw [List.filter_cons]
      by_cases h0 : p.n = 0
      · rw [if_neg (by simp [h0])]; simp only [fromS, toS, h0]; constructor <;> split <;> omega
      · rw [if_pos (by simp [h0])]; simp only [fromS, toS]; omega
  rw [(hz _).1] at m2; rw [(hz _).2] at m3
  have e1 : fromS [keepP a, putP s, dropP k, keepP (n - a - k)] = n := by simp [fromS, keepP, putP, dropP]; omega
  have e2 : toS [keepP a, putP s, dropP k, keepP (n - a - k)] = n - k + rcount s := by simp [toS, keepP, putP, dropP]; omega
  have z0 : fromS ([] : List Part) = 0 := rfl
  have z1 : toS ([] : List Part) = 0 := rfl
  rw [e1] at m2; rw [e2] at m3
  have h3 := fromS_rev (addRs [] ([keepP a, putP s, dropP k, keepP (n - a - k)].filter fun p => decide (p.n ≠ 0)))
  exact ⟨m1.ok (by omega) (by omega), by omega, by omega⟩
theorem repl_check {n a k : Int} {s : ByteArray} (h : replE n a k s = 0) : checkF (replF n a k s) n = 0 := by
  have hb : ¬ replBad n a k s := by intro hb; rw [replE, if_pos hb] at h; cases h
  exact checkF_iff.2 ⟨(repl_ok hb).1, (repl_ok hb).2.1⟩
theorem small_of {e : List Part} (h : Fits e) : small e := fun p hp => by have := fits_sizeN (h p hp); omega
theorem small_nil : small [] := fun p hp => by cases hp
theorem repl_small (n a k : Int) (s : ByteArray) : small (replF n a k s) := by
  by_cases h : replBad n a k s
  · rw [replF, if_pos h]; exact small_nil
  · exact small_of (repl_ok h).1.fits
end Go.SK

set_option linter.unusedVariables false
set_option linter.unusedSimpArgs false
set_option maxRecDepth 100000
namespace Go.SK
open Go
section
variable {β : Type} (ι : Int → β)
def ot (p : Part) (l : List β) : List β := if p.kind = 1 then l.take p.n.toNat else if p.kind = 3 then [] else (dec p.text).map ι
def rs (p : Part) (l : List β) : List β := if p.kind = 1 then l.drop p.n.toNat else if p.kind = 3 then l.drop p.n.toNat else l
/-- What an edit makes of a list, and what it leaves of it. -/
def runS : List Part → List β → List β × List β
  | [], l => ([], l)
  | p :: r, l => (ot ι p l ++ (runS r (rs p l)).1, (runS r (rs p l)).2)
theorem runS_cons (p : Part) (r : List Part) (l : List β) : runS ι (p :: r) l = (ot ι p l ++ (runS ι r (rs p l)).1, (runS ι r (rs p l)).2) := rfl
theorem runS_append : ∀ (a b : List Part) (l : List β), runS ι (a ++ b) l = ((runS ι a l).1 ++ (runS ι b (runS ι a l).2).1, (runS ι b (runS ι a l).2).2)
  | [], b, l => by simp [runS]
  | p :: a, b, l => by
    rw [List.cons_append, runS_cons, runS_cons, runS_append a b]
    simp
theorem apGo_run : ∀ (e : List Part) (l out : List Int), apGo e l out = out ++ (runS id e l).1
  | [], l, out => by simp [apGo, runS]
  | p :: r, l, out => by
    rw [apGo, runS_cons]
    unfold ot rs
    split
    · rw [apGo_run r]; simp
    · split
      · rw [apGo_run r]; simp
      · rw [apGo_run r]; simp
/-- Two parts of one kind are one. -/
theorem runS_more {q p : Part} (hq : FitU q) (hp : FitU p) (h : q.kind = p.kind) (r : List Part) (l : List β) : runS ι (q.more p :: r) l = runS ι (q :: p :: r) l := by
  have h1 := hq.1; have h2 := hp.1
  rw [runS_cons, runS_cons, runS_cons]
  have hn : (q.more p).n.toNat = q.n.toNat + p.n.toNat := by simp only [Part.more]; omega
  have hk : (q.more p).kind = q.kind := rfl
  unfold ot rs
  rw [hk, hn, ← h]
  rcases hq.kinds with k | k | k
  · simp only [if_pos k]
    rw [List.take_add, List.drop_drop]
    simp
  · have k1 : ¬ q.kind = 1 := by omega
    have k3 : ¬ q.kind = 3 := by omega
    simp only [if_neg k1, if_neg k3]
    have v1 : valid q.text = true := by rcases hq.2 with x | x | x <;> first | omega | exact x.2.1
    have v2 : valid p.text = true := by rcases hp.2 with x | x | x <;> first | omega | exact x.2.1
    simp only [Part.more, dec_append v1 v2, List.map_append, List.append_assoc]
  · have k1 : ¬ q.kind = 1 := by omega
    simp only [if_neg k1, if_pos k]
    rw [List.drop_drop]
    simp
theorem runS_swap {q p : Part} (hq : q.kind = 3) (hp : p.kind = 2) (r : List Part) (l : List β) : runS ι (q :: p :: r) l = runS ι (p :: q :: r) l := by
  rw [runS_cons, runS_cons, runS_cons, runS_cons]
  have e1 : ∀ l : List β, rs q l = l.drop q.n.toNat := fun l => by unfold rs; rw [if_neg (by omega), if_pos hq]
  have e2 : ∀ l : List β, rs p l = l := fun l => by unfold rs; rw [if_neg (by omega), if_neg (by omega)]
  have e3 : ∀ l : List β, ot ι q l = [] := fun l => by unfold ot; rw [if_neg (by omega), if_pos hq]
  have e4 : ∀ l l' : List β, ot ι p l = ot ι p l' := fun l l' => by unfold ot; simp only [if_neg (show ¬ p.kind = 1 by omega), if_neg (show ¬ p.kind = 3 by omega)]
  simp only [e1, e2, e3, List.nil_append]
  rw [e4 (l.drop q.n.toNat) l]
/-- A maker does what its parts do, one behind the other. -/
theorem addR_run : ∀ (r : List Part) (p : Part), FitsU r → FitU p → ∀ (t : List Part) (l : List β), runS ι ((addR r p).reverse ++ t) l = runS ι (r.reverse ++ p :: t) l
  | [], p, _, hp, t, l => by rw [addR_nil (by have := hp.1; omega)]; rfl
  | q :: r, p, h, hp, t, l => by
    have hn : ¬ p.n = 0 := by have := hp.1; omega
    have hq := h q (.head _)
    by_cases h1 : q.kind = p.kind
    · rw [addR_more hn h1]
      simp only [List.reverse_cons, List.append_assoc, List.cons_append, List.nil_append]
      rw [runS_append, runS_append, runS_more ι hq hp h1]
    · by_cases h2 : p.kind ≠ 2 ∨ q.kind ≠ 3
      · rw [addR_push hn h1 h2]
        simp only [List.reverse_cons, List.append_assoc, List.cons_append, List.nil_append]
      · rw [addR_deep hn h1 h2]
        simp only [List.reverse_cons, List.append_assoc, List.cons_append, List.nil_append]
        rw [addR_run r p h.tail hp (q :: t) l, runS_append, runS_append, runS_swap ι (q := q) (p := p) (by omega) (by omega)]
theorem addRs_run : ∀ (ps r : List Part), MK r → FitsU ps → ∀ (t : List Part) (l : List β), runS ι ((addRs r ps).reverse ++ t) l = runS ι (r.reverse ++ (ps ++ t)) l
  | [], r, _, _, t, l => rfl
  | p :: ps, r, h, hp, t, l => by
    rw [addRs_cons, addRs_run ps (addR r p) (h.add (hp p (.head _))) hp.tail t l, addR_run ι r p h.fit (hp p (.head _))]
    rfl
theorem maker_run {ps : List Part} (hp : FitsU ps) (l : List β) : runS ι (addRs [] ps).reverse l = runS ι ps l := by
  have := addRs_run ι ps [] MK.nil hp [] l
  simpa using this
/-! ### How long -/
theorem ot_len {p : Part} (hp : FitU p) {l : List β} (h : (if p.kind = 2 then 0 else p.n) ≤ (l.length : Int)) : ((ot ι p l).length : Int) = (if p.kind = 3 then 0 else p.n) ∧ ((rs p l).length : Int) = l.length - (if p.kind = 2 then 0 else p.n) := by
  have h1 := hp.1
  unfold ot rs
  rcases hp.2 with ⟨k, _⟩ | ⟨k, _⟩ | ⟨k, _, hl⟩
  · simp only [if_pos k, if_neg (show ¬ p.kind = 2 by omega), if_neg (show ¬ p.kind = 3 by omega)] at h ⊢
    rw [List.length_take, List.length_drop]; omega
  · simp only [if_pos k, if_neg (show ¬ p.kind = 2 by omega), if_neg (show ¬ p.kind = 1 by omega)] at h ⊢
    rw [List.length_drop]; simp; omega
  · simp only [if_pos k, if_neg (show ¬ p.kind = 3 by omega), if_neg (show ¬ p.kind = 1 by omega)] at h ⊢
    rw [List.length_map]; omega
theorem runS_len : ∀ (e : List Part) (l : List β), FitsU e → fromS e ≤ l.length → ((runS ι e l).1.length : Int) = toS e ∧ ((runS ι e l).2.length : Int) = l.length - fromS e
  | [], l, _, _ => by simp [runS, toS, fromS]
  | p :: r, l, h, hl => by
    have hr := fromS_posU h.tail
    simp only [fromS] at hl
    have hp0 := (h p (.head _)).1
    have h1 := ot_len ι (h p (.head _)) (l := l) (by omega)
    have h2 := runS_len r (rs p l) h.tail (by rw [h1.2]; omega)
    rw [runS_cons]
    simp only [toS, fromS, List.length_append]
    omega
/-! ### A part, cut in two -/
theorem ot_cut {p : Part} (hp : fitsB p = true) {n : Int} (h1 : 1 ≤ n) (h2 : n ≤ p.n) (r : List Part) (l : List β) : runS ι (p :: r) l = (ot ι (takeP p n) l ++ (runS ι (restP p r n) (rs (takeP p n) l)).1, (runS ι (restP p r n) (rs (takeP p n) l)).2) := by
  unfold restP
  split
  · have : p.n = n := by omega
    subst this
    rw [take_all hp, runS_cons]
  · rename_i h0
    have hf := fitsB_cases hp
    rw [runS_cons, runS_cons]
    have kt : (takeP p n).kind = p.kind := rfl
    have kl : (leftP p n).kind = p.kind := rfl
    have nt : (takeP p n).n = n := rfl
    have nl : (leftP p n).n = p.n - n := rfl
    have hN : p.n.toNat = n.toNat + (p.n - n).toNat := by omega
    unfold ot rs
    rw [kt, kl, nt, nl]
    rcases hf.2.2 with ⟨k, _⟩ | ⟨k, _⟩ | ⟨k, hv, hl⟩
    · simp only [if_pos k]
      rw [hN, List.take_add, List.drop_drop]
      simp
    · have k1 : ¬ p.kind = 1 := by omega
      simp only [if_neg k1, if_pos k]
      rw [hN, List.drop_drop]
      simp
    · have k1 : ¬ p.kind = 1 := by omega
      have k3 : ¬ p.kind = 3 := by omega
      simp only [if_neg k1, if_neg k3]
      have e1 : dec (takeP p n).text = (dec p.text).take n.toNat := by simp only [takeP, if_pos k]; exact dec_enc fun r hr => dec_scalar hv r (List.mem_of_mem_take hr)
      have e2 : dec (leftP p n).text = (dec p.text).drop n.toNat := by simp only [leftP, if_pos k]; exact dec_enc fun r hr => dec_scalar hv r (List.mem_of_mem_drop hr)
      rw [e1, e2, ← List.append_assoc, ← List.map_append, List.take_append_drop]
end
/-! ### The one form is known by what it does -/
section
abbrev Gen := Nat ⊕ Int
def inlS (l : List Gen) : Prop := ∀ x ∈ l, ∃ i, x = .inl i
theorem heads {p : Part} {r : List Part} (hf : FitsU (p :: r)) (hna : NA none (p :: r)) {l : List Gen} (hl : (l.length : Int) = fromS (p :: r)) (hi : inlS l) (hd : l.Nodup) :
    (p.kind = 1 → (runS Sum.inr (p :: r) l).1.head? = l[0]? ∧ 0 < l.length) ∧ (p.kind = 2 → ∃ x, (runS Sum.inr (p :: r) l).1.head? = some (.inr x)) ∧
    (p.kind = 3 → (r = [] ∧ (runS Sum.inr (p :: r) l).1 = []) ∨ (r ≠ [] ∧ p.n.toNat < l.length ∧ (runS Sum.inr (p :: r) l).1.head? = l[p.n.toNat]?)) := by
  have hp := hf p (.head _)
  have h1 := hp.1
  have hr := fromS_posU hf.tail
  simp only [fromS] at hl
  rw [runS_cons]
  refine ⟨fun k => ?_, fun k => ?_, fun k => ?_⟩
  · rw [if_neg (by omega)] at hl
    have hpos : 0 < l.length := by omega
    obtain ⟨x, t, rfl⟩ := List.exists_cons_of_ne_nil (List.length_pos_iff.1 hpos)
    unfold ot
    rw [if_pos k]
    obtain ⟨m, hm⟩ : ∃ m, p.n.toNat = m + 1 := ⟨p.n.toNat - 1, by omega⟩
    rw [hm]
    exact ⟨by simp, hpos⟩
  · have hlen : ((dec p.text).length : Int) = p.n := by rcases hp.2 with x | x | x <;> first | omega | exact x.2.2
    unfold ot
    rw [if_neg (by omega), if_neg (by omega)]
    cases hd' : dec p.text with
    | nil => rw [hd'] at hlen; simp at hlen; omega
    | cons x t => exact ⟨x, by simp⟩
  · unfold ot
    rw [if_neg (by omega), if_pos k, List.nil_append]
    have hrs : rs p l = l.drop p.n.toNat := by unfold rs; rw [if_neg (by omega), if_pos k]
    rw [hrs]
    cases r with
    | nil => exact .inl ⟨rfl, rfl⟩
    | cons q r =>
      right
      have hq := hf q (.tail _ (.head _))
      have hq1 := hq.1
      have hok : okPrev (some p.kind) q.kind := hna.2.1
      have hk1 : q.kind = 1 := by rcases hq.kinds with x | x | x <;> first | exact x | (exact absurd hok (by unfold okPrev; simp only; omega))
      rw [if_neg (by omega)] at hl
      simp only [fromS] at hl hr
      rw [if_neg (by omega)] at hl hr
      have hr2 := fromS_posU hf.tail.tail
      refine ⟨by simp, by omega, ?_⟩
      rw [runS_cons]
      unfold ot
      rw [if_pos hk1]
      have hlt : p.n.toNat < l.length := by omega
      obtain ⟨m, hm⟩ : ∃ m, q.n.toNat = m + 1 := ⟨q.n.toNat - 1, by omega⟩
      rw [hm, List.drop_eq_getElem_cons hlt, List.take_succ_cons, List.cons_append, List.head?_cons, List.getElem?_eq_getElem hlt]
theorem NA.none {k : Option Int} {e : List Part} (h : NA k e) : NA none e := by
  cases e with
  | nil => trivial
  | cons p r => exact ⟨trivial, h.2⟩
theorem inr_prefix : ∀ (a b : List Int) (x y : List Gen), a.map Sum.inr ++ x = b.map Sum.inr ++ y → (∀ z, x.head? ≠ some (.inr z)) → (∀ z, y.head? ≠ some (.inr z)) → a = b ∧ x = y
  | [], [], x, y, h, _, _ => ⟨rfl, by simpa using h⟩
  | [], c :: b, x, y, h, hx, _ => by simp at h; rw [h] at hx; exact absurd (by simp) (hx c)
  | c :: a, [], x, y, h, _, hy => by simp at h; rw [← h] at hy; exact absurd (by simp) (hy c)
  | c :: a, d :: b, x, y, h, hx, hy => by
    simp only [List.map_cons, List.cons_append, List.cons.injEq, Sum.inr.injEq] at h
    obtain ⟨h1, h2⟩ := inr_prefix a b x y h.2 hx hy
    exact ⟨by rw [h.1, h1], h2⟩
theorem getElem_inj {l : List Gen} (hd : l.Nodup) {i j : Nat} (hi : i < l.length) (h : l[i]? = l[j]?) : i = j := by
  rw [List.getElem?_eq_getElem hi] at h
  obtain ⟨hj, e⟩ := List.getElem?_eq_some_iff.1 h.symm
  exact (List.getElem_inj hd).1 e.symm
theorem inl_get {l : List Gen} (hi : inlS l) {i : Nat} {x : Int} : l[i]? ≠ some (.inr x) := fun h => by
  obtain ⟨j, hj⟩ := hi _ (List.mem_of_getElem? h)
  cases hj
theorem no_inr {p : Part} {r : List Part} (hf : FitsU r) (hna : NA (some p.kind) r) (hk : p.kind = 2) {l : List Gen} (hl : (l.length : Int) = fromS r) (hi : inlS l) (hd : l.Nodup) : ∀ z, (runS Sum.inr r l).1.head? ≠ some (.inr z) := by
  intro z
  cases r with
  | nil => simp [runS]
  | cons q r =>
    have hq := hf q (.head _)
    have hh := heads hf hna.none hl hi hd
    rcases hq.kinds with k | k | k
    · rw [(hh.1 k).1]; exact inl_get hi
    · exact absurd hna.1 (by unfold okPrev; simp only; omega)
    · rcases hh.2.2 k with ⟨_, h⟩ | ⟨_, _, h⟩
      · rw [h]; simp
      · rw [h]; exact inl_get hi
theorem no_next {k : Int} {r : List Part} (hf : FitsU r) (hna : NA (some k) r) (hk : k = 1) {l : List Gen} (hl : (l.length : Int) = fromS r) (hi : inlS l) (hd : l.Nodup) : ∀ x, l[0]? = some x → (runS Sum.inr r l).1.head? ≠ some x := by
  intro x hx
  cases r with
  | nil => simp [runS]
  | cons q r =>
    have hq := hf q (.head _)
    have hh := heads hf hna.none hl hi hd
    have hok : okPrev (some k) q.kind := hna.1
    have hq1 := hq.1
    rcases hq.kinds with k' | k' | k'
    · exact absurd hok (by unfold okPrev; simp only; omega)
    · obtain ⟨y, hy⟩ := hh.2.1 k'
      rw [hy]; rintro e
      rw [← e] at hx; exact inl_get hi hx
    · rcases hh.2.2 k' with ⟨_, h⟩ | ⟨_, h1, h2⟩
      · rw [h]; simp
      · rw [h2, ← hx]
        intro e
        have := getElem_inj hd h1 e
        omega
theorem take_same {l O1 O2 : List Gen} {n1 n2 : Nat} (h : l.take n1 ++ O1 = l.take n2 ++ O2) (h1 : n1 ≤ l.length) (h2 : n2 ≤ l.length) (k1 : ∀ x, (l.drop n1)[0]? = some x → O1.head? ≠ some x) (k2 : ∀ x, (l.drop n2)[0]? = some x → O2.head? ≠ some x) : n1 = n2 ∧ O1 = O2 := by
  have core : ∀ (n1 n2 : Nat) (O1 O2 : List Gen), l.take n1 ++ O1 = l.take n2 ++ O2 → n2 ≤ l.length → (∀ x, (l.drop n1)[0]? = some x → O1.head? ≠ some x) → ¬ n1 < n2 := by
    intro n1 n2 O1 O2 h h2 k1 hlt
    have e := congrArg (·[n1]?) h

    rw [List.getElem?_append_right (by rw [List.length_take]; omega), List.getElem?_append_left (by rw [List.length_take]; omega), List.length_take, Nat.min_eq_left (by omega), Nat.sub_self, List.getElem?_take, if_pos hlt] at e
    have hl : n1 < l.length := by omega
    refine k1 l[n1] (by rw [List.getElem?_drop]; simp [List.getElem?_eq_getElem hl]) ?_
    rw [List.head?_eq_getElem?, e, List.getElem?_eq_getElem hl]
  have a1 := core n1 n2 O1 O2 h h2 k1
  have a2 := core n2 n1 O2 O1 h.symm h1 k2
  have : n1 = n2 := by omega
  subst this
  exact ⟨rfl, List.append_cancel_left h⟩
theorem same_form : ∀ (a b : List Part) (l : List Gen), FitsU a → FitsU b → NA none a → NA none b → (l.length : Int) = fromS a → (l.length : Int) = fromS b → inlS l → l.Nodup → (runS Sum.inr a l).1 = (runS Sum.inr b l).1 → a = b
  | [], [], _, _, _, _, _, _, _, _, _, _ => rfl
  | [], q :: b, l, _, hb, _, nb, la, lb, hi, hd, h => by
    exfalso
    have hq := hb q (.head _)
    have h1 := hq.1
    have hr := fromS_posU hb.tail
    simp only [fromS] at la lb
    have hh := heads hb nb (by simp only [fromS]; omega) hi hd
    have k : q.kind = 2 := by
      rcases hq.kinds with k | k | k
      · rw [if_neg (by omega)] at lb; omega
      · exact k
      · rw [if_neg (by omega)] at lb; omega
    obtain ⟨x, hx⟩ := hh.2.1 k
    rw [← h] at hx
    simp [runS] at hx
  | p :: a, [], l, ha, _, na, _, la, lb, hi, hd, h => by
    exfalso
    have hp := ha p (.head _)
    have h1 := hp.1
    have hr := fromS_posU ha.tail
    simp only [fromS] at la lb
    have hh := heads ha na (by simp only [fromS]; omega) hi hd
    have k : p.kind = 2 := by
      rcases hp.kinds with k | k | k
      · rw [if_neg (by omega)] at la; omega
      · exact k
      · rw [if_neg (by omega)] at la; omega
    obtain ⟨x, hx⟩ := hh.2.1 k
    rw [h] at hx
    simp [runS] at hx
  | p :: a, q :: b, l, ha, hb, na, nb, la, lb, hi, hd, h => by
    have hp := ha p (.head _); have hq := hb q (.head _)
    have hp1 := hp.1; have hq1 := hq.1
    have ra := fromS_posU ha.tail; have rb := fromS_posU hb.tail
    have ea := heads ha na la hi hd; have eb := heads hb nb lb hi hd
    rw [h] at ea
    have hk : p.kind = q.kind := by
      rcases hp.kinds with k | k | k <;> rcases hq.kinds with k' | k' | k' <;> try omega
      · exfalso
        obtain ⟨x, hx⟩ := eb.2.1 k'
        have := (ea.1 k).1
        rw [hx] at this; exact inl_get hi this.symm
      · exfalso
        have h1 := ea.1 k
        rcases eb.2.2 k' with ⟨_, h2⟩ | ⟨_, h2, h3⟩
        · rw [h2] at h1
          have := h1.1
          rw [List.getElem?_eq_getElem h1.2] at this; cases this
        · have := getElem_inj hd h1.2 (h1.1.symm.trans h3)
          omega
      · exfalso
        obtain ⟨x, hx⟩ := ea.2.1 k
        have := (eb.1 k').1
        rw [hx] at this; exact inl_get hi this.symm
      · exfalso
        obtain ⟨x, hx⟩ := ea.2.1 k
        rcases eb.2.2 k' with ⟨_, h2⟩ | ⟨_, h2, h3⟩
        · rw [h2] at hx; cases hx
        · rw [hx] at h3; exact inl_get hi h3.symm
      · exfalso
        have h1 := eb.1 k'
        rcases ea.2.2 k with ⟨_, h2⟩ | ⟨_, h2, h3⟩
        · rw [h2] at h1
          have := h1.1
          rw [List.getElem?_eq_getElem h1.2] at this; cases this
        · have := getElem_inj hd h1.2 (h1.1.symm.trans h3)
          omega
      · exfalso
        obtain ⟨x, hx⟩ := eb.2.1 k'
        rcases ea.2.2 k with ⟨_, h2⟩ | ⟨_, h2, h3⟩
        · rw [h2] at hx; cases hx
        · rw [hx] at h3; exact inl_get hi h3.symm
    have key : p.n = q.n ∧ p.text = q.text ∧ (runS Sum.inr a (rs p l)).1 = (runS Sum.inr b (rs p l)).1 := by
      rw [runS_cons, runS_cons] at h
      simp only [fromS] at la lb
      rcases hp.2 with ⟨k, t⟩ | ⟨k, t⟩ | ⟨k, v, hl⟩
      · have kq : q.kind = 1 := by omega
        have tq : q.text = ⟨#[]⟩ := by rcases hq.2 with x | x | x <;> first | exact x.2 | omega
        rw [if_neg (by omega)] at la lb
        have e1 : ∀ l : List Gen, ot Sum.inr p l = l.take p.n.toNat := fun l => by unfold ot; rw [if_pos k]
        have e2 : ∀ l : List Gen, ot Sum.inr q l = l.take q.n.toNat := fun l => by unfold ot; rw [if_pos kq]
        have e3 : rs p l = l.drop p.n.toNat := by unfold rs; rw [if_pos k]
        have e4 : rs q l = l.drop q.n.toNat := by unfold rs; rw [if_pos kq]
        rw [e1, e2, e3, e4] at h
        have c := take_same h (by omega) (by omega)
          (no_next ha.tail na.2 k (by rw [List.length_drop]; omega) (fun x hx => hi x (List.mem_of_mem_drop hx)) (hd.sublist (List.drop_sublist _ _)))
          (no_next hb.tail nb.2 kq (by rw [List.length_drop]; omega) (fun x hx => hi x (List.mem_of_mem_drop hx)) (hd.sublist (List.drop_sublist _ _)))
        refine ⟨by omega, by rw [t, tq], ?_⟩
        rw [e3]
        have := c.2
        rw [← c.1] at this
        exact this
      · have kq : q.kind = 3 := by omega
        have tq : q.text = ⟨#[]⟩ := by rcases hq.2 with x | x | x <;> first | exact x.2 | omega
        rw [if_neg (by omega)] at la lb
        have e1 : ∀ l : List Gen, ot Sum.inr p l = [] := fun l => by unfold ot; rw [if_neg (by omega), if_pos k]
        have e2 : ∀ l : List Gen, ot Sum.inr q l = [] := fun l => by unfold ot; rw [if_neg (by omega), if_pos kq]
        have e3 : rs p l = l.drop p.n.toNat := by unfold rs; rw [if_neg (by omega), if_pos k]
        have e4 : rs q l = l.drop q.n.toNat := by unfold rs; rw [if_neg (by omega), if_pos kq]
        have hn : p.n = q.n := by
          rcases ea.2.2 k with ⟨a1, a2⟩ | ⟨a1, a2, a3⟩ <;> rcases eb.2.2 kq with ⟨b1, b2⟩ | ⟨b1, b2, b3⟩
          · subst a1 b1; simp only [fromS] at la lb; omega
          · rw [a2] at b3; simp only [List.head?_nil] at b3
            rw [List.getElem?_eq_getElem b2] at b3; cases b3
          · rw [b2] at a3; simp only [List.head?_nil] at a3
            rw [List.getElem?_eq_getElem a2] at a3; cases a3
          · have := getElem_inj hd a2 (a3.symm.trans b3)
            omega
        rw [e1, e2, e3, e4, ← hn] at h
        refine ⟨hn, by rw [t, tq], ?_⟩
        rw [e3]; exact h
      · have kq : q.kind = 2 := by omega
        have vq : valid q.text = true ∧ ((dec q.text).length : Int) = q.n := by rcases hq.2 with x | x | x <;> first | exact x.2 | omega
        rw [if_pos (by omega)] at la lb
        have e1 : ∀ l : List Gen, ot Sum.inr p l = (dec p.text).map Sum.inr := fun l => by unfold ot; rw [if_neg (by omega), if_neg (by omega)]
        have e2 : ∀ l : List Gen, ot Sum.inr q l = (dec q.text).map Sum.inr := fun l => by unfold ot; rw [if_neg (by omega), if_neg (by omega)]
        have e3 : rs p l = l := by unfold rs; rw [if_neg (by omega), if_neg (by omega)]
        have e4 : rs q l = l := by unfold rs; rw [if_neg (by omega), if_neg (by omega)]
        rw [e1, e2, e3, e4] at h
        obtain ⟨c1, c2⟩ := inr_prefix _ _ _ _ h (no_inr ha.tail na.2 k (by omega) hi hd) (no_inr hb.tail nb.2 kq (by omega) hi hd)
        refine ⟨by rw [c1] at hl; omega, dec_inj v vq.1 c1, ?_⟩
        rw [e3]; exact c2
    obtain ⟨k1, k2, k3⟩ := key
    have hpq : p = q := by cases p; cases q; simp only at hk k1 k2; subst hk k1 k2; rfl
    subst hpq
    congr 1
    have hlr := (ot_len Sum.inr hp (l := l) (by simp only [fromS] at la; split at la <;> rename_i hk2 <;> (first | rw [if_pos hk2] | rw [if_neg hk2]) <;> omega)).2
    refine same_form a b (rs p l) ha.tail hb.tail na.2.none nb.2.none ?_ ?_ ?_ ?_ k3
    · simp only [fromS] at la; omega
    · simp only [fromS] at lb; omega
    · intro x hx
      refine hi x ?_
      unfold rs at hx
      split at hx
      · exact List.mem_of_mem_drop hx
      · split at hx
        · exact List.mem_of_mem_drop hx
        · exact hx
    · unfold rs
      split
      · exact hd.sublist (List.drop_sublist _ _)
      · split
        · exact hd.sublist (List.drop_sublist _ _)
        · exact hd
end
end Go.SK

set_option linter.unusedVariables false
set_option linter.unusedSimpArgs false
set_option maxRecDepth 100000
namespace Go.SK
open Go
theorem fitsU_of {e : List Part} (h : Fits e) : FitsU e := fun p hp => fitU_of (h p hp)
theorem kindL_nil {e : List Part} (h : Fits e) (hk : kindL e = 0) : e = [] := by
  cases e with
  | nil => rfl
  | cons p r => have := (fitU_of (h p (.head _))).kinds; simp only [kindL] at hk; omega
theorem take_facts {x : Part} {xs : List Part} (h : Fits (x :: xs)) {n : Int} (h1 : 1 ≤ n) (h2 : n ≤ x.n) : FitU (takeP x n) ∧ Fits (restP x xs n) := ⟨fitU_of (take_fits (h x (.head _)) h1 h2), rest_fits h h1 h2⟩
/-- What a step over both takes. -/
theorem both_len (x y : Part) (xs ys : List Part) : (restP x xs (minI x.n y.n)).length + (restP y ys (minI x.n y.n)).length + 1 ≤ xs.length + 1 + (ys.length + 1) := by
  have m3 := (minI_le x.n y.n).2.2
  rw [rest_len, rest_len]
  rcases m3 with m3 | m3
  · rw [if_pos (show x.n - minI x.n y.n = 0 by omega)]; split <;> omega
  · rw [if_pos (show y.n - minI x.n y.n = 0 by omega)]; split <;> omega
section
variable {β : Type} (ι : Int → β)
theorem ot_keep {p : Part} (h : p.kind = 1) (l : List β) : ot ι p l = l.take p.n.toNat ∧ rs p l = l.drop p.n.toNat := by unfold ot rs; simp only [if_pos h, and_self]
theorem ot_drop {p : Part} (h : p.kind = 3) (l : List β) : ot ι p l = [] ∧ rs p l = l.drop p.n.toNat := by unfold ot rs; simp only [if_neg (show ¬ p.kind = 1 by omega), if_pos h, and_self]
theorem ot_put {p : Part} (h : p.kind = 2) (l : List β) : ot ι p l = (dec p.text).map ι ∧ rs p l = l := by unfold ot rs; simp only [if_neg (show ¬ p.kind = 1 by omega), if_neg (show ¬ p.kind = 3 by omega), and_self]
theorem comp_run : ∀ (f : Nat) (xs ys : List Part) (l : List β), Fits xs → Fits ys → toS xs = fromS ys → xs.length + ys.length ≤ f → (l.length : Int) = fromS xs →
    FitsU (compGo f xs ys) ∧ fromS (compGo f xs ys) = fromS xs ∧ (runS ι (compGo f xs ys) l).1 = (runS ι ys (runS ι xs l).1).1
  | 0, xs, ys, l, hx, hy, hb, hf, hl => by
    obtain rfl : xs = [] := List.length_eq_zero_iff.1 (by omega)
    obtain rfl : ys = [] := List.length_eq_zero_iff.1 (by omega)
    exact ⟨fun _ h => (by cases h), rfl, rfl⟩
  | f + 1, xs, ys, l, hx, hy, hb, hf, hl => by
    by_cases h0 : kindL xs = 0 ∧ kindL ys = 0
    · obtain rfl := kindL_nil hx h0.1
      obtain rfl := kindL_nil hy h0.2
      rw [compGo_stop h0]
      exact ⟨fun _ h => (by cases h), rfl, rfl⟩
    · by_cases h3 : kindL xs = 3
      · obtain ⟨x, xs', rfl, hk⟩ := kindL_cons h3 (by omega)
        rw [compGo_x h3]
        have hn := fitsB_n (hx x (.head _))
        have hp := fromS_posU (fitsU_of hx.tail)
        simp only [fromS, toS, List.length_cons, if_pos hk] at hb hf hl ⊢
        rw [if_neg (show ¬ x.kind = 2 by omega)] at hl ⊢
        obtain ⟨i1, i2, i3⟩ := comp_run f xs' ys (l.drop x.n.toNat) hx.tail hy (by omega) (by omega) (by rw [List.length_drop]; omega)
        refine ⟨FitsU.cons (fitU_of (hx x (.head _))) i1, by rw [i2], ?_⟩
        rw [runS_cons, runS_cons, (ot_drop ι hk l).1, (ot_drop ι hk l).2, i3]
        rfl
      · by_cases h2 : kindL ys = 2
        · obtain ⟨y, ys', rfl, hk⟩ := kindL_cons h2 (by omega)
          rw [compGo_y h3 h2]
          simp only [fromS, toS, List.length_cons, if_pos hk] at hb hf hl ⊢
          obtain ⟨i1, i2, i3⟩ := comp_run f xs ys' l hx hy.tail (by omega) (by omega) hl
          refine ⟨FitsU.cons (fitU_of (hy y (.head _))) i1, by rw [i2]; omega, ?_⟩
          rw [runS_cons, runS_cons, (ot_put ι hk _).1, (ot_put ι hk _).2, (ot_put ι hk _).1, (ot_put ι hk _).2, i3]
        · have hxs : xs ≠ [] := by
            rintro rfl
            cases ys with
            | nil => exact h0 ⟨rfl, rfl⟩
            | cons y ys' =>
              have h1 := fitsB_n (hy y (.head _)); have h4 := fromS_posU (fitsU_of hy.tail)
              have hy' : ¬ y.kind = 2 := h2
              simp only [toS, fromS, if_neg hy'] at hb; omega
          obtain ⟨x, xs', rfl⟩ := List.exists_cons_of_ne_nil hxs
          have hx' : ¬ x.kind = 3 := h3
          have hnx := fitsB_n (hx x (.head _)); have hnx2 := fromS_posU (fitsU_of hx.tail)
          have hys : ys ≠ [] := by
            rintro rfl
            simp only [toS, fromS, if_neg hx'] at hb; omega
          obtain ⟨y, ys', rfl⟩ := List.exists_cons_of_ne_nil hys
          have hy' : ¬ y.kind = 2 := h2
          have hny := fitsB_n (hy y (.head _)); have hny2 := fromS_posU (fitsU_of hy.tail)
          obtain ⟨m1, m2, m3⟩ := minI_le x.n y.n
          have hll := both_len x y xs' ys'
          have rx := rest_from x xs' (minI x.n y.n); have ry := rest_from y ys' (minI x.n y.n)
          rw [compGo_b h0 h3 h2]
          obtain ⟨tx1, tx2⟩ := take_facts hx (n := minI x.n y.n) (by omega) m1
          obtain ⟨ty1, ty2⟩ := take_facts hy (n := minI x.n y.n) (by omega) m2
          generalize hN : minI x.n y.n = n at *
          have hn1 : 1 ≤ n := by omega
          have kx : (takeP x n).kind = x.kind := rfl
          have ky : (takeP y n).kind = y.kind := rfl
          have nx : (takeP x n).n = n := rfl
          have ny : (takeP y n).n = n := rfl
          rw [if_neg hx'] at rx
          rw [if_neg hy'] at ry
          simp only [List.length_cons] at hf
          have ky3 : y.kind = 1 ∨ y.kind = 3 := by have := (fitU_of (hy y (.head _))).kinds; omega
          have kx3 : x.kind = 1 ∨ x.kind = 2 := by have := (fitU_of (hx x (.head _))).kinds; omega
          have hol := ot_len ι tx1 (l := l) (by rw [kx, nx]; split <;> rename_i hk <;> (first | rw [if_pos hk] at rx | rw [if_neg hk] at rx) <;> have := fromS_posU (fitsU_of tx2) <;> omega)
          rw [kx, nx, if_neg hx'] at hol
          have ih := comp_run f (restP x xs' n) (restP y ys' n) (rs (takeP x n) l) tx2 ty2 (by omega) (by omega) (by rw [hol.2]; omega)
          obtain ⟨i1, i2, i3⟩ := ih
          rw [ot_cut ι (hx x (.head _)) hn1 m1, ot_cut ι (hy y (.head _)) hn1 m2]
          have hA : (ot ι (takeP x n) l).length = n.toNat := by omega
          rcases ky3 with ky1 | ky1
          · rw [if_pos ky1]
            refine ⟨FitsU.cons tx1 i1, by rw [List.cons_append, List.nil_append, fromS, i2, kx, nx]; omega, ?_⟩
            rw [List.cons_append, List.nil_append, runS_cons, i3]
            simp only
            rw [(ot_keep ι (p := takeP y n) (by rw [ky]; exact ky1) _).1, (ot_keep ι (p := takeP y n) (by rw [ky]; exact ky1) _).2, ny, List.take_left' hA, List.drop_left' hA]
          · rw [if_neg (show ¬ y.kind = 1 by omega)]
            rcases kx3 with kx1 | kx1
            · rw [if_pos kx1]
              rw [if_neg (show ¬ x.kind = 2 by omega)] at rx
              refine ⟨FitsU.cons ty1 i1, by rw [List.cons_append, List.nil_append, fromS, i2, ky, ny, if_neg hy']; omega, ?_⟩
              rw [List.cons_append, List.nil_append, runS_cons]
              simp only
              rw [(ot_drop ι (p := takeP y n) (by rw [ky]; exact ky1) _).1, (ot_drop ι (p := takeP y n) (by rw [ky]; exact ky1) _).2, ny, (ot_drop ι (p := takeP y n) (by rw [ky]; exact ky1) _).1, (ot_drop ι (p := takeP y n) (by rw [ky]; exact ky1) _).2, ny, List.drop_left' hA]
              rw [(ot_keep ι (p := takeP x n) (by rw [kx]; exact kx1) l).2, nx] at i3
              rw [i3, (ot_keep ι (p := takeP x n) (by rw [kx]; exact kx1) l).2, nx]
            · rw [if_neg (show ¬ x.kind = 1 by omega), List.nil_append]
              rw [if_pos kx1] at rx
              refine ⟨i1, by rw [i2]; omega, ?_⟩
              simp only
              rw [(ot_drop ι (p := takeP y n) (by rw [ky]; exact ky1) _).1, (ot_drop ι (p := takeP y n) (by rw [ky]; exact ky1) _).2, ny, List.drop_left' hA]
              rw [(ot_put ι (p := takeP x n) (by rw [kx]; exact kx1) l).2] at i3
              rw [i3, (ot_put ι (p := takeP x n) (by rw [kx]; exact kx1) l).2]
              rfl
end
end Go.SK

set_option linter.unusedVariables false
set_option linter.unusedSimpArgs false
set_option maxRecDepth 100000
namespace Go.SK
open Go
section
variable {β : Type} (ι : Int → β)
theorem put_len {x : Part} (h : FitU x) (k : x.kind = 2) : ((dec x.text).map ι).length = x.n.toNat := by
  have : ((dec x.text).length : Int) = x.n := by rcases h.2 with y | y | y <;> first | omega | exact y.2.2
  rw [List.length_map]; omega
theorem keepP_fit {n : Int} (h : 1 ≤ n) : FitU (keepP n) := ⟨h, .inl ⟨rfl, rfl⟩⟩
theorem tr_run : ∀ (f : Nat) (xs ys : List Part) (l : List β), Fits xs → Fits ys → fromS xs = fromS ys → xs.length + ys.length ≤ f → (l.length : Int) = fromS xs →
    FitsU (trGo f xs ys).1 ∧ FitsU (trGo f xs ys).2 ∧ fromS (trGo f xs ys).1 = toS ys ∧ fromS (trGo f xs ys).2 = toS xs ∧ (runS ι (trGo f xs ys).1 (runS ι ys l).1).1 = (runS ι (trGo f xs ys).2 (runS ι xs l).1).1
  | 0, xs, ys, l, hx, hy, hb, hf, hl => by
    obtain rfl : xs = [] := List.length_eq_zero_iff.1 (by omega)
    obtain rfl : ys = [] := List.length_eq_zero_iff.1 (by omega)
    exact ⟨fun _ h => (by cases h), fun _ h => (by cases h), rfl, rfl, rfl⟩
  | f + 1, xs, ys, l, hx, hy, hb, hf, hl => by
    by_cases h0 : kindL xs = 0 ∧ kindL ys = 0
    · obtain rfl := kindL_nil hx h0.1
      obtain rfl := kindL_nil hy h0.2
      rw [trGo_stop h0]
      exact ⟨fun _ h => (by cases h), fun _ h => (by cases h), rfl, rfl, rfl⟩
    · by_cases h3 : kindL xs = 2
      · obtain ⟨x, xs', rfl, hk⟩ := kindL_cons h3 (by omega)
        rw [trGo_x h3]
        have hn := fitsB_n (hx x (.head _))
        have hfx := fitU_of (hx x (.head _))
        simp only [fromS, toS, List.length_cons, if_pos hk] at hb hf hl ⊢
        rw [if_neg (show ¬ x.kind = 3 by omega)]
        obtain ⟨i1, i2, i3, i4, i5⟩ := tr_run f xs' ys l hx.tail hy (by omega) (by omega) (by omega)
        have kk : (keepP x.n).kind = 1 := rfl
        have kn : (keepP x.n).n = x.n := rfl
        refine ⟨FitsU.cons hfx i1, FitsU.cons (keepP_fit hn.1) i2, by omega, by rw [kk, kn, if_neg (by omega)]; omega, ?_⟩
        rw [runS_cons, runS_cons, runS_cons, (ot_put ι hk _).1, (ot_put ι hk _).2, (ot_put ι hk _).1, (ot_put ι hk _).2]
        simp only
        rw [(ot_keep ι kk _).1, (ot_keep ι kk _).2, kn, List.take_left' (put_len ι hfx hk), List.drop_left' (put_len ι hfx hk), i5]
      · by_cases h2 : kindL ys = 2
        · obtain ⟨y, ys', rfl, hk⟩ := kindL_cons h2 (by omega)
          rw [trGo_y h3 h2]
          have hn := fitsB_n (hy y (.head _))
          have hfy := fitU_of (hy y (.head _))
          simp only [fromS, toS, List.length_cons, if_pos hk] at hb hf hl ⊢
          rw [if_neg (show ¬ y.kind = 3 by omega)]
          obtain ⟨i1, i2, i3, i4, i5⟩ := tr_run f xs ys' l hx hy.tail (by omega) (by omega) hl
          have kk : (keepP y.n).kind = 1 := rfl
          have kn : (keepP y.n).n = y.n := rfl
          refine ⟨FitsU.cons (keepP_fit hn.1) i1, FitsU.cons hfy i2, by rw [kk, kn, if_neg (by omega)]; omega, by omega, ?_⟩
          rw [runS_cons, runS_cons, runS_cons, (ot_put ι hk _).1, (ot_put ι hk _).2, (ot_put ι hk _).1, (ot_put ι hk _).2]
          simp only
          rw [(ot_keep ι kk _).1, (ot_keep ι kk _).2, kn, List.take_left' (put_len ι hfy hk), List.drop_left' (put_len ι hfy hk), i5]
        · have hxs : xs ≠ [] := by
            rintro rfl
            cases ys with
            | nil => exact h0 ⟨rfl, rfl⟩
            | cons y ys' =>
              have h1 := fitsB_n (hy y (.head _)); have h4 := fromS_posU (fitsU_of hy.tail)
              have hy' : ¬ y.kind = 2 := h2
              simp only [fromS, if_neg hy'] at hb; omega
          obtain ⟨x, xs', rfl⟩ := List.exists_cons_of_ne_nil hxs
          have hx' : ¬ x.kind = 2 := h3
          have hnx := fitsB_n (hx x (.head _)); have hnx2 := fromS_posU (fitsU_of hx.tail)
          have hys : ys ≠ [] := by
            rintro rfl
            simp only [fromS, if_neg hx'] at hb; omega
          obtain ⟨y, ys', rfl⟩ := List.exists_cons_of_ne_nil hys
          have hy' : ¬ y.kind = 2 := h2
          have hny := fitsB_n (hy y (.head _)); have hny2 := fromS_posU (fitsU_of hy.tail)
          obtain ⟨m1, m2, m3⟩ := minI_le x.n y.n
          have hll := both_len x y xs' ys'
          have rx := rest_from x xs' (minI x.n y.n); have ry := rest_from y ys' (minI x.n y.n)
          rw [trGo_b h0 h3 h2]
          obtain ⟨tx1, tx2⟩ := take_facts hx (n := minI x.n y.n) (by omega) m1
          obtain ⟨ty1, ty2⟩ := take_facts hy (n := minI x.n y.n) (by omega) m2
          generalize hN : minI x.n y.n = n at *
          have hn1 : 1 ≤ n := by omega
          have kx : (takeP x n).kind = x.kind := rfl
          have ky : (takeP y n).kind = y.kind := rfl
          have nx : (takeP x n).n = n := rfl
          have ny : (takeP y n).n = n := rfl
          rw [if_neg hx'] at rx
          rw [if_neg hy'] at ry
          simp only [List.length_cons] at hf
          have ky3 : y.kind = 1 ∨ y.kind = 3 := by have := (fitU_of (hy y (.head _))).kinds; omega
          have kx3 : x.kind = 1 ∨ x.kind = 3 := by have := (fitU_of (hx x (.head _))).kinds; omega
          have hfr := fromS_posU (fitsU_of tx2)
          have hln : n.toNat ≤ l.length := by omega
          obtain ⟨i1, i2, i3, i4, i5⟩ := tr_run f (restP x xs' n) (restP y ys' n) (l.drop n.toNat) tx2 ty2 (by omega) (by omega) (by rw [List.length_drop]; omega)
          rw [ot_cut ι (hx x (.head _)) hn1 m1, ot_cut ι (hy y (.head _)) hn1 m2]
          have hA : (l.take n.toNat).length = n.toNat := by rw [List.length_take]; omega
          have okx : ∀ (t : List β), x.kind = 1 → ot ι (takeP x n) t = t.take n.toNat ∧ rs (takeP x n) t = t.drop n.toNat := fun t h => ot_keep ι (p := takeP x n) (by rw [kx]; exact h) t
          have oky : ∀ (t : List β), y.kind = 1 → ot ι (takeP y n) t = t.take n.toNat ∧ rs (takeP y n) t = t.drop n.toNat := fun t h => ot_keep ι (p := takeP y n) (by rw [ky]; exact h) t
          have odx : ∀ (t : List β), x.kind = 3 → ot ι (takeP x n) t = [] ∧ rs (takeP x n) t = t.drop n.toNat := fun t h => ot_drop ι (p := takeP x n) (by rw [kx]; exact h) t
          have ody : ∀ (t : List β), y.kind = 3 → ot ι (takeP y n) t = [] ∧ rs (takeP y n) t = t.drop n.toNat := fun t h => ot_drop ι (p := takeP y n) (by rw [ky]; exact h) t
          rcases kx3 with kx1 | kx1 <;> rcases ky3 with ky1 | ky1
          · rw [if_pos kx1, if_pos ky1, (okx l kx1).1, (okx l kx1).2, (oky l ky1).1, (oky l ky1).2]
            refine ⟨FitsU.cons tx1 i1, FitsU.cons ty1 i2, ?_, ?_, ?_⟩
            · simp only [List.cons_append, List.nil_append, fromS, i3, kx, nx, if_neg hx']; omega
            · simp only [List.cons_append, List.nil_append, fromS, i4, ky, ny, if_neg hy']; omega
            · simp only [List.cons_append, List.nil_append]
              rw [runS_cons, runS_cons]
              simp only
              rw [(okx _ kx1).1, (okx _ kx1).2, (oky _ ky1).1, (oky _ ky1).2, List.take_left' hA, List.drop_left' hA, List.take_left' hA, List.drop_left' hA, i5]
          · rw [if_pos kx1, if_neg (show ¬ y.kind = 1 by omega), (okx l kx1).1, (okx l kx1).2, (ody l ky1).1, (ody l ky1).2]
            refine ⟨i1, FitsU.cons ty1 i2, ?_, ?_, ?_⟩
            · simp only [List.nil_append, i3]; omega
            · simp only [List.cons_append, List.nil_append, fromS, i4, ky, ny, if_neg hy']; omega
            · simp only [List.cons_append, List.nil_append]
              rw [runS_cons]
              simp only
              rw [(ody _ ky1).1, (ody _ ky1).2, List.drop_left' hA, i5, List.nil_append]
          · rw [if_neg (show ¬ x.kind = 1 by omega), if_pos ky1, (odx l kx1).1, (odx l kx1).2, (oky l ky1).1, (oky l ky1).2]
            refine ⟨FitsU.cons tx1 i1, i2, ?_, ?_, ?_⟩
            · simp only [List.cons_append, List.nil_append, fromS, i3, kx, nx, if_neg hx']; omega
            · simp only [List.nil_append, i4]; omega
            · simp only [List.cons_append, List.nil_append]
              rw [runS_cons]
              simp only
              rw [(odx _ kx1).1, (odx _ kx1).2, List.drop_left' hA, i5, List.nil_append]
          · rw [if_neg (show ¬ x.kind = 1 by omega), if_neg (show ¬ y.kind = 1 by omega), (odx l kx1).1, (odx l kx1).2, (ody l ky1).1, (ody l ky1).2]
            refine ⟨i1, i2, ?_, ?_, ?_⟩
            · simp only [List.nil_append, i3]; omega
            · simp only [List.nil_append, i4]; omega
            · simp only [List.nil_append]
              exact i5
end
/-! ### What composition makes -/
theorem len_list (n : Int) (h : 0 ≤ n) : ((List.replicate n.toNat (0 : Int)).length : Int) = n := by rw [List.length_replicate]; omega
theorem not_compBad {a b : List Part} (h : ¬ compBad a b) : Ok a ∧ Ok b ∧ toS a = fromS b := by
  unfold compBad at h
  have ha : (sizesF a).2.2 = true := by cases hh : (sizesF a).2.2 <;> simp_all
  have hb : (sizesF b).2.2 = true := by cases hh : (sizesF b).2.2 <;> simp_all
  have oa := ok_iff.1 ha; have ob := ok_iff.1 hb
  refine ⟨oa, ob, ?_⟩
  rw [oa.sizes, ob.sizes] at h
  simp only [Bool.true_eq_false, false_or] at h
  omega
theorem compBad_iff {a b : List Part} : ¬ compBad a b ↔ Ok a ∧ Ok b ∧ toS a = fromS b := by
  refine ⟨not_compBad, fun ⟨oa, ob, e⟩ h => ?_⟩
  unfold compBad at h
  rw [oa.sizes, ob.sizes] at h
  simp only [Bool.true_eq_false, false_or] at h
  omega
theorem compGo_facts {a b : List Part} (oa : Ok a) (ob : Ok b) (e : toS a = fromS b) : FitsU (compGo (a.length + b.length) a b) ∧ fromS (compGo (a.length + b.length) a b) = fromS a ∧ toS (compGo (a.length + b.length) a b) = toS b := by
  have pa := fromS_posU oa.1; have pb := fromS_posU ob.1
  have hl := len_list (fromS a) pa.1
  obtain ⟨h1, h2, h3⟩ := comp_run (id : Int → Int) _ a b (List.replicate (fromS a).toNat 0) oa.fits ob.fits e (Nat.le_refl _) hl
  refine ⟨h1, h2, ?_⟩
  have l1 := (runS_len id (compGo (a.length + b.length) a b) (List.replicate (fromS a).toNat 0) h1 (by omega)).1
  have l2 := (runS_len id a (List.replicate (fromS a).toNat 0) oa.1 (by omega)).1
  have l3 := (runS_len id b (runS id a (List.replicate (fromS a).toNat 0)).1 ob.1 (by omega)).1
  rw [h3] at l1; omega
/-- Two edits that fit make one. -/
theorem comp_law {a b : List Part} (oa : Ok a) (ob : Ok b) (e : toS a = fromS b) :
    compE a b = 0 ∧ Ok (compF a b) ∧ fromS (compF a b) = fromS a ∧ toS (compF a b) = toS b ∧
    ∀ {β : Type} (ι : Int → β) (l : List β), (l.length : Int) = fromS a → (runS ι (compF a b) l).1 = (runS ι b (runS ι a l).1).1 := by
  obtain ⟨h1, h2, h3⟩ := compGo_facts oa ob e
  have nb := compBad_iff.2 ⟨oa, ob, e⟩
  obtain ⟨m1, m2, m3⟩ := addRs_mk (compGo (a.length + b.length) a b) [] MK.nil h1
  have z0 : fromS ([] : List Part) = 0 := rfl
  have z1 : toS ([] : List Part) = 0 := rfl
  have hok : Ok (compR a b).reverse := m1.ok (by have := oa.2.2.1; omega) (by have := ob.2.2.2; omega)
  obtain ⟨c1, c2⟩ := comp_ok nb (ok_iff.2 hok)
  have hrev := fromS_rev (compR a b)
  have hR : compR a b = addRs [] (compGo (a.length + b.length) a b) := rfl
  rw [c2]
  refine ⟨c1, hok, by rw [hrev.1, hR]; omega, by rw [hrev.2, hR]; omega, fun ι l hl => ?_⟩
  rw [hR, maker_run ι h1]
  exact (comp_run ι _ a b l oa.fits ob.fits e (Nat.le_refl _) hl).2.2
/-! ### What transformation makes -/
theorem trBad_iff {a b : List Part} : ¬ trBad a b ↔ Ok a ∧ Ok b ∧ fromS a = fromS b := by
  unfold trBad
  constructor
  · intro h
    have ha : (sizesF a).2.2 = true := by cases hh : (sizesF a).2.2 <;> simp_all
    have hb : (sizesF b).2.2 = true := by cases hh : (sizesF b).2.2 <;> simp_all
    have oa := ok_iff.1 ha; have ob := ok_iff.1 hb
    refine ⟨oa, ob, ?_⟩
    rw [oa.sizes, ob.sizes] at h
    simp only [Bool.true_eq_false, false_or] at h
    omega
  · rintro ⟨oa, ob, e⟩ h
    rw [oa.sizes, ob.sizes] at h
    simp only [Bool.true_eq_false, false_or] at h
    omega
end Go.SK

set_option linter.unusedVariables false
set_option linter.unusedSimpArgs false
set_option maxRecDepth 100000
namespace Go.SK
open Go
theorem runS_scalar : ∀ (e : List Part) (l : List Int), FitsU e → (∀ x ∈ l, scalar x) → ∀ x ∈ (runS id e l).1, scalar x
  | [], l, _, _, x, hx => by simp [runS] at hx
  | p :: r, l, h, hl, x, hx => by
    rw [runS_cons] at hx
    simp only at hx
    have hrs : ∀ y ∈ rs p l, scalar y := by
      intro y hy
      unfold rs at hy
      split at hy
      · exact hl y (List.mem_of_mem_drop hy)
      · split at hy
        · exact hl y (List.mem_of_mem_drop hy)
        · exact hl y hy
    rcases List.mem_append.1 hx with hx | hx
    · unfold ot at hx
      split at hx
      · exact hl x (List.mem_of_mem_take hx)
      · split at hx
        · cases hx
        · rename_i k1 k3
          rw [List.map_id] at hx
          have hv : valid p.text = true := by rcases (h p (.head _)).2 with y | y | y <;> first | omega | exact y.2.1
          exact dec_scalar hv x hx
    · exact runS_scalar r (rs p l) h.tail hrs x hx
theorem inv_run : ∀ (e : List Part) (l : List Int), Fits e → fromS e = l.length → (∀ x ∈ l, scalar x) →
    FitsU (invGo e l) ∧ fromS (invGo e l) = toS e ∧ toS (invGo e l) = fromS e ∧ (runS id (invGo e l) (runS id e l).1).1 = l
  | [], l, _, hl, _ => by
    obtain rfl : l = [] := List.length_eq_zero_iff.1 (by simp only [fromS] at hl; omega)
    exact ⟨fun _ h => (by cases h), rfl, rfl, rfl⟩
  | p :: r, l, h, hl, hs => by
    have hn := fitsB_n (h p (.head _))
    have hp := fromS_posU (fitsU_of h.tail)
    have hf := fitU_of (h p (.head _))
    simp only [fromS] at hl
    rw [invGo, runS_cons]
    rcases hf.kinds with k | k | k
    · rw [if_neg (by omega)] at hl
      obtain ⟨i1, i2, i3, i4⟩ := inv_run r (l.drop p.n.toNat) h.tail (by rw [List.length_drop]; omega) (fun x hx => hs x (List.mem_of_mem_drop hx))
      have hA : (l.take p.n.toNat).length = p.n.toNat := by rw [List.length_take]; omega
      rw [if_pos k, runS_cons]
      refine ⟨FitsU.cons hf i1, ?_, ?_, ?_⟩
      · simp only [fromS, toS, i2]; split <;> split <;> omega
      · simp only [fromS, toS, i3]; split <;> split <;> omega
      · simp only
        rw [(ot_keep id k l).1, (ot_keep id k l).2, (ot_keep id k _).1, (ot_keep id k _).2, List.take_left' hA, List.drop_left' hA, i4, List.take_append_drop]
    · rw [if_pos k] at hl
      obtain ⟨i1, i2, i3, i4⟩ := inv_run r l h.tail (by omega) hs
      have kd : (dropP p.n).kind = 3 := rfl
      have nd : (dropP p.n).n = p.n := rfl
      rw [if_neg (by omega), if_neg (by omega), runS_cons]
      refine ⟨FitsU.cons ⟨hn.1, .inr (.inl ⟨rfl, rfl⟩)⟩ i1, ?_, ?_, ?_⟩
      · simp only [fromS, toS, i2, kd, nd]; rw [if_neg (by omega), if_neg (by omega)]
      · simp only [fromS, toS, i3, kd, nd]; rw [if_pos trivial, if_pos k]
      · simp only
        rw [(ot_put id k l).1, (ot_put id k l).2, (ot_drop id kd _).1, (ot_drop id kd _).2, nd, List.drop_left' (put_len id hf k), i4]
        rfl
    · rw [if_neg (by omega)] at hl
      obtain ⟨i1, i2, i3, i4⟩ := inv_run r (l.drop p.n.toNat) h.tail (by rw [List.length_drop]; omega) (fun x hx => hs x (List.mem_of_mem_drop hx))
      have hA : (l.take p.n.toNat).length = p.n.toNat := by rw [List.length_take]; omega
      have hsc : ∀ x ∈ l.take p.n.toNat, scalar x := fun x hx => hs x (List.mem_of_mem_take hx)
      obtain ⟨q1, q2⟩ := put_fits hsc (by omega) (by omega)
      have kp : (putP (enc (l.take p.n.toNat))).kind = 2 := rfl
      rw [if_neg (by omega), if_pos k, runS_cons]
      refine ⟨FitsU.cons (fitU_of q1) i1, ?_, ?_, ?_⟩
      · simp only [fromS, toS, i2, kp]; rw [if_pos trivial, if_pos k]
      · simp only [fromS, toS, i3, kp, q2]; rw [if_neg (by omega), if_neg (by omega)]; omega
      · simp only
        rw [(ot_drop id k l).1, (ot_drop id k l).2, (ot_put id kp _).1, (ot_put id kp _).2, List.nil_append, i4]
        have : dec (putP (enc (l.take p.n.toNat))).text = l.take p.n.toNat := dec_enc hsc
        rw [this, List.map_id, List.take_append_drop]
theorem applyBad_iff {e : List Part} {s : ByteArray} : ¬ applyBad e s ↔ valid s = true ∧ Ok e ∧ fromS e = (dec s).length := by
  unfold applyBad
  constructor
  · intro h
    have hv : valid s = true := by cases hh : valid s <;> simp_all
    have hc : checkF e (dec s).length = 0 := by
      by_cases hc : checkF e (dec s).length = 0
      · exact hc
      · exact absurd (Or.inr hc) h
    exact ⟨hv, checkF_iff.1 hc⟩
  · rintro ⟨hv, h⟩ (h1 | h1)
    · rw [hv] at h1; cases h1
    · exact h1 (checkF_iff.2 h)
/-- What an edit makes of a text. -/
theorem apply_law {e : List Part} {s : ByteArray} (hv : valid s = true) (h : Ok e) (hn : fromS e = (dec s).length) :
    applyE e s = 0 ∧ applyF e s = enc (runS id e (dec s)).1 ∧ valid (applyF e s) = true ∧ dec (applyF e s) = (runS id e (dec s)).1 ∧ ((dec (applyF e s)).length : Int) = toS e := by
  have hb := applyBad_iff.2 ⟨hv, h, hn⟩
  obtain ⟨a1, a2⟩ := apply_ok hb
  rw [apGo_run, List.nil_append] at a1
  have hsc := runS_scalar e (dec s) h.1 (dec_scalar hv)
  have hd : dec (applyF e s) = (runS id e (dec s)).1 := by rw [a1]; exact dec_enc hsc
  refine ⟨a2, a1, by rw [a1]; exact valid_enc hsc, hd, ?_⟩
  rw [hd]; exact (runS_len id e (dec s) h.1 (by omega)).1
theorem inv_law {e : List Part} {s : ByteArray} (hv : valid s = true) (h : Ok e) (hn : fromS e = (dec s).length) :
    invE e s = 0 ∧ Ok (invF e s) ∧ fromS (invF e s) = toS e ∧ toS (invF e s) = fromS e ∧ applyE (invF e s) (applyF e s) = 0 ∧ applyF (invF e s) (applyF e s) = s := by
  have hb := applyBad_iff.2 ⟨hv, h, hn⟩
  obtain ⟨i1, i2, i3, i4⟩ := inv_run e (dec s) h.fits hn (dec_scalar hv)
  obtain ⟨m1, m2, m3⟩ := addRs_mk (invGo e (dec s)) [] MK.nil i1
  have z0 : fromS ([] : List Part) = 0 := rfl
  have z1 : toS ([] : List Part) = 0 := rfl
  have hR : invR e s = addRs [] (invGo e (dec s)) := rfl
  have hok : Ok (invR e s).reverse := m1.ok (by have := h.2.2.2; omega) (by have := h.2.2.1; omega)
  obtain ⟨c1, c2⟩ := inv_ok hb (ok_iff.2 hok)
  have hrev := fromS_rev (invR e s)
  obtain ⟨a1, a2, a3, a4, a5⟩ := apply_law hv h hn
  have hf : fromS (invF e s) = toS e := by rw [c2, hrev.1, hR]; omega
  obtain ⟨b1, b2, b3, b4, b5⟩ := apply_law (e := invF e s) a3 (by rw [c2]; exact hok) (by rw [hf]; exact a5.symm)
  refine ⟨c1, by rw [c2]; exact hok, hf, by rw [c2, hrev.2, hR]; omega, b1, ?_⟩
  rw [b2, a4, c2, hR, maker_run id i1, i4]
  exact enc_dec hv
end Go.SK

set_option linter.unusedVariables false
set_option linter.unusedSimpArgs false
set_option maxRecDepth 100000
namespace Go.SK
open Go Go.Lib
theorem keep_fz {n : Int} (h : 0 ≤ n) (h1 : n ≤ 1099511627776) : fitsB (keepP n) = true ∨ (keepP n).n = 0 := by
  rcases Int.lt_or_le 0 n with c | c
  · exact .inl (fitsB_mk (show 1 ≤ n by omega) h1 (.inl ⟨rfl, rfl⟩))
  · exact .inr (show n = 0 by omega)
theorem put_fz {w : ByteArray} (hw : valid w = true) (hw2 : (rcount w : Int) ≤ 1099511627776) : fitsB (putP w) = true ∨ (putP w).n = 0 := by
  rcases Nat.eq_zero_or_pos (rcount w) with c | c
  · exact .inr (show (rcount w : Int) = 0 by omega)
  · exact .inl (fitsB_mk (show 1 ≤ (rcount w : Int) by omega) (show (rcount w : Int) ≤ _ by omega) (.inr (.inr ⟨rfl, hw, by show ((dec w).length : Int) = rcount w; rw [rcount_dec]⟩)))
section
variable {β : Type} (ι : Int → β)
/-- Parts of nothing say nothing. -/
theorem runS_filter : ∀ (ps : List Part) (l : List β), (∀ p ∈ ps, fitsB p = true ∨ (p.n = 0 ∧ (p.kind = 1 ∨ p.kind = 3 ∨ (p.kind = 2 ∧ dec p.text = [])))) → runS ι (ps.filter fitsB) l = runS ι ps l
  | [], l, _ => rfl
  | p :: ps, l, h => by
    have ih := fun l => runS_filter ps l (fun q hq => h q (.tail _ hq))
    by_cases c : fitsB p = true
    · rw [List.filter_cons_of_pos c, runS_cons, runS_cons, ih]
    · obtain ⟨h0, hk⟩ := (h p (.head _)).resolve_left c
      rw [List.filter_cons_of_neg c, ih, runS_cons]
      rcases hk with k | k | ⟨k, kt⟩
      · rw [(ot_keep ι k l).1, (ot_keep ι k l).2, h0]; simp
      · rw [(ot_drop ι k l).1, (ot_drop ι k l).2, h0]; simp
      · rw [(ot_put ι k l).1, (ot_put ι k l).2, kt]; simp
theorem fz_keep {n : Int} (h : 0 ≤ n) (h1 : n ≤ 1099511627776) : fitsB (keepP n) = true ∨ ((keepP n).n = 0 ∧ ((keepP n).kind = 1 ∨ (keepP n).kind = 3 ∨ ((keepP n).kind = 2 ∧ dec (keepP n).text = []))) := (keep_fz h h1).imp id fun x => ⟨x, .inl rfl⟩
theorem fz_put {w : ByteArray} (hw : valid w = true) (hw2 : (rcount w : Int) ≤ 1099511627776) : fitsB (putP w) = true ∨ ((putP w).n = 0 ∧ ((putP w).kind = 1 ∨ (putP w).kind = 3 ∨ ((putP w).kind = 2 ∧ dec (putP w).text = []))) := (put_fz hw hw2).imp id fun x => ⟨x, .inr (.inr ⟨rfl, by
  have h1 : (rcount w : Int) = 0 := x
  rw [rcount_dec] at h1
  exact List.length_eq_zero_iff.1 (by show (dec w).length = 0; omega)⟩)⟩
theorem fz_drop {n : Int} (h : 0 ≤ n) (h1 : n ≤ 1099511627776) : fitsB (dropP n) = true ∨ ((dropP n).n = 0 ∧ ((dropP n).kind = 1 ∨ (dropP n).kind = 3 ∨ ((dropP n).kind = 2 ∧ dec (dropP n).text = []))) := by
  rcases Int.lt_or_le 0 n with c | c
  · exact .inl (fitsB_mk (show 1 ≤ n by omega) h1 (.inr (.inl ⟨rfl, rfl⟩)))
  · exact .inr ⟨show n = 0 by omega, .inr (.inl rfl)⟩
end
theorem filter_fit {ps : List Part} : FitsU (ps.filter fitsB) := fun q hq => fitU_of (List.mem_filter.1 hq).2
def swG (n : Nat) : List (Nat × Nat × ByteArray) → Nat → List Part
  | [], a => [keepP ((n : Int) - a)]
  | (i, j, w) :: r, a => keepP ((i : Int) - a) :: putP w :: dropP ((j : Int) - i) :: swG n r j
def swGR (t : List Int) : List (Nat × Nat × ByteArray) → Nat → List Int
  | [], a => t.drop a
  | (i, j, w) :: r, a => (t.drop a).take (i - a) ++ (dec w ++ swGR t r j)
def GOk (n : Nat) : List (Nat × Nat × ByteArray) → Nat → Prop
  | [], a => a ≤ n
  | (i, j, w) :: r, a => a ≤ i ∧ i ≤ j ∧ j ≤ n ∧ valid w = true ∧ GOk n r j
def gsum : List (Nat × Nat × ByteArray) → Nat
  | [] => 0
  | (_, _, w) :: r => rcount w + gsum r
abbrev Fz (q : Part) : Prop := fitsB q = true ∨ (q.n = 0 ∧ (q.kind = 1 ∨ q.kind = 3 ∨ (q.kind = 2 ∧ dec q.text = [])))
theorem swG_fz {n : Nat} (hn : n ≤ 1099511627776) : ∀ (l : List (Nat × Nat × ByteArray)) (a : Nat), GOk n l a → gsum l ≤ 1099511627776 → ∀ q ∈ swG n l a, Fz q
  | [], a, h, hb, q, hq => by
    rw [swG, List.mem_singleton] at hq
    subst hq
    have h : a ≤ n := h
    exact fz_keep (by omega) (by omega)
  | (i, j, w) :: r, a, h, hb, q, hq => by
    obtain ⟨h1, h2, h3, h4, h5⟩ := h
    simp only [gsum] at hb
    rw [swG] at hq
    rcases List.mem_cons.1 hq with rfl | hq
    · exact fz_keep (by omega) (by omega)
    · rcases List.mem_cons.1 hq with rfl | hq
      · exact fz_put h4 (by omega)
      · rcases List.mem_cons.1 hq with rfl | hq
        · exact fz_drop (by omega) (by omega)
        · exact swG_fz hn r j h5 (by omega) q hq
theorem gok_le {n : Nat} : ∀ {l : List (Nat × Nat × ByteArray)} {a : Nat}, GOk n l a → a ≤ n
  | [], a, h => h
  | (i, j, w) :: r, a, h => by have := h.1; have := h.2.1; have := h.2.2.1; omega
theorem swG_from {n : Nat} : ∀ (l : List (Nat × Nat × ByteArray)) (a : Nat), GOk n l a → fromS (swG n l a) = (n : Int) - a ∧ toS (swG n l a) ≤ (n : Int) - a + gsum l ∧ 0 ≤ toS (swG n l a)
  | [], a, h => by
    have h : a ≤ n := h
    simp [swG, fromS, toS, keepP, gsum]; omega
  | (i, j, w) :: r, a, h => by
    obtain ⟨h1, h2, h3, h4, h5⟩ := h
    obtain ⟨f1, f2, f3⟩ := swG_from r j h5
    simp [swG, fromS, toS, keepP, putP, dropP, gsum, f1]
    omega
theorem filtZ : ∀ {l : List Part}, (∀ q ∈ l, Fz q) → fromS (l.filter fitsB) = fromS l ∧ toS (l.filter fitsB) = toS l
  | [], _ => ⟨rfl, rfl⟩
  | p :: l, h => by
    have ih := filtZ (fun q hq => h q (.tail _ hq))
    rw [List.filter_cons]
    rcases h p (.head _) with h1 | ⟨h1, _⟩
    · rw [if_pos h1]; simp only [fromS, toS]; omega
    · split
      · simp only [fromS, toS]; omega
      · simp only [fromS, toS, h1]
        constructor <;> split <;> omega
theorem swG_runI {t : List Int} : ∀ (l : List (Nat × Nat × ByteArray)) (a : Nat), GOk t.length l a → (runS id (swG t.length l a) (t.drop a)).1 = swGR t l a
  | [], a, h => by
    have h : a ≤ t.length := h
    rw [swG, swGR, runS_cons, (ot_keep id (p := keepP ((t.length : Int) - a)) rfl _).1]
    simp only [runS, List.append_nil]
    exact List.take_of_length_le (by rw [List.length_drop]; show _ ≤ ((t.length : Int) - a).toNat; omega)
  | (i, j, w) :: r, a, h => by
    obtain ⟨h1, h2, h3, h4, h5⟩ := h
    rw [swG, swGR]
    simp only [runS_cons]
    rw [(ot_keep id (p := keepP ((i : Int) - a)) rfl _).1, (ot_keep id (p := keepP ((i : Int) - a)) rfl _).2, (ot_put id (p := putP w) rfl _).1, (ot_put id (p := putP w) rfl _).2, (ot_drop id (p := dropP ((j : Int) - i)) rfl _).1, (ot_drop id (p := dropP ((j : Int) - i)) rfl _).2]
    rw [List.drop_drop, List.drop_drop, show a + ((keepP ((i : Int) - a)).n.toNat + (dropP ((j : Int) - i)).n.toNat) = j by show a + (((i : Int) - a).toNat + ((j : Int) - i).toNat) = j; omega, swG_runI r j h5]
    show (t.drop a).take ((i : Int) - a).toNat ++ ((dec w).map id ++ ([] ++ swGR t r j)) = _
    rw [List.map_id, List.nil_append, show ((i : Int) - a).toNat = i - a by omega]
/-- What the one form of such parts makes. -/
theorem swG_law {s : ByteArray} (hv : valid s = true) {l : List (Nat × Nat × ByteArray)} (hok : GOk (dec s).length l 0) (hn : (dec s).length ≤ 1048576) (hb : gsum l ≤ 1048576) :
    Ok (normF (swG (dec s).length l 0)) ∧ fromS (normF (swG (dec s).length l 0)) = (dec s).length ∧ applyF (normF (swG (dec s).length l 0)) s = enc (swGR (dec s) l 0) := by
  have hz := swG_fz (n := (dec s).length) (by omega) l 0 hok (by omega)
  obtain ⟨f1, f2, f3⟩ := swG_from l 0 hok
  obtain ⟨z1, z2⟩ := filtZ hz
  obtain ⟨m1, m2, m3⟩ := addRs_mk _ [] MK.nil (filter_fit (ps := swG (dec s).length l 0))
  have e0 : fromS ([] : List Part) = 0 := rfl
  have e1 : toS ([] : List Part) = 0 := rfl
  have hr := fromS_rev (addRs [] ((swG (dec s).length l 0).filter fitsB))
  have ok : Ok (normF (swG (dec s).length l 0)) := m1.ok (by omega) (by omega)
  have hf : fromS (normF (swG (dec s).length l 0)) = (dec s).length := by unfold normF; omega
  obtain ⟨a1, a2, a3, a4, a5⟩ := apply_law hv ok hf
  refine ⟨ok, hf, ?_⟩
  rw [a2]
  congr 1
  have h1 := swG_runI (t := dec s) l 0 hok
  rw [List.drop_zero] at h1
  rw [← h1]
  unfold normF
  rw [maker_run id filter_fit, runS_filter id _ _ hz]
end Go.SK
