/- Plain words: how the document's own answer goes over edits that are spread out, step by step. -/
import Derived.Test.YtgklklmcmdcpgaaDoorP21
set_option linter.unusedVariables false
set_option linter.unusedSimpArgs false
set_option maxRecDepth 100000
namespace Go.SK
open Go Go.RowKit
abbrev sv (t : List Int) : Value := .string (enc t)
abbrev bv (b : Bool) : Value := .bool b
abbrev chv (c : Int) : Value := .string (enc [c])
theorem lkM {α : Type} {f : α → Value} {l : List α} {i k : Nat} {d x : α} (h : i < l.length) (hx : l.getD i d = x) (hk : k = i) : (l.map f)[k]? = some (f x) := by
  subst hk
  rw [List.getElem?_map, List.getElem?_eq_getElem h, ← hx, List.getD_eq_getElem?_getD, List.getElem?_eq_getElem h]; rfl
theorem stM {α : Type} {f : α → Value} {l : List α} {i k : Nat} {y : α} (h : i < l.length) (hk : k = i) : (l.map f).take k ++ [f y] ++ (l.map f).drop (k + 1) = (l.set i y).map f := by
  subst hk
  rw [List.set_eq_take_append_cons_drop, if_pos h]
  simp [List.map_take, List.map_drop]
theorem row_lenM {α : Type} {f : α → Value} {S : Nat → Prop} {w0 : World} {L : List Res} {v : Value} {e m : Nat} {ns : List α} {w : World} (h : Hp S w0 w (.row v e 1 m (ns.map f) :: L)) : Hp S w0 w (.row v e 1 ns.length (ns.map f) :: L) := by
  have h1 : w.ownsRow 0 e 1 v m (ns.map f) := h.at_ _ (.head _)
  have h2 : ns.length = m := by have := h1.1; simpa using this
  rw [h2]; exact h
theorem getD_drop {α : Type} {l : List α} {i : Nat} {d x : α} (h : i < l.length) (hx : l.getD i d = x) : l.drop i = x :: l.drop (i + 1) := by
  rw [List.drop_eq_getElem_cons h, ← hx, List.getD_eq_getElem?_getD, List.getElem?_eq_getElem h]; rfl
theorem set_mid {α : Type} {A R : List α} {a b : α} {i : Nat} (h : A.length = i) : (A ++ a :: R).set i b = A ++ b :: R := by
  subst h
  rw [List.set_append_right _ _ (Nat.le_refl _), Nat.sub_self]; rfl
theorem get_mid {α : Type} {A R : List α} {a d : α} {i : Nat} (h : A.length = i) : (A ++ a :: R).getD i d = a := by
  subst h
  rw [List.getD_eq_getElem?_getD, List.getElem?_append_right (Nat.le_refl _), Nat.sub_self]; rfl
theorem rep_cons {α : Type} {n : Nat} {a : α} (h : 0 < n) : List.replicate n a = a :: List.replicate (n - 1) a := by
  obtain ⟨m, rfl⟩ : ∃ m, n = m + 1 := ⟨n - 1, by omega⟩
  rfl
theorem addH_nil {P : List (List Int)} (h : 0 < P.length) : addH [] P = P := by
  cases P with
  | nil => simp at h
  | cons a r => rfl
theorem spP_pos {e : List Part} (h : FitsU e) : 0 < (spP e).length := by rw [spP_len h]; omega
theorem addH_addH (a b : List Int) {P : List (List Int)} (h : 0 < P.length) : addH a (addH b P) = addH (a ++ b) P := by
  cases P with
  | nil => simp at h
  | cons x r => simp [addH, List.append_assoc]
def psum : List (List Int) → Int
  | [] => 0
  | t :: r => t.length + psum r
theorem psum_append : ∀ (A B : List (List Int)), psum (A ++ B) = psum A + psum B
  | [], B => by simp [psum]
  | t :: A, B => by simp only [List.cons_append, psum, psum_append A B]; omega
theorem psum_pos : ∀ (P : List (List Int)), 0 ≤ psum P
  | [] => by simp [psum]
  | t :: r => by have := psum_pos r; simp only [psum]; omega
theorem psum_addH (t : List Int) (P : List (List Int)) : psum (addH t P) = t.length + psum P := by
  cases P with
  | nil => rfl
  | cons a r => simp only [addH, psum, List.length_append]; omega
theorem psum_rep (n : Nat) : psum (List.replicate n []) = 0 := by
  induction n with
  | zero => rfl
  | succ n ih => simp only [List.replicate_succ, psum, List.length_nil, ih]; rfl
theorem psum_sp : ∀ {e : List Part}, FitsU e → psum (spP e) = putsN e
  | [], _ => rfl
  | p :: r, h => by
    have ih := psum_sp h.tail
    rw [spP]; simp only [putsN]
    rcases (h p (.head _)).2 with ⟨k, _⟩ | ⟨k, _⟩ | ⟨k, _, k2⟩
    · rw [if_neg (by omega), if_neg (by omega), psum_append, psum_rep, ih]
    · rw [if_neg (by omega), if_neg (by omega), psum_append, psum_rep, ih]
    · rw [if_pos k, if_pos k, psum_addH, ih, k2]
theorem puts_le {e : List Part} (h : FitsU e) : putsN e ≤ toS e := by
  have := toS_eq h; have := dropN_le h; omega
/-! ### Spread -/
structure SInv (e : List Part) (n k i : Nat) (P : List (List Int)) (D : List Bool) : Prop where
  kle : k ≤ e.length
  at_ : (i : Int) + fromS (e.drop k) = n
  go : ∃ P0 t, P = P0 ++ t :: List.replicate (n - i) [] ∧ P0.length = i ∧ P0 ++ addH t (spP (e.drop k)) = spP e
  goD : ∃ D0, D = D0 ++ List.replicate (n - i) false ∧ D0.length = i ∧ D0 ++ dv (e.drop k) = dv e
theorem fitsU_drop {e : List Part} (h : FitsU e) (k : Nat) : FitsU (e.drop k) := fun q hq => h q (List.mem_of_mem_drop hq)
theorem SInv.start {e : List Part} {n : Nat} (h : FitsU e) (hn : fromS e = n) : SInv e n 0 0 (List.replicate (n + 1) []) (List.replicate n false) :=
  ⟨Nat.zero_le _, by simp only [List.drop_zero]; omega, ⟨[], [], by simp [List.replicate_succ], rfl, by simp only [List.drop_zero, List.nil_append]; exact addH_nil (spP_pos h)⟩, ⟨[], by simp, rfl, by simp⟩⟩
section
variable {e : List Part} {n k i : Nat} {P : List (List Int)} {D : List Bool} {p : Part}
theorem SInv.ile (h : SInv e n k i P D) (hf : FitsU e) : i ≤ n := by have := h.at_; have := (fromS_posU (fitsU_drop hf k)).1; omega
theorem SInv.lens (h : SInv e n k i P D) (hf : FitsU e) : P.length = n + 1 ∧ D.length = n := by
  have hi := h.ile hf
  obtain ⟨P0, t, h1, h2, _⟩ := h.go
  obtain ⟨D0, g1, g2, _⟩ := h.goD
  rw [h1, g1]; simp only [List.length_append, List.length_cons, List.length_replicate]; omega
theorem SInv.put (h : SInv e n k i P D) (hf : FitsU e) (hk : k < e.length) (hp : e.getD k default = p) (k2 : p.kind = 2) : SInv e n (k + 1) i (P.set i (P.getD i [] ++ dec p.text)) D := by
  have hi := h.ile hf
  obtain ⟨hkl, hat, ⟨P0, t, h1, h2, h3⟩, ⟨D0, g1, g2, g3⟩⟩ := h
  have hd := drop_getD hk hp
  rw [hd] at hat h3 g3
  have hfr : FitsU (e.drop (k + 1)) := fitsU_drop hf _
  refine ⟨by omega, by simp only [fromS, if_pos k2] at hat; omega, ⟨P0, t ++ dec p.text, ?_, h2, ?_⟩, ⟨D0, g1, g2, ?_⟩⟩
  · rw [h1, get_mid h2, set_mid h2]
  · rw [← h3, spP, if_pos k2, addH_addH _ _ (spP_pos hfr)]
  · rw [← g3, dv, show dvP p = [] by unfold dvP; rw [if_neg (by omega), if_neg (by omega)], List.nil_append]
def SIn (n i : Nat) (D : List Bool) (b : Bool) (j : Nat) (D' : List Bool) : Prop := ∃ D0, D = D0 ++ List.replicate (n - i) false ∧ D0.length = i ∧ D' = D0 ++ (List.replicate j b ++ List.replicate (n - i - j) false)
theorem SInv.inner (h : SInv e n k i P D) (b : Bool) : SIn n i D b 0 D := by
  obtain ⟨D0, g1, g2, _⟩ := h.goD
  exact ⟨D0, g1, g2, by rw [g1]; simp⟩
theorem SIn.step {b : Bool} {j : Nat} {D' : List Bool} (h : SIn n i D b j D') (hj : j < n - i) : i + j < D'.length ∧ SIn n i D b (j + 1) (D'.set (i + j) b) := by
  obtain ⟨D0, g1, g2, g3⟩ := h
  have hl : (D0 ++ List.replicate j b).length = i + j := by simp [g2]
  have e1 : D' = (D0 ++ List.replicate j b) ++ false :: List.replicate (n - i - j - 1) false := by rw [g3, rep_cons (n := n - i - j) (by omega)]; simp
  refine ⟨by rw [e1, List.length_append, hl, List.length_cons]; omega, D0, g1, g2, ?_⟩
  rw [e1, set_mid hl, List.replicate_succ', show n - i - (j + 1) = n - i - j - 1 by omega]; simp
theorem SInv.over (h : SInv e n k i P D) (hf : FitsU e) (hk : k < e.length) (hp : e.getD k default = p) (k2 : ¬ p.kind = 2) : 1 ≤ p.n ∧ p.n.toNat ≤ n - i ∧ i ≤ n := by
  have hi := h.ile hf
  have hat := h.at_
  rw [drop_getD hk hp] at hat
  have hr := fromS_posU (fitsU_drop hf (k + 1))
  have h1 := (hf p (by rw [← hp, List.getD_eq_getElem?_getD, List.getElem?_eq_getElem hk]; exact List.getElem_mem hk)).1
  simp only [fromS, if_neg k2] at hat
  omega
theorem SInv.next {D' : List Bool} (h : SInv e n k i P D) (hf : FitsU e) (hk : k < e.length) (hp : e.getD k default = p) (k2 : ¬ p.kind = 2) (hi : SIn n i D (decide (p.kind = 3)) p.n.toNat D') : SInv e n (k + 1) (i + p.n.toNat) P D' := by
  have ho := h.over hf hk hp k2
  have hkd := (hf p (by rw [← hp, List.getD_eq_getElem?_getD, List.getElem?_eq_getElem hk]; exact List.getElem_mem hk)).kinds
  obtain ⟨hkl, hat, ⟨P0, t, h1, h2, h3⟩, ⟨D0, g1, g2, g3⟩⟩ := h
  obtain ⟨D1, e1, e2, e3⟩ := hi
  have hd := drop_getD hk hp
  rw [hd] at hat h3 g3
  have hfr : FitsU (e.drop (k + 1)) := fitsU_drop hf _
  have hD : D1 = D0 := by
    have := e1.symm.trans g1
    exact (List.append_inj this (by omega)).1
  subst hD
  obtain ⟨m, hm⟩ : ∃ m, p.n.toNat = m + 1 := ⟨p.n.toNat - 1, by omega⟩
  refine ⟨by omega, by simp only [fromS, if_neg k2] at hat; omega, ⟨P0 ++ t :: List.replicate m [], [], ?_, by simp [h2]; omega, ?_⟩, ⟨D1 ++ List.replicate p.n.toNat (decide (p.kind = 3)), ?_, by simp [g2], ?_⟩⟩
  · rw [h1, List.append_assoc]
    congr 1
    rw [List.cons_append, show n - i = m + 1 + (n - (i + p.n.toNat)) by omega, ← List.replicate_append_replicate, List.replicate_succ']
    simp
  · rw [addH_nil (spP_pos hfr), ← h3, spP, if_neg k2, hm, List.replicate_succ, List.cons_append]
    simp [addH]
  · rw [e3, List.append_assoc, show n - i - p.n.toNat = n - (i + p.n.toNat) by omega]
  · rw [← g3, dv, List.append_assoc]
    congr 2
    unfold dvP
    rcases hkd with k | k | k
    · rw [if_pos k, decide_eq_false (by omega)]
    · omega
    · rw [if_neg (by omega), if_pos k, decide_eq_true k]
theorem SInv.stop (h : SInv e n k i P D) (hf : FitsU e) (hk : ¬ k < e.length) : P = spP e ∧ D = dv e := by
  obtain ⟨hkl, hat, ⟨P0, t, h1, h2, h3⟩, ⟨D0, g1, g2, g3⟩⟩ := h
  rw [List.drop_eq_nil_of_le (by omega)] at hat h3 g3
  simp only [fromS] at hat
  have hz : n - i = 0 := by omega
  rw [hz] at h1 g1
  exact ⟨by rw [h1, ← h3]; simp [spP, addH], by rw [g1, ← g3]; simp [dv]⟩
end
theorem SInv.text {e : List Part} {n k i : Nat} {P : List (List Int)} {D : List Bool} (h : SInv e n k i P D) (oe : Ok e) : (enc (P.getD i [])).size ≤ 4398046511104 := by
  obtain ⟨P0, t, h1, h2, h3⟩ := h.go
  rw [h1, get_mid h2]
  have e1 := congrArg psum h3
  rw [psum_append, psum_addH, psum_sp oe.1] at e1
  have := psum_pos P0; have := psum_pos (spP (e.drop k)); have := puts_le oe.1; have := oe.2.2.2; have := (enc_size t).2
  omega
/-! ### Closed -/
theorem psum_drop {P : List (List Int)} {i : Nat} {t : List Int} (h : i < P.length) (ht : P.getD i [] = t) : psum (P.drop i) = t.length + psum (P.drop (i + 1)) := by rw [getD_drop h ht]; rfl
structure CLB (P : List (List Int)) (D : List Bool) : Prop where
  sc : scP P
  len : P.length = D.length + 1
  n : psum P + D.length ≤ 4398046511104
  k : D.count false ≤ 4294967296
structure CLInv (P : List (List Int)) (D : List Bool) (i : Nat) (r : List Part) (ahead : List Int) (drops : Int) : Prop where
  ile : i ≤ D.length
  go : closeGo (P.drop i) (D.drop i) ahead drops r = closeGo P D [] 0 []
  sc : ∀ x ∈ ahead, scalar x
  d0 : 0 ≤ drops
  pos : ∀ q ∈ r, 0 ≤ q.n
  n : nsum r + ahead.length + drops + psum (P.drop i) + ((D.length : Int) - i) ≤ 4398046511104
  t : (tsum r : Int) + 4 * ahead.length + 4 * psum (P.drop i) ≤ 17592186044416
  len : r.length ≤ 3 * (D.take i).count false
theorem CLInv.start {P : List (List Int)} {D : List Bool} (h : CLB P D) : CLInv P D 0 [] [] 0 :=
  ⟨Nat.zero_le _, rfl, fun x hx => (by cases hx), by omega, fun q hq => (by cases hq), by have := h.n; simp only [nsum, List.length_nil, List.drop_zero]; omega, by have := h.n; simp only [tsum, List.length_nil, List.drop_zero]; omega, by simp⟩
section
variable {P : List (List Int)} {D : List Bool} {i : Nat} {r : List Part} {ahead t : List Int} {drops : Int} {b : Bool}
theorem rcount_enc {t : List Int} (h : ∀ x ∈ t, scalar x) : rcount (enc t) = t.length := by rw [rcount_dec, dec_enc h]
theorem CLInv.at_ (h : CLInv P D i r ahead drops) (hb : CLB P D) (ht : P.getD i [] = t) : i < P.length ∧ (∀ x ∈ ahead ++ t, scalar x) ∧ (enc ahead).size + (enc t).size ≤ 9223372036854775807 ∧ drops ≤ 4398046511104 ∧ valid (enc (ahead ++ t)) = true ∧ (enc (ahead ++ t)).size < 9223372036854775807 ∧ BothB r (enc (ahead ++ t)) drops := by
  have hi : i < P.length := by have := h.ile; have := hb.len; omega
  have hts : ∀ x ∈ t, scalar x := by rw [← ht, List.getD_eq_getElem?_getD, List.getElem?_eq_getElem hi]; exact hb.sc _ (List.getElem_mem hi)
  have hs : ∀ x ∈ ahead ++ t, scalar x := fun x hx => (List.mem_append.1 hx).elim (h.sc x) (hts x)
  have hp := psum_drop hi ht
  have hpp := psum_pos (P.drop (i + 1))
  have hn := h.n; have htt := h.t; have hd := h.d0; have hns := nsum_pos h.pos; have hile := h.ile
  have e1 := (enc_size ahead).2; have e2 := (enc_size t).2; have e3 := (enc_size (ahead ++ t)).2
  have hl := h.len
  have hk : (D.take i).count false ≤ D.count false := (List.take_sublist i D).count_le false
  have hkk := hb.k
  rw [List.length_append] at e3
  refine ⟨hi, hs, by omega, by omega, valid_enc hs, by omega, ⟨h.pos, hd, ?_, by omega, by omega⟩⟩
  rw [rcount_enc hs, List.length_append]; omega
theorem CLInv.stop (h : CLInv P D i r ahead drops) (hb : CLB P D) (ht : P.getD i [] = t) (hi : i = D.length) : bothR r (enc (ahead ++ t)) drops = closeGo P D [] 0 [] := by
  have h1 := (h.at_ hb ht).1
  rw [← h.go, getD_drop h1 ht, List.drop_eq_nil_of_le (as := D) (by omega), closeGo]; rfl
theorem CLInv.stepT (h : CLInv P D i r ahead drops) (hb : CLB P D) (ht : P.getD i [] = t) (hi : i < D.length) (hd : D.getD i false = true) : CLInv P D (i + 1) r (ahead ++ t) (drops + 1) := by
  obtain ⟨h1, h2, _⟩ := h.at_ hb ht
  have hp := psum_drop h1 ht
  have hn := h.n; have htt := h.t
  refine ⟨by omega, ?_, h2, by have := h.d0; omega, h.pos, by rw [List.length_append]; omega, by rw [List.length_append]; omega, ?_⟩
  · rw [← h.go, getD_drop h1 ht, getD_drop hi hd, closeGo]; rfl
  · have : (D.take (i + 1)).count false ≥ (D.take i).count false := by
      rw [List.take_add_one, List.count_append]; omega
    have := h.len; omega
theorem CLInv.stepF (h : CLInv P D i r ahead drops) (hb : CLB P D) (ht : P.getD i [] = t) (hi : i < D.length) (hd : D.getD i false = false) :
    OneB (bothR r (enc (ahead ++ t)) drops) ⟨1, 1, ⟨#[]⟩⟩ ∧ CLInv P D (i + 1) (oneR (bothR r (enc (ahead ++ t)) drops) ⟨1, 1, ⟨#[]⟩⟩) [] 0 := by
  obtain ⟨h1, h2, _, _, _, _, hB⟩ := h.at_ hb ht
  have hp := psum_drop h1 ht
  have hpp := psum_pos (P.drop (i + 1))
  have hn := h.n; have htt := h.t; have hl := h.len
  obtain ⟨f1, f2, f3, f4⟩ := bothR_facts hB
  rw [rcount_enc h2, List.length_append] at f2
  have e3 := (enc_size (ahead ++ t)).2
  rw [List.length_append] at e3
  have hk : (D.take i).count false ≤ D.count false := (List.take_sublist i D).count_le false
  have hkk := hb.k
  obtain ⟨g1, g2, g3, g4⟩ := oneR_facts (bothR r (enc (ahead ++ t)) drops) ⟨1, 1, ⟨#[]⟩⟩ f1 (by decide)
  have z1 : (⟨1, 1, ⟨#[]⟩⟩ : Part).n = 1 := rfl
  have z2 : (⟨1, 1, ⟨#[]⟩⟩ : Part).text.size = 0 := rfl
  rw [z1] at g2; rw [z2] at g3
  refine ⟨⟨f1, by decide, by rw [z1]; omega, by rw [z2]; omega, by omega⟩, ⟨by omega, ?_, fun x hx => (by cases hx), by omega, g1, ?_, ?_, ?_⟩⟩
  · rw [← h.go, getD_drop h1 ht, getD_drop hi hd, closeGo]; rfl
  · simp only [List.length_nil]; omega
  · simp only [List.length_nil]; omega
  · have : (D.take (i + 1)).count false = (D.take i).count false + 1 := by
      rw [List.take_add_one, List.count_append, List.getElem?_eq_getElem hi]
      rw [List.getD_eq_getElem?_getD, List.getElem?_eq_getElem hi] at hd
      simp at hd
      simp [hd]
    omega
end
/-! ### Applied, and cursors -/
def AWI (P : List (List Int)) (D : List Bool) (l R0 : List Int) (i : Nat) (acc : List Int) : Prop := i ≤ D.length ∧ acc ++ runW id (P.drop i) (D.drop i) (l.drop i) = R0
section
variable {P : List (List Int)} {D : List Bool} {l R0 acc t : List Int} {i : Nat} {c : Int}
theorem AWI.step (h : AWI P D l R0 i acc) (hi : i < D.length) (hP : i < P.length) (hl : i < l.length) (ht : P.getD i [] = t) (hc : l.getD i 0 = c) (b : Bool) (hb : D.getD i false = b) : AWI P D l R0 (i + 1) (if b then acc ++ t else acc ++ t ++ [c]) := by
  refine ⟨by omega, ?_⟩
  rw [← h.2, getD_drop hP ht, getD_drop hi hb, getD_drop hl hc, runW]
  cases b <;> simp [List.append_assoc]
theorem AWI.stop (h : AWI P D l R0 i acc) (hi : i = D.length) (hP : i < P.length) (ht : P.getD i [] = t) : acc ++ t = R0 := by
  rw [← h.2, getD_drop hP ht, List.drop_eq_nil_of_le (as := D) (by omega), runW]; simp
theorem AWI.len (h : AWI P D l R0 i acc) : acc.length ≤ R0.length := by rw [← h.2]; simp
theorem curW_pos : ∀ (i : Nat) (P : List (List Int)) (D : List Bool) (ah : Bool), 0 ≤ curW P D i ah
  | 0, P, D, ah => by cases ah <;> simp [curW]
  | i + 1, P, [], ah => by simp only [curW]; omega
  | i + 1, P, d :: D, ah => by have := curW_pos i P.tail D ah; simp only [curW]; split <;> omega
def CWI (P : List (List Int)) (D : List Bool) (k : Nat) (ah : Bool) (i : Nat) (to : Int) : Prop := i ≤ k ∧ 0 ≤ to ∧ to + curW (P.drop i) (D.drop i) (k - i) ah = curW P D k ah
theorem CWI.start (P : List (List Int)) (D : List Bool) (k : Nat) (ah : Bool) : CWI P D k ah 0 0 := ⟨Nat.zero_le _, by omega, by simp⟩
theorem CWI.le {k : Nat} {ah : Bool} {to : Int} (h : CWI P D k ah i to) : to ≤ curW P D k ah := by have := curW_pos (k - i) (P.drop i) (D.drop i) ah; have := h.2.2; omega
theorem CWI.step {k : Nat} {ah : Bool} {to : Int} (h : CWI P D k ah i to) (hk : i < k) (hi : i < D.length) (hP : i < P.length) (ht : P.getD i [] = t) (b : Bool) (hb : D.getD i false = b) : CWI P D k ah (i + 1) (to + t.length + (if b then 0 else 1)) := by
  obtain ⟨h1, h2, h3⟩ := h
  refine ⟨by omega, by split <;> omega, ?_⟩
  rw [getD_drop hP ht, getD_drop hi hb, show k - i = (k - (i + 1)) + 1 by omega, curW] at h3
  simp only [List.headD_cons, List.tail_cons] at h3
  cases b <;> simp at h3 ⊢ <;> omega
theorem CWI.stop {k : Nat} {ah : Bool} {to : Int} (h : CWI P D k ah i to) (hk : i = k) (hP : i < P.length) (ht : P.getD i [] = t) : curW P D k ah = if ah then to + t.length else to := by
  obtain ⟨h1, h2, h3⟩ := h
  rw [getD_drop hP ht, hk, Nat.sub_self, curW] at h3
  cases ah <;> simp at h3 ⊢ <;> omega
end
/-! ### Inverse -/
theorem psh_all (k : Nat) (cur : List Int) : psh k cur ++ [cur' k cur] = cur :: List.replicate k [] := by
  unfold psh cur'
  cases k with
  | zero => rfl
  | succ k => rw [if_neg (by omega), if_neg (by omega), List.cons_append, Nat.add_sub_cancel, ← List.replicate_succ']
theorem psh_succ (k : Nat) (cur : List Int) : (psh k cur ++ [cur' k cur]) ++ [[]] = psh (k + 1) cur ++ [cur' (k + 1) cur] := by
  rw [psh_all, psh_all, List.cons_append, ← List.replicate_succ']
structure VInv (wP : List (List Int)) (wD : List Bool) (l : List Int) (Z : List (List Int) × List Bool) (i : Nat) (P : List (List Int)) (D : List Bool) : Prop where
  ile : i ≤ wD.length + 1
  go : i ≤ wD.length → ∃ P0 cur, P = P0 ++ [cur] ∧ P0 ++ (iv (wP.drop i) (wD.drop i) (l.drop i) cur).1 = Z.1 ∧ D ++ (iv (wP.drop i) (wD.drop i) (l.drop i) cur).2 = Z.2
  fin : i = wD.length + 1 → P = Z.1 ∧ D = Z.2
theorem VInv.start (wP : List (List Int)) (wD : List Bool) (l : List Int) : VInv wP wD l (iv wP wD l []) 0 [[]] [] :=
  ⟨by omega, fun _ => ⟨[], [], rfl, by simp, by simp⟩, fun h => by omega⟩
/-- Within a step: so many code points put are dropped. -/
structure VIn (wP : List (List Int)) (wD : List Bool) (l : List Int) (Z : List (List Int) × List Bool) (i j : Nat) (P : List (List Int)) (D : List Bool) : Prop where
  jle : j ≤ ((wP.drop i).headD []).length
  go : ∃ P0 D0 cur, P = P0 ++ (psh j cur ++ [cur' j cur]) ∧ D = D0 ++ List.replicate j true ∧ P0 ++ (iv (wP.drop i) (wD.drop i) (l.drop i) cur).1 = Z.1 ∧ D0 ++ (iv (wP.drop i) (wD.drop i) (l.drop i) cur).2 = Z.2
section
variable {wP P : List (List Int)} {wD D : List Bool} {l t : List Int} {Z : List (List Int) × List Bool} {i j : Nat}
theorem VInv.inner (h : VInv wP wD l Z i P D) (hi : i ≤ wD.length) : VIn wP wD l Z i 0 P D := by
  obtain ⟨P0, cur, h1, h2, h3⟩ := h.go hi
  exact ⟨Nat.zero_le _, P0, D, cur, by rw [h1]; rfl, by simp, h2, h3⟩
theorem VIn.step (h : VIn wP wD l Z i j P D) (hj : j < ((wP.drop i).headD []).length) : VIn wP wD l Z i (j + 1) (P ++ [[]]) (D ++ [true]) := by
  obtain ⟨hj0, P0, D0, cur, h1, h2, h3, h4⟩ := h
  exact ⟨by omega, P0, D0, cur, by rw [h1, List.append_assoc, psh_succ], by rw [h2, List.append_assoc, List.replicate_succ'], h3, h4⟩
theorem iv_long : ∀ (wD : List Bool) (wP : List (List Int)) (l cur : List Int), (wP.headD []).length + 1 ≤ (iv wP wD l cur).1.length ∧ (wP.headD []).length ≤ (iv wP wD l cur).2.length
  | [], wP, l, cur => by simp [iv]
  | true :: D, wP, l, cur => by
    have h1 := iv_len D wP.tail (l.drop 1) (cur' (wP.headD []).length cur ++ l.take 1)
    simp only [iv, psh, List.length_append, List.length_replicate]
    split <;> simp only [List.length_cons, List.length_nil, List.length_replicate] <;> omega
  | false :: D, wP, l, cur => by
    have h1 := iv_len D wP.tail (l.drop 1) []
    simp only [iv, psh, List.length_append, List.length_replicate, List.length_cons]
    split <;> simp only [List.length_cons, List.length_nil, List.length_replicate] <;> omega
theorem VIn.lens (h : VIn wP wD l Z i j P D) : 0 < P.length ∧ P.length ≤ Z.1.length ∧ D.length ≤ Z.2.length := by
  obtain ⟨hj0, P0, D0, cur, h1, h2, h3, h4⟩ := h
  have hl := iv_long (wD.drop i) (wP.drop i) (l.drop i) cur
  have e1 := congrArg List.length h3; have e2 := congrArg List.length h4
  rw [List.length_append] at e1 e2
  rw [h1, h2, psh_all]
  simp only [List.length_append, List.length_cons, List.length_replicate]
  omega
theorem VIn.last (h : VIn wP wD l Z i j P D) : ∃ A a, P = A ++ [a] := by
  obtain ⟨hj0, P0, D0, cur, h1, _⟩ := h
  exact ⟨P0 ++ psh j cur, cur' j cur, by rw [h1, List.append_assoc]⟩
theorem headD_drop (hi : i < wP.length) (ht : wP.getD i [] = t) : (wP.drop i).headD [] = t := by rw [getD_drop hi ht]; rfl
theorem VIn.drop {c : Int} (h : VIn wP wD l Z i t.length P D) (hP : i < wP.length) (ht : wP.getD i [] = t) (hi : i < wD.length) (hd : wD.getD i false = true) (hl : i < l.length) (hc : l.getD i 0 = c) : VInv wP wD l Z (i + 1) (P.set (P.length - 1) (P.getD (P.length - 1) [] ++ [c])) D := by
  obtain ⟨hj0, P0, D0, cur, h1, h2, h3, h4⟩ := h
  rw [getD_drop hP ht, getD_drop hi hd, getD_drop hl hc] at h3 h4
  simp only [iv, List.headD_cons, List.tail_cons, List.drop_succ_cons, List.drop_zero, List.take_succ_cons, List.take_zero] at h3 h4
  have e : P = (P0 ++ psh t.length cur) ++ [cur' t.length cur] := by rw [h1, List.append_assoc]
  have hn : (P0 ++ psh t.length cur).length = P.length - 1 := by rw [e]; simp
  refine ⟨by omega, fun _ => ⟨P0 ++ psh t.length cur, cur' t.length cur ++ [c], ?_, ?_, ?_⟩, fun hh => by omega⟩
  · rw [show P.getD (P.length - 1) [] = cur' t.length cur by rw [e]; rw [e] at hn; exact get_mid hn]
    conv => lhs; rw [e]
    exact set_mid (by rw [hn]; rw [e])
  · rw [List.append_assoc]; exact h3
  · rw [h2, List.append_assoc]; exact h4
theorem VIn.keep {c : Int} (h : VIn wP wD l Z i t.length P D) (hP : i < wP.length) (ht : wP.getD i [] = t) (hi : i < wD.length) (hd : wD.getD i false = false) (hl : i < l.length) (hc : l.getD i 0 = c) : VInv wP wD l Z (i + 1) (P ++ [[]]) (D ++ [false]) := by
  obtain ⟨hj0, P0, D0, cur, h1, h2, h3, h4⟩ := h
  rw [getD_drop hP ht, getD_drop hi hd, getD_drop hl hc] at h3 h4
  simp only [iv, List.headD_cons, List.tail_cons, List.drop_succ_cons, List.drop_zero] at h3 h4
  refine ⟨by omega, fun _ => ⟨P0 ++ (psh t.length cur ++ [cur' t.length cur]), [], by rw [h1], ?_, ?_⟩, fun hh => by omega⟩
  · rw [← h3]; simp
  · rw [h2, ← h4]; simp
theorem VIn.fin (h : VIn wP wD l Z i t.length P D) (hP : i < wP.length) (ht : wP.getD i [] = t) (hi : i = wD.length) : VInv wP wD l Z (i + 1) P D := by
  obtain ⟨hj0, P0, D0, cur, h1, h2, h3, h4⟩ := h
  rw [getD_drop hP ht, List.drop_eq_nil_of_le (as := wD) (by omega)] at h3 h4
  simp only [iv, List.headD_cons] at h3 h4
  exact ⟨by omega, fun hh => by omega, fun _ => ⟨by rw [h1, psh_all]; exact h3, by rw [h2]; exact h4⟩⟩
end
/-! ### Composition -/
structure ZInv (xP : List (List Int)) (xD : List Bool) (yP : List (List Int)) (yD : List Bool) (Z : List (List Int) × List Bool) (i k : Nat) (P : List (List Int)) (D : List Bool) : Prop where
  ile : i ≤ xD.length
  made : madeN (xP.drop i) (xD.drop i) + k = yD.length
  go : ∃ P0 D0, P = P0 ++ List.replicate (xD.length + 1 - i) [] ∧ D = D0 ++ List.replicate (xD.length - i) false ∧ P0.length = i ∧ D0.length = i ∧ P0 ++ (cz (xP.drop i) (xD.drop i) (yP.drop k) (yD.drop k)).1 = Z.1 ∧ D0 ++ (cz (xP.drop i) (xD.drop i) (yP.drop k) (yD.drop k)).2 = Z.2
structure ZIn (xP : List (List Int)) (xD : List Bool) (yP : List (List Int)) (yD : List Bool) (Z : List (List Int) × List Bool) (i k : Nat) (t : List Int) (j : Nat) (acc : List Int) (P : List (List Int)) (D : List Bool) : Prop where
  ile : i ≤ xD.length
  jle : j ≤ t.length
  made : madeN (xP.drop i) (xD.drop i) + k = yD.length
  acc_ : acc ++ (wv (t.drop j) (yP.drop (k + j)) (yD.drop (k + j))).1 = (wv t (yP.drop k) (yD.drop k)).1
  go : ∃ P0 D0, P = P0 ++ acc :: List.replicate (xD.length - i) [] ∧ D = D0 ++ List.replicate (xD.length - i) false ∧ P0.length = i ∧ D0.length = i ∧ P0 ++ (cz (xP.drop i) (xD.drop i) (yP.drop k) (yD.drop k)).1 = Z.1 ∧ D0 ++ (cz (xP.drop i) (xD.drop i) (yP.drop k) (yD.drop k)).2 = Z.2
section
variable {xP yP P : List (List Int)} {xD yD D : List Bool} {t acc u : List Int} {Z : List (List Int) × List Bool} {i k j : Nat}
theorem ZInv.start (h : madeN xP xD = yD.length) : ZInv xP xD yP yD (cz xP xD yP yD) 0 0 (List.replicate (xD.length + 1) []) (List.replicate xD.length false) :=
  ⟨Nat.zero_le _, by simpa using h, [], [], by simp, by simp, rfl, rfl, by simp, by simp⟩
theorem ZInv.inner (h : ZInv xP xD yP yD Z i k P D) (t : List Int) : ZIn xP xD yP yD Z i k t 0 [] P D := by
  obtain ⟨h0, h1, P0, D0, h2, h3, h4, h5, h6, h7⟩ := h
  exact ⟨h0, Nat.zero_le _, h1, by simp, P0, D0, by rw [h2, rep_cons (n := xD.length + 1 - i) (by omega), show xD.length + 1 - i - 1 = xD.length - i by omega], h3, h4, h5, h6, h7⟩
theorem ZIn.lens (h : ZIn xP xD yP yD Z i k t j acc P D) : P.length = xD.length + 1 ∧ D.length = xD.length := by
  obtain ⟨h0, hj, h1, ha, P0, D0, h2, h3, h4, h5, h6, h7⟩ := h
  rw [h2, h3]; simp only [List.length_append, List.length_cons, List.length_replicate]; omega
theorem ZIn.get (h : ZIn xP xD yP yD Z i k t j acc P D) : P.getD i [] = acc := by
  obtain ⟨h0, hj, h1, ha, P0, D0, h2, h3, h4, h5, h6, h7⟩ := h
  rw [h2, get_mid h4]
theorem ZIn.room (h : ZIn xP xD yP yD Z i k t j acc P D) (hP : i < xP.length) (ht : xP.getD i [] = t) : k + t.length ≤ yD.length ∧ (i < xD.length → xD.getD i false = false → k + t.length < yD.length) := by
  have hm := h.made
  have hi := h.ile
  rcases Nat.lt_or_ge i xD.length with hlt | hge
  · rw [getD_drop hP ht, getD_drop hlt rfl] at hm
    simp only [madeN, List.headD_cons] at hm
    exact ⟨by omega, fun _ hd => by rw [hd] at hm; simp at hm; omega⟩
  · rw [getD_drop hP ht, List.drop_eq_nil_of_le (as := xD) hge] at hm
    simp only [madeN, List.headD_cons] at hm
    exact ⟨by omega, fun h => by omega⟩
/-- One code point on: what is put ahead of it, and itself unless it is dropped. -/
theorem ZIn.step {c : Int} {d : Bool} {q : List Int} (h : ZIn xP xD yP yD Z i k t j acc P D) (hj : j < t.length) (hc : t.getD j 0 = c) (hy : k + j < yD.length) (hyP : k + j < yP.length) (hq : yP.getD (k + j) [] = q) (hd : yD.getD (k + j) false = d) :
    ZIn xP xD yP yD Z i k t (j + 1) (if d then acc ++ q else acc ++ q ++ [c]) (P.set i (if d then acc ++ q else acc ++ q ++ [c])) D := by
  obtain ⟨h0, hj0, h1, ha, P0, D0, h2, h3, h4, h5, h6, h7⟩ := h
  refine ⟨h0, by omega, h1, ?_, P0, D0, by rw [h2, set_mid h4], h3, h4, h5, h6, h7⟩
  rw [← ha, getD_drop hj hc, getD_drop hy hd, getD_drop hyP hq, wv]
  simp only [List.headD_cons, List.tail_cons, show k + (j + 1) = k + j + 1 by omega]
  cases d <;> simp [List.append_assoc]
theorem ZIn.full (h : ZIn xP xD yP yD Z i k t t.length acc P D) : acc = (wv t (yP.drop k) (yD.drop k)).1 := by
  have := h.acc_
  rw [List.drop_length] at this
  simp only [wv, List.append_nil] at this
  exact this
theorem ZIn.dropT (h : ZIn xP xD yP yD Z i k t t.length acc P D) (hP : i < xP.length) (ht : xP.getD i [] = t) (hi : i < xD.length) (hd : xD.getD i false = true) : ZInv xP xD yP yD Z (i + 1) (k + t.length) P (D.set i true) := by
  have hf := h.full
  obtain ⟨h0, hj, h1, ha, P0, D0, h2, h3, h4, h5, h6, h7⟩ := h
  rw [getD_drop hP ht, getD_drop hi hd] at h1 h6 h7
  simp only [cz, List.headD_cons, List.tail_cons, wv_left, madeN, List.drop_drop] at h1 h6 h7
  simp only [if_true] at h1
  rw [rep_cons (n := xD.length - i) (by omega)] at h3
  refine ⟨by omega, by omega, P0 ++ [acc], D0 ++ [true], ?_, ?_, by simp [h4], by simp [h5], ?_, ?_⟩
  · rw [h2, show xD.length + 1 - (i + 1) = xD.length - i by omega]; simp
  · rw [h3, set_mid h5, show xD.length - (i + 1) = xD.length - i - 1 by omega]; simp
  · rw [← h6, hf, List.append_assoc]; rfl
  · rw [← h7, List.append_assoc]; rfl
theorem ZIn.dropF {q : List Int} {d : Bool} (h : ZIn xP xD yP yD Z i k t t.length acc P D) (hP : i < xP.length) (ht : xP.getD i [] = t) (hi : i < xD.length) (hd : xD.getD i false = false) (hy : k + t.length < yD.length) (hyP : k + t.length < yP.length) (hq : yP.getD (k + t.length) [] = q) (hd2 : yD.getD (k + t.length) false = d) :
    ZInv xP xD yP yD Z (i + 1) (k + t.length + 1) (P.set i (acc ++ q)) (D.set i d) := by
  have hf := h.full
  obtain ⟨h0, hj, h1, ha, P0, D0, h2, h3, h4, h5, h6, h7⟩ := h
  rw [getD_drop hP ht, getD_drop hi hd] at h1 h6 h7
  simp only [cz, List.headD_cons, List.tail_cons, wv_left, madeN, List.drop_drop] at h1 h6 h7
  simp only [Bool.false_eq_true, if_false] at h1
  rw [getD_drop hyP hq, getD_drop hy hd2] at h6 h7
  simp only [List.headD_cons, List.tail_cons] at h6 h7
  rw [rep_cons (n := xD.length - i) (by omega)] at h3
  refine ⟨by omega, by omega, P0 ++ [acc ++ q], D0 ++ [d], ?_, ?_, by simp [h4], by simp [h5], ?_, ?_⟩
  · rw [h2, set_mid h4, show xD.length + 1 - (i + 1) = xD.length - i by omega]; simp
  · rw [h3, set_mid h5, show xD.length - (i + 1) = xD.length - i - 1 by omega]; simp
  · rw [← h6, hf, List.append_assoc]; rfl
  · rw [← h7, List.append_assoc]; rfl
theorem ZIn.fin {q : List Int} (h : ZIn xP xD yP yD Z i k t t.length acc P D) (hP : i < xP.length) (ht : xP.getD i [] = t) (hi : i = xD.length) (hyP : k + t.length < yP.length) (hq : yP.getD (k + t.length) [] = q) : P.set i (acc ++ q) = Z.1 ∧ D = Z.2 := by
  have hf := h.full
  obtain ⟨h0, hj, h1, ha, P0, D0, h2, h3, h4, h5, h6, h7⟩ := h
  rw [getD_drop hP ht, List.drop_eq_nil_of_le (as := xD) (by omega)] at h6 h7
  simp only [cz, List.headD_cons, wv_left, List.drop_drop] at h6 h7
  rw [getD_drop hyP hq] at h6
  simp only [List.headD_cons] at h6
  exact ⟨by rw [h2, set_mid h4, ← h6, hf, show xD.length - i = 0 by omega]; rfl, by rw [h3, ← h7, show xD.length - i = 0 by omega]; rfl⟩
end
end Go.SK
