/- Plain words: the document's transformation, place by place. Plain words: how the document's transformation goes over the places, one behind the other. Plain words: a history that need not go with a text: what each call keeps. Plain words: the document's transformation of small edits: how big it gets. -/
import Derived.Test.YtlbaebaimhbbfaaDoorMG
import Derived.Test.YtlbaebaimhbbfaaDoorMI
set_option linter.unusedVariables false
set_option linter.unusedSimpArgs false
set_option maxRecDepth 100000
namespace Go.SK
open Go Go.RowKit
abbrev rpE (n : Nat) : List (List Int) := List.replicate n []
/-- What a place gives: what is put there, and a keep for what the other one puts there. -/
def pce (f : Bool) (t : List Int) (k : Nat) (Q : List (List Int)) : List (List Int) := if f then addH t (rpE k ++ Q) else rpE k ++ addH t Q
/-- An edit as it is behind another one, both spread out. -/
def mt (f : Bool) : List (List Int) → List Bool → List (List Int) → List Bool → List (List Int) × List Bool
  | P, [], Y, _ => (pce f (P.headD []) (Y.headD []).length [[]], List.replicate (Y.headD []).length false)
  | P, d :: D, Y, E => (pce f (P.headD []) (Y.headD []).length (if E.headD false then (mt f P.tail D Y.tail E.tail).1 else [] :: (mt f P.tail D Y.tail E.tail).1),
      List.replicate (Y.headD []).length false ++ (if E.headD false then (mt f P.tail D Y.tail E.tail).2 else d :: (mt f P.tail D Y.tail E.tail).2))
section
variable {f : Bool} {t u : List Int} {k m : Nat} {Q P Y : List (List Int)} {D E : List Bool}
theorem pce_len (h : 0 < Q.length) : (pce f t k Q).length = k + Q.length := by
  unfold pce
  cases f
  · simp only [Bool.false_eq_true, if_false, List.length_append, List.length_replicate, addH_len t h]
  · simp only [if_true]; rw [addH_len t (by rw [List.length_append]; omega), List.length_append, List.length_replicate]
theorem ite_pos {c : Prop} [Decidable c] {A : List (List Int)} (h : 0 < A.length) : 0 < (if c then A else [] :: A).length := by
  split
  · exact h
  · exact Nat.succ_pos _
theorem mt_len : ∀ (D : List Bool) (P Y : List (List Int)) (E : List Bool), (mt f P D Y E).1.length = (mt f P D Y E).2.length + 1
  | [], P, Y, E => by rw [mt]; simp only; rw [pce_len (by simp), List.length_replicate]; rfl
  | d :: D, P, Y, E => by
    have ih := mt_len D P.tail Y.tail E.tail
    rw [mt]; simp only
    rw [pce_len (ite_pos (by omega)), List.length_append, List.length_replicate]
    split
    · omega
    · simp only [List.length_cons]; omega
theorem mt_pos : 0 < (mt f P D Y E).1.length := by rw [mt_len]; omega
theorem pce_x (h : f = true ∨ k = 0) (hq : 0 < Q.length) : pce f (t ++ u) k Q = addH t (pce f u k Q) := by
  unfold pce
  cases f
  · obtain rfl : k = 0 := by rcases h with h | h; cases h; exact h
    simp only [Bool.false_eq_true, if_false, List.replicate_zero, List.nil_append]
    exact (addH_addH _ _ hq).symm
  · simp only [if_true]
    exact (addH_addH _ _ (by rw [List.length_append]; omega)).symm
theorem pce_y (h : f = false ∨ u = []) (hq : 0 < Q.length) : pce f u (m + k) Q = rpE m ++ pce f u k Q := by
  unfold pce
  cases f
  · simp only [Bool.false_eq_true, if_false]; rw [← List.append_assoc, List.replicate_append_replicate]
  · obtain rfl : u = [] := by rcases h with h | h; cases h; exact h
    simp only [if_true]
    rw [addH_nil (by rw [List.length_append]; omega), addH_nil (by rw [List.length_append]; omega), ← List.append_assoc, List.replicate_append_replicate]
theorem headD_addH (hp : 0 < P.length) : (addH t P).headD [] = t ++ P.headD [] ∧ (addH t P).tail = P.tail := by
  cases P with
  | nil => simp at hp
  | cons a r => exact ⟨rfl, rfl⟩
theorem mt_x (h : f = true ∨ Y.headD [] = []) (hp : 0 < P.length) : mt f (addH t P) D Y E = (addH t (mt f P D Y E).1, (mt f P D Y E).2) := by
  have h' : f = true ∨ (Y.headD []).length = 0 := h.imp id fun e => by rw [e]; rfl
  obtain ⟨h1, h2⟩ := headD_addH (t := t) hp
  cases D with
  | nil => rw [mt, mt, h1, pce_x h' (by simp)]
  | cons d D =>
    rw [mt, mt, h1, h2, pce_x h' (ite_pos mt_pos)]
theorem mt_y (h : f = false ∨ P.headD [] = []) (hy : 0 < Y.length) : mt f P D (addH t Y) E = (rpE t.length ++ (mt f P D Y E).1, List.replicate t.length false ++ (mt f P D Y E).2) := by
  obtain ⟨h1, h2⟩ := headD_addH (t := t) hy
  cases D with
  | nil => rw [mt, mt, h1, List.length_append, pce_y h (by simp), List.replicate_append_replicate]
  | cons d D =>
    rw [mt, mt, h1, h2, List.length_append, pce_y h (ite_pos mt_pos)]
    simp only
    rw [← List.append_assoc, List.replicate_append_replicate]
theorem pce_0 (h : 0 < Q.length) : pce f [] 0 Q = Q := by
  unfold pce
  cases f
  · simp only [Bool.false_eq_true, if_false, List.replicate_zero, List.nil_append]; exact addH_nil h
  · simp only [if_true, List.replicate_zero, List.nil_append]; exact addH_nil h
theorem mt_both {b c : Bool} : ∀ n : Nat, mt f (rpE n ++ P) (List.replicate n b ++ D) (rpE n ++ Y) (List.replicate n c ++ E) = if c then mt f P D Y E else (rpE n ++ (mt f P D Y E).1, List.replicate n b ++ (mt f P D Y E).2)
  | 0 => by cases c <;> rfl
  | n + 1 => by
    have ih := mt_both (b := b) (c := c) n
    show mt f ([] :: (rpE n ++ P)) (b :: (List.replicate n b ++ D)) ([] :: (rpE n ++ Y)) (c :: (List.replicate n c ++ E)) = _
    rw [mt]
    simp only [List.headD_cons, List.tail_cons, List.length_nil, List.replicate_zero, List.nil_append]
    rw [ih, pce_0 (by cases c <;> simp [mt_pos])]
    cases c
    · simp [List.replicate_succ]
    · simp
end
/-! ### Against the program's -/
theorem sp_rest {x : Part} {xs : List Part} {n : Int} (h1 : 1 ≤ n) (h2 : n ≤ x.n) (hk : x.kind = 1 ∨ x.kind = 3) :
    spP (x :: xs) = rpE n.toNat ++ spP (restP x xs n) ∧ dv (x :: xs) = List.replicate n.toNat (decide (x.kind = 3)) ++ dv (restP x xs n) := by
  have hd : ∀ p : Part, p.kind = x.kind → dvP p = List.replicate p.n.toNat (decide (x.kind = 3)) := fun p e => by
    unfold dvP
    rcases hk with k | k
    · rw [if_pos (e.trans k), decide_eq_false (by omega)]
    · rw [if_neg (by omega), if_pos (e.trans k), decide_eq_true k]
  unfold restP
  by_cases h : x.n - n = 0
  · rw [if_pos h, spP, if_neg (by omega), dv, hd x rfl, show x.n = n by omega]
    exact ⟨rfl, rfl⟩
  · have hl : (leftP x n).kind = x.kind := rfl
    have hln : (leftP x n).n = x.n - n := rfl
    rw [if_neg h, spP, if_neg (by omega), dv, hd x rfl, spP, if_neg (by omega), dv, hd _ hl, hln, ← List.append_assoc, List.replicate_append_replicate, ← List.append_assoc, List.replicate_append_replicate,
      show n.toNat + (x.n - n).toNat = x.n.toNat by omega]
    exact ⟨rfl, rfl⟩
theorem sp_head {xs : List Part} (h : FitsU xs) (hk : ¬ kindL xs = 2) : (spP xs).headD [] = [] := by
  cases xs with
  | nil => rfl
  | cons x r =>
    have h1 := (h x (.head _)).1
    have hk' : ¬ x.kind = 2 := hk
    rw [spP, if_neg hk', show x.n.toNat = (x.n.toNat - 1) + 1 by omega, List.replicate_succ]
    rfl
/-- A list of parts does what a spread edit does. -/
def MtOk (r : List Part) (z : List (List Int) × List Bool) : Prop := (∀ (β : Type) (ι : Int → β) (l : List β), runW ι z.1 z.2 l = (runS ι r l).1) ∧ (z.2.length : Int) = fromS r
theorem MtOk.put {r : List Part} {z : List (List Int) × List Bool} (h : MtOk r z) {p : Part} (hk : p.kind = 2) (hz : 0 < z.1.length) : MtOk (p :: r) (addH (dec p.text) z.1, z.2) :=
  ⟨fun β ι l => by rw [runW_addH ι _ hz, runS_cons, (ot_put ι hk l).1, (ot_put ι hk l).2, h.1], by have h2 := h.2; simp only [fromS, if_pos hk]; omega⟩
theorem MtOk.over {r : List Part} {z : List (List Int) × List Bool} (h : MtOk r z) {p : Part} (hk : p.kind = 1 ∨ p.kind = 3) (hn : 0 ≤ p.n) : MtOk (p :: r) (rpE p.n.toNat ++ z.1, List.replicate p.n.toNat (decide (p.kind = 3)) ++ z.2) := by
  have h2 := h.2
  refine ⟨fun β ι l => ?_, by simp only [fromS, if_neg (show ¬ p.kind = 2 by omega), List.length_append, List.length_replicate]; omega⟩
  rcases hk with k | k
  · rw [decide_eq_false (by omega), runW_keep, runS_cons, (ot_keep ι k l).1, (ot_keep ι k l).2, h.1]
  · rw [decide_eq_true k, runW_drop, runS_cons, (ot_drop ι k l).1, (ot_drop ι k l).2, h.1]; rfl
theorem mt_tr : ∀ (f : Nat) (xs ys : List Part), Fits xs → Fits ys → fromS xs = fromS ys → xs.length + ys.length ≤ f →
    MtOk (trGo f xs ys).1 (mt true (spP xs) (dv xs) (spP ys) (dv ys)) ∧ MtOk (trGo f xs ys).2 (mt false (spP ys) (dv ys) (spP xs) (dv xs))
  | 0, xs, ys, hx, hy, hb, hf => by
    obtain rfl : xs = [] := List.length_eq_zero_iff.1 (by omega)
    obtain rfl : ys = [] := List.length_eq_zero_iff.1 (by omega)
    exact ⟨⟨fun _ _ _ => rfl, rfl⟩, ⟨fun _ _ _ => rfl, rfl⟩⟩
  | f + 1, xs, ys, hx, hy, hb, hf => by
    have ux := fitsU_of hx
    have uy := fitsU_of hy
    by_cases h0 : kindL xs = 0 ∧ kindL ys = 0
    · obtain rfl := kindL_nil hx h0.1
      obtain rfl := kindL_nil hy h0.2
      rw [trGo_stop h0]
      exact ⟨⟨fun _ _ _ => rfl, rfl⟩, ⟨fun _ _ _ => rfl, rfl⟩⟩
    · by_cases h3 : kindL xs = 2
      · obtain ⟨x, xs', rfl, hk⟩ := kindL_cons h3 (by omega)
        rw [trGo_x h3]
        have hn := fitsB_n (hx x (.head _))
        have hpl := spP_pos (fitsU_of hx.tail)
        simp only [fromS, List.length_cons, if_pos hk] at hb hf
        obtain ⟨i1, i2⟩ := mt_tr f xs' ys hx.tail hy (by omega) (by omega)
        have e1 : spP (x :: xs') = addH (dec x.text) (spP xs') := by rw [spP, if_pos hk]
        have e2 : dv (x :: xs') = dv xs' := by rw [dv, show dvP x = [] by unfold dvP; rw [if_neg (by omega), if_neg (by omega)], List.nil_append]
        have hl : (dec x.text).length = x.n.toNat := by have := put_len (id : Int → Int) (ux x (.head _)) hk; simpa using this
        rw [e1, e2, mt_x (.inl rfl) hpl, mt_y (.inl rfl) hpl, hl]
        exact ⟨i1.put hk mt_pos, i2.over (p := keepP x.n) (.inl rfl) (by show 0 ≤ x.n; omega)⟩
      · by_cases h2 : kindL ys = 2
        · obtain ⟨y, ys', rfl, hk⟩ := kindL_cons h2 (by omega)
          rw [trGo_y h3 h2]
          have hn := fitsB_n (hy y (.head _))
          have hpl := spP_pos (fitsU_of hy.tail)
          simp only [fromS, List.length_cons, if_pos hk] at hb hf
          obtain ⟨i1, i2⟩ := mt_tr f xs ys' hx hy.tail (by omega) (by omega)
          have e1 : spP (y :: ys') = addH (dec y.text) (spP ys') := by rw [spP, if_pos hk]
          have e2 : dv (y :: ys') = dv ys' := by rw [dv, show dvP y = [] by unfold dvP; rw [if_neg (by omega), if_neg (by omega)], List.nil_append]
          have hl : (dec y.text).length = y.n.toNat := by have := put_len (id : Int → Int) (uy y (.head _)) hk; simpa using this
          have hh := sp_head ux h3
          rw [e1, e2, mt_y (.inr hh) hpl, mt_x (.inr hh) hpl, hl]
          exact ⟨i1.over (p := keepP y.n) (.inl rfl) (by show 0 ≤ y.n; omega), i2.put hk mt_pos⟩
        · have hxs : xs ≠ [] := by
            rintro rfl
            cases ys with
            | nil => exact h0 ⟨rfl, rfl⟩
            | cons y ys' =>
              have h1 := fitsB_n (hy y (.head _)); have h4 := fromS_posU (fitsU_of hy.tail)
              have hy' : ¬ y.kind = 2 := h2
              simp only [fromS, if_neg hy'] at hb; omega
          obtain ⟨x, xs', rfl⟩ := List.exists_cons_of_ne_nil hxs
          have hx' : ¬ x.kind = 2 := h3
          have hnx := fitsB_n (hx x (.head _)); have hnx2 := fromS_posU (fitsU_of hx.tail)
          have hys : ys ≠ [] := by
            rintro rfl
            simp only [fromS, if_neg hx'] at hb; omega
          obtain ⟨y, ys', rfl⟩ := List.exists_cons_of_ne_nil hys
          have hy' : ¬ y.kind = 2 := h2
          have hny := fitsB_n (hy y (.head _)); have hny2 := fromS_posU (fitsU_of hy.tail)
          obtain ⟨m1, m2, m3⟩ := minI_le x.n y.n
          have hll := both_len x y xs' ys'
          have rx := rest_from x xs' (minI x.n y.n); have ry := rest_from y ys' (minI x.n y.n)
          rw [trGo_b h0 h3 h2]
          obtain ⟨tx1, tx2⟩ := take_facts hx (n := minI x.n y.n) (by omega) m1
          obtain ⟨ty1, ty2⟩ := take_facts hy (n := minI x.n y.n) (by omega) m2
          generalize hN : minI x.n y.n = n at *
          have hn1 : 1 ≤ n := by omega
          rw [if_neg hx'] at rx
          rw [if_neg hy'] at ry
          simp only [List.length_cons] at hf
          have ky3 : y.kind = 1 ∨ y.kind = 3 := by have := (fitU_of (hy y (.head _))).kinds; omega
          have kx3 : x.kind = 1 ∨ x.kind = 3 := by have := (fitU_of (hx x (.head _))).kinds; omega
          obtain ⟨i1, i2⟩ := mt_tr f (restP x xs' n) (restP y ys' n) tx2 ty2 (by omega) (by omega)
          obtain ⟨sx, dx⟩ := sp_rest hn1 m1 kx3 (xs := xs')
          obtain ⟨sy, dy⟩ := sp_rest hn1 m2 ky3 (xs := ys')
          rw [sx, dx, sy, dy, mt_both, mt_both]
          have ox := i1.over (p := takeP x n) kx3 (by show 0 ≤ n; omega)
          have oy := i2.over (p := takeP y n) ky3 (by show 0 ≤ n; omega)
          constructor
          · rcases ky3 with k | k
            · rw [if_pos k, decide_eq_false (show ¬ y.kind = 3 by omega)]; exact ox
            · rw [if_neg (show ¬ y.kind = 1 by omega), decide_eq_true k, List.nil_append]; exact i1
          · rcases kx3 with k | k
            · rw [if_pos k, decide_eq_false (show ¬ x.kind = 3 by omega)]; exact oy
            · rw [if_neg (show ¬ x.kind = 1 by omega), decide_eq_true k, List.nil_append]; exact i2
theorem sc_rep (n : Nat) {P : List (List Int)} (h : scP P) : scP (rpE n ++ P) := fun t ht => by
  rcases List.mem_append.1 ht with ht | ht
  · rw [(List.mem_replicate.1 ht).2]; intro x hx; cases hx
  · exact h t ht
theorem pce_sc {f : Bool} {t : List Int} {k : Nat} {Q : List (List Int)} (ht : ∀ x ∈ t, scalar x) (h : scP Q) : scP (pce f t k Q) := by
  unfold pce
  split
  · exact (sc_rep k h).addH ht
  · exact sc_rep k (h.addH ht)
theorem sc_e {P : List (List Int)} (h : scP P) : scP ([] :: P) := sc_rep 1 h
theorem mt_sc {f : Bool} : ∀ (D : List Bool) (P Y : List (List Int)) (E : List Bool), scP P → scP (mt f P D Y E).1
  | [], P, Y, E, h => by rw [mt]; exact pce_sc (sc_headD h) (sc_e (P := []) (fun t ht => by cases ht))
  | d :: D, P, Y, E, h => by
    have ih := mt_sc (f := f) D P.tail Y.tail E.tail (sc_tail h)
    rw [mt]
    refine pce_sc (sc_headD h) ?_
    split
    · exact ih
    · exact sc_e ih
/-- The document's transformation is the program's. -/
theorem mt_law {a b : List Part} (oa : Ok a) (ob : Ok b) (e : fromS a = fromS b) (h : toS (trR1 a b).reverse ≤ 1099511627776) :
    closeF (mt true (spP a) (dv a) (spP b) (dv b)).1 (mt true (spP a) (dv a) (spP b) (dv b)).2 = trF1 a b ∧ closeF (mt false (spP b) (dv b) (spP a) (dv a)).1 (mt false (spP b) (dv b) (spP a) (dv a)).2 = trF2 a b := by
  obtain ⟨_, t1, t2, o1, o2⟩ := tr_law_ok oa ob e h
  obtain ⟨_, _, f1, f2, _⟩ := tr_law oa ob e
  have pa := fromS_posU oa.1
  obtain ⟨g1, g2, g3, g4, _⟩ := tr_run (id : Int → Int) (a.length + b.length) a b (List.replicate (fromS a).toNat 0) oa.fits ob.fits e (Nat.le_refl _) (len_list (fromS a) pa.1)
  obtain ⟨i1, i2⟩ := mt_tr (a.length + b.length) a b oa.fits ob.fits e (Nat.le_refl _)
  constructor
  · refine close_is o1 (mt_sc _ _ _ _ (spP_sc oa.1)) (mt_len _ _ _ _) (by rw [t1, f1, i1.2, g3]) fun ι l hl => ?_
    rw [i1.1, t1, show trR1 a b = addRs [] (trGo (a.length + b.length) a b).1 from rfl, maker_run ι g1]
  · refine close_is o2 (mt_sc _ _ _ _ (spP_sc ob.1)) (mt_len _ _ _ _) (by rw [t2, f2, i2.2, g4]) fun ι l hl => ?_
    rw [i2.1, t2, show trR2 a b = addRs [] (trGo (a.length + b.length) a b).2 from rfl, maker_run ι g2]
end Go.SK

set_option linter.unusedVariables false
set_option linter.unusedSimpArgs false
set_option maxRecDepth 100000
namespace Go.SK
open Go Go.RowKit
/-- A list of puts with more at its end. -/
def lastW (A : List (List Int)) (s : List Int) : List (List Int) := A.set (A.length - 1) (A.getD (A.length - 1) [] ++ s)
theorem lastW_len (A : List (List Int)) (s : List Int) : (lastW A s).length = A.length := List.length_set
theorem lastW_is (A0 : List (List Int)) (t s : List Int) : lastW (A0 ++ [t]) s = A0 ++ [t ++ s] := by
  unfold lastW
  have hl : A0.length = (A0 ++ [t]).length - 1 := by simp
  rw [get_mid (R := []) hl, set_mid hl]
/-- What a place does to what is there so far. -/
def stW (f : Bool) (x : List Int) (k : Nat) (A : List (List Int)) : List (List Int) := if f then lastW A x ++ rpE k else lastW (A ++ rpE k) x
theorem snoc_of {A : List (List Int)} (h : 0 < A.length) : ∃ A0 t, A = A0 ++ [t] := by
  rcases List.eq_nil_or_concat A with rfl | ⟨a, b, e⟩
  · simp at h
  · exact ⟨a, b, by rw [e, List.concat_eq_append]⟩
theorem stW_len (f : Bool) (x : List Int) (k : Nat) (A : List (List Int)) : (stW f x k A).length = A.length + k := by
  unfold stW
  split
  · rw [List.length_append, lastW_len, List.length_replicate]
  · rw [lastW_len, List.length_append, List.length_replicate]
/-- Glued: what is there so far, and what comes of the rest. -/
def glue (A Q : List (List Int)) : List (List Int) := A.dropLast ++ addH (A.getLastD []) Q
theorem glue_is (A0 : List (List Int)) (t : List Int) (Q : List (List Int)) : glue (A0 ++ [t]) Q = A0 ++ addH t Q := by unfold glue; simp
theorem glue_nil {A : List (List Int)} (h : 0 < A.length) : glue A [[]] = A := by
  obtain ⟨A0, t, rfl⟩ := snoc_of h
  rw [glue_is]; simp [addH]
theorem glue_one {A Q : List (List Int)} (h : 0 < A.length) : glue A ([] :: Q) = A ++ Q := by
  obtain ⟨A0, t, rfl⟩ := snoc_of h
  rw [glue_is]; simp [addH]
theorem glue_rep (A : List (List Int)) (k : Nat) {Q : List (List Int)} (h : 0 < A.length) (hq : 0 < Q.length) : glue (A ++ rpE k) Q = glue A (rpE k ++ Q) := by
  cases k with
  | zero => show glue (A ++ []) Q = glue A ([] ++ Q); rw [List.append_nil, List.nil_append]
  | succ k =>
    rw [show rpE (k + 1) = rpE k ++ [[]] from List.replicate_succ' .., ← List.append_assoc, glue_is, addH_nil hq, show rpE k ++ [[]] = [] :: rpE k from (List.replicate_succ' (n := k) (a := ([] : List Int))).symm.trans List.replicate_succ,
      List.cons_append, glue_one h, List.append_assoc]
theorem glue_last {A : List (List Int)} (s : List Int) {Q : List (List Int)} (h : 0 < A.length) (hq : 0 < Q.length) : glue (lastW A s) Q = glue A (addH s Q) := by
  obtain ⟨A0, t, rfl⟩ := snoc_of h
  rw [lastW_is, glue_is, glue_is, addH_addH _ _ hq]
theorem glue_pce (f : Bool) (x : List Int) (k : Nat) {A Q : List (List Int)} (h : 0 < A.length) (hq : 0 < Q.length) : glue (stW f x k A) Q = glue A (pce f x k Q) := by
  unfold stW pce
  cases f
  · simp only [Bool.false_eq_true, if_false]
    rw [glue_last x (by rw [List.length_append]; omega) hq, glue_rep A k h (by rw [addH_len _ hq]; exact hq)]
  · simp only [if_true]
    rw [glue_rep _ k (by rw [lastW_len]; exact h) hq, glue_last x h (by rw [List.length_append]; omega)]
/-- How far it has come: behind i places. -/
structure MeI (f : Bool) (P : List (List Int)) (D : List Bool) (Y : List (List Int)) (E : List Bool) (i : Nat) (A : List (List Int)) (B : List Bool) : Prop where
  ile : i ≤ D.length + 1
  len : A.length = B.length + 1
  on : i ≤ D.length → glue A (mt f (P.drop i) (D.drop i) (Y.drop i) (E.drop i)).1 = (mt f P D Y E).1 ∧ B ++ (mt f (P.drop i) (D.drop i) (Y.drop i) (E.drop i)).2 = (mt f P D Y E).2
  off : i = D.length + 1 → A = (mt f P D Y E).1 ∧ B = (mt f P D Y E).2
section
variable {f : Bool} {P Y A : List (List Int)} {D E B : List Bool} {i : Nat}
theorem MeI.start : MeI f P D Y E 0 [[]] [] := ⟨Nat.zero_le _, rfl, fun _ => ⟨addH_nil mt_pos, rfl⟩, fun e => by omega⟩
theorem hdD {α : Type} {l : List α} {d : α} {i : Nat} : (l.drop i).headD d = l.getD i d := by
  rw [List.headD_eq_head?_getD, List.head?_drop, List.getD_eq_getElem?_getD]
/-- The last place. -/
theorem MeI.last (h : MeI f P D Y E i A B) (hi : i = D.length) : MeI f P D Y E (i + 1) (stW f (P.getD i []) (Y.getD i []).length A) (B ++ List.replicate (Y.getD i []).length false) := by
  have hl := h.len
  obtain ⟨h1, h2⟩ := h.on (by omega)
  rw [show D.drop i = [] from List.drop_eq_nil_of_le (by omega), mt] at h1 h2
  simp only [hdD] at h1 h2
  refine ⟨by omega, by rw [stW_len, List.length_append, List.length_replicate]; omega, fun e => by omega, fun _ => ⟨?_, h2⟩⟩
  rw [← h1, ← glue_pce f _ _ (by omega) (by simp), glue_nil (by rw [stW_len]; omega)]
theorem tail_drop {α : Type} {l : List α} {i : Nat} : (l.drop i).tail = l.drop (i + 1) := by rw [List.tail_drop]
/-- A place the other one drops. -/
theorem MeI.skip (h : MeI f P D Y E i A B) (hi : i < D.length) (he : E.getD i false = true) : MeI f P D Y E (i + 1) (stW f (P.getD i []) (Y.getD i []).length A) (B ++ List.replicate (Y.getD i []).length false) := by
  have hl := h.len
  obtain ⟨h1, h2⟩ := h.on (by omega)
  rw [List.drop_eq_getElem_cons hi, mt] at h1 h2
  simp only [hdD, he, if_true, tail_drop] at h1 h2
  refine ⟨by omega, by rw [stW_len, List.length_append, List.length_replicate]; omega, fun e => ⟨?_, ?_⟩, fun e => by omega⟩
  · rw [← h1, ← glue_pce f _ _ (by omega) mt_pos]
  · rw [← h2, List.append_assoc]
/-- A place that stays. -/
theorem MeI.stay (h : MeI f P D Y E i A B) (hi : i < D.length) (he : E.getD i false = false) : MeI f P D Y E (i + 1) (stW f (P.getD i []) (Y.getD i []).length A ++ [[]]) (B ++ List.replicate (Y.getD i []).length false ++ [D.getD i false]) := by
  have hl := h.len
  obtain ⟨h1, h2⟩ := h.on (by omega)
  have hg : D.getD i false = D[i] := by rw [List.getD_eq_getElem?_getD, List.getElem?_eq_getElem hi]; rfl
  rw [List.drop_eq_getElem_cons hi, mt] at h1 h2
  simp only [hdD, he, Bool.false_eq_true, if_false, tail_drop] at h1 h2
  refine ⟨by omega, by simp only [List.length_append, stW_len, List.length_replicate, List.length_singleton]; omega, fun e => ⟨?_, ?_⟩, fun e => by omega⟩
  · rw [← h1, ← glue_pce f _ _ (by omega) (by rw [List.length_cons]; omega), glue_one (by rw [stW_len]; omega), glue_is, addH_nil mt_pos]
  · rw [← h2, hg]; simp
end
/-! ### How big it gets -/
theorem psum_last (A0 : List (List Int)) (t s : List Int) : psum (lastW (A0 ++ [t]) s) = psum (A0 ++ [t]) + s.length := by
  rw [lastW_is, psum_append, psum_append]; simp only [psum, List.length_append]; omega
theorem psum_lastW {A : List (List Int)} (s : List Int) (h : 0 < A.length) : psum (lastW A s) = psum A + s.length := by
  obtain ⟨A0, t, rfl⟩ := snoc_of h
  exact psum_last _ _ _
theorem psum_st (f : Bool) (x : List Int) (k : Nat) {A : List (List Int)} (h : 0 < A.length) : psum (stW f x k A) = psum A + x.length := by
  unfold stW
  split
  · rw [psum_append, psum_rep, psum_lastW x h]; omega
  · rw [psum_lastW x (by rw [List.length_append]; omega), psum_append, psum_rep]; omega
end Go.SK

set_option linter.unusedVariables false
set_option linter.unusedSimpArgs false
set_option maxRecDepth 100000
namespace Go.SK
open Go
structure HN (h : HS) : Prop where
  n0 : 0 ≤ h.n
  nle : h.n ≤ 2097152
  b : PO 1048576 h.n h.back
  a : PO 1048576 h.n h.again
  bl : h.back.length ≤ 50
  al : h.again.length ≤ 50
theorem HN.new {n : Int} (h0 : 0 ≤ n) (h1 : n ≤ 1048576) : HN ⟨[], [], n⟩ := ⟨h0, by show n ≤ _; omega, trivial, trivial, by simp, by simp⟩
section
variable {h : HS} {s : ByteArray} {e : List Part}
theorem fit_ok (hf : h.fit e) : Ok e ∧ fromS e = h.n ∧ toS e ≤ 1048576 ∧ (sizeF e).2 = toS e := by
  obtain ⟨oe, a2, a3⟩ := sizeE_ok hf.1
  exact ⟨oe, by rw [← a2]; exact hf.2.1, by rw [← a3]; exact hf.2.2, a3⟩
theorem invE_ok (z : invE e s = 0) : valid s = true ∧ Ok e ∧ fromS e = (dec s).length := applyBad_iff.1 (invE_z z).1
theorem HN.mine (g : HN h) (hs : (dec s).length ≤ 1048576) : HN (h.mine e s) := by
  unfold HS.mine
  split
  · rename_i hz
    unfold HS.mineE at hz
    split at hz
    · rename_i hf
      obtain ⟨oe, h1, h2, h3⟩ := fit_ok hf
      obtain ⟨hv, _, hn⟩ := invE_ok hz
      obtain ⟨b1, b2, b3, b4, _⟩ := inv_law hv oe hn
      have hp := inv_puts hv oe hn
      have ht := fromS_posU b2.1
      refine ⟨by show 0 ≤ (sizeF e).2; rw [h3, ← b3]; omega, by show (sizeF e).2 ≤ _; omega, ?_, trivial, ?_, by simp⟩
      · show PO 1048576 (sizeF e).2 (onH h.back (invF e s))
        rw [h3, ← b3]
        exact g.b.on b2 (by omega) (by omega)
      · show (onH h.back (invF e s)).length ≤ 50
        rw [onH_len]; omega
    · cases hz
  · exact g
theorem HN.both (g : HN h) (hf : h.fit e) : (besE h.back e = true ∧ PO 1048576 (toS e) (besF h.back e) ∧ (besF h.back e).length = h.back.length) ∧ (besE h.again e = true ∧ PO 1048576 (toS e) (besF h.again e) ∧ (besF h.again e).length = h.again.length) := by
  obtain ⟨oe, h1, h2, h3⟩ := fit_ok hf
  have hb := g.bl; have ha := g.al
  exact ⟨bes_ok (by decide) h.back e h.n g.b oe h1 (by omega), bes_ok (by decide) h.again e h.n g.a oe h1 (by omega)⟩
theorem HN.theirsE (g : HN h) (hf : h.fit e) : h.theirsE e = 0 := by
  obtain ⟨⟨p1, _⟩, ⟨q1, _⟩⟩ := g.both hf
  unfold HS.theirsE
  rw [if_pos hf, if_pos ⟨p1, q1⟩]
theorem HN.theirs (g : HN h) : HN (h.theirs e) := by
  unfold HS.theirs
  split
  · rename_i hz
    have hf : h.fit e := by
      unfold HS.theirsE at hz
      split at hz
      · assumption
      · cases hz
    obtain ⟨oe, h1, h2, h3⟩ := fit_ok hf
    obtain ⟨⟨p1, p2, p3⟩, ⟨q1, q2, q3⟩⟩ := g.both hf
    have hb := g.bl; have ha := g.al
    have ht : 0 ≤ toS e := by have := puts_le' oe.1; have := toS_eq oe.1; have := dropN_le oe.1; have := (fromS_posU oe.1); omega
    exact ⟨by show 0 ≤ (sizeF e).2; omega, by show (sizeF e).2 ≤ _; omega, by show PO _ (sizeF e).2 _; rw [h3]; exact p2, by show PO _ (sizeF e).2 _; rw [h3]; exact q2, by show (besF h.back e).length ≤ 50; omega, by show (besF h.again e).length ≤ 50; omega⟩
  · exact g
theorem HN.besB (g : HN h) (hf : h.fit e) : BesB h.back e ∧ BesB h.again e := by
  obtain ⟨oe, h1, h2, h3⟩ := fit_ok hf
  have hb := g.bl; have ha := g.al; have hn := g.nle
  exact ⟨bes_sm (by decide) h.back e h.n g.b oe h1 (by omega) (by omega), bes_sm (by decide) h.again e h.n g.a oe h1 (by omega) (by omega)⟩
theorem HN.smb (g : HN h) : ∀ x ∈ h.back, Sm x := po_sm (by decide) g.b (by have := g.bl; have := g.nle; omega)
theorem HN.sma (g : HN h) : ∀ x ∈ h.again, Sm x := po_sm (by decide) g.a (by have := g.al; have := g.nle; omega)
theorem move_z {p : Pile} {n : Int} (z : moveE p n s = 0) : ∃ x r, p = x :: r ∧ valid s = true ∧ (rcount s : Int) = n ∧ invE x s = 0 := by
  cases p with
  | nil => cases z
  | cons x r =>
    unfold moveE at z
    simp only at z
    split at z
    · cases z
    · rename_i hh
      have h1 : ¬ valid s = false := fun e => hh (.inl e)
      have h2 : (rcount s : Int) = n := Decidable.byContradiction fun e => hh (.inr e)
      exact ⟨x, r, rfl, by simpa using h1, h2, z⟩
theorem HN.undo (g : HN h) (hs : (dec s).length ≤ 1048576) : HN (h.undo s) := by
  unfold HS.undo
  split
  · rename_i hz
    obtain ⟨x, r, hb, hv, hn, hi⟩ := move_z (p := h.back) hz
    have gb := g.b; have hbl := g.bl
    rw [hb] at gb hbl
    obtain ⟨ox, hx, hp, hr⟩ := gb
    rw [rcount_dec] at hn
    obtain ⟨b1, b2, b3, b4, _⟩ := inv_law hv ox (by omega)
    have hpp := inv_puts hv ox (by omega)
    have hs3 := (ok_size ox).2.2
    have ht := (fromS_posU b2.1)
    have htp := (toS_puts ox.1).1
    rw [List.length_cons] at hbl
    rw [hb]
    refine ⟨by show 0 ≤ (sizeF x).2; omega, by show (sizeF x).2 ≤ _; omega, by show PO _ (sizeF x).2 r; rw [hs3]; exact hr, ?_, by show r.length ≤ 50; omega, ?_⟩
    · show PO 1048576 (sizeF x).2 (onH h.again (invF x s))
      rw [hs3, ← b3]
      exact g.a.on b2 (by omega) (by omega)
    · show (onH h.again (invF x s)).length ≤ 50
      rw [onH_len]; omega
  · exact g
theorem HN.redo (g : HN h) (hs : (dec s).length ≤ 1048576) : HN (h.redo s) := by
  unfold HS.redo
  split
  · rename_i hz
    obtain ⟨x, r, hb, hv, hn, hi⟩ := move_z (p := h.again) hz
    have gb := g.a; have hbl := g.al
    rw [hb] at gb hbl
    obtain ⟨ox, hx, hp, hr⟩ := gb
    rw [rcount_dec] at hn
    obtain ⟨b1, b2, b3, b4, _⟩ := inv_law hv ox (by omega)
    have hpp := inv_puts hv ox (by omega)
    have hs3 := (ok_size ox).2.2
    have ht := (fromS_posU b2.1)
    have htp := (toS_puts ox.1).1
    rw [List.length_cons] at hbl
    rw [hb]
    refine ⟨by show 0 ≤ (sizeF x).2; omega, by show (sizeF x).2 ≤ _; omega, ?_, by show PO _ (sizeF x).2 r; rw [hs3]; exact hr, ?_, by show r.length ≤ 50; omega⟩
    · show PO 1048576 (sizeF x).2 (onH h.back (invF x s))
      rw [hs3, ← b3]
      exact g.b.on b2 (by omega) (by omega)
    · show (onH h.back (invF x s)).length ≤ 50
      rw [onH_len]; omega
  · exact g
end
end Go.SK

set_option linter.unusedVariables false
set_option linter.unusedSimpArgs false
set_option maxRecDepth 100000
namespace Go.SK
open Go
theorem psum_pce {f : Bool} {t : List Int} {k : Nat} {Q : List (List Int)} : psum (pce f t k Q) = t.length + psum Q := by
  unfold pce
  split
  · rw [psum_addH, psum_append, psum_rep]; omega
  · rw [psum_append, psum_rep, psum_addH]; omega
theorem psum_mt {f : Bool} : ∀ (D : List Bool) (P Y : List (List Int)) (E : List Bool), P.length = D.length + 1 → psum (mt f P D Y E).1 = psum P
  | [], p :: P, Y, E, h => by
    obtain rfl : P = [] := List.length_eq_zero_iff.1 (by simpa using h)
    rw [mt, psum_pce]; rfl
  | d :: D, p :: P, Y, E, h => by
    have ih := psum_mt (f := f) D P Y.tail E.tail (by simpa using h)
    rw [mt, psum_pce]
    show (p.length : Int) + psum (if E.headD false = true then (mt f P D Y.tail E.tail).1 else [] :: (mt f P D Y.tail E.tail).1) = p.length + psum P
    split
    · rw [ih]
    · rw [psum, ih]; simp
  | [], [], _, _, h => by simp at h
  | _ :: _, [], _, _, h => by simp at h
theorem mt_small {a b : List Part} (oa : Ok a) (ob : Ok b) (e : fromS a = fromS b) (ha : toS a ≤ 1073741824) (hb : toS b ≤ 1073741824) :
    CLB (mt true (spP a) (dv a) (spP b) (dv b)).1 (mt true (spP a) (dv a) (spP b) (dv b)).2 ∧ CLB (mt false (spP b) (dv b) (spP a) (dv a)).1 (mt false (spP b) (dv b) (spP a) (dv a)).2 ∧ trE a b = 0 ∧
    closeF (mt true (spP a) (dv a) (spP b) (dv b)).1 (mt true (spP a) (dv a) (spP b) (dv b)).2 = trF1 a b ∧ closeF (mt false (spP b) (dv b) (spP a) (dv a)).1 (mt false (spP b) (dv b) (spP a) (dv a)).2 = trF2 a b := by
  obtain ⟨m1, m2, f1, f2, t, hp, _, r⟩ := tr_law oa ob e
  have hu : FitsU (trR1 a b).reverse := fun q hq => m1.fit q (List.mem_reverse.1 hq)
  have h1 := (toS_puts hu).1
  have pa := puts_le oa.1; have pb := puts_le ob.1
  have hs : toS (trR1 a b).reverse ≤ 1099511627776 := by omega
  obtain ⟨z, _⟩ := tr_law_ok oa ob e hs
  obtain ⟨c1, c2⟩ := mt_law oa ob e hs
  have pf := fromS_posU oa.1
  obtain ⟨g1, g2, g3, g4, _⟩ := tr_run (id : Int → Int) (a.length + b.length) a b (List.replicate (fromS a).toNat 0) oa.fits ob.fits e (Nat.le_refl _) (len_list (fromS a) pf.1)
  obtain ⟨i1, i2⟩ := mt_tr (a.length + b.length) a b oa.fits ob.fits e (Nat.le_refl _)
  have l1 := i1.2; have l2 := i2.2
  have q1 := psum_mt (f := true) (dv a) (spP a) (spP b) (dv b) (spP_len oa.1)
  have q2 := psum_mt (f := false) (dv b) (spP b) (spP a) (dv a) (spP_len ob.1)
  have s1 := psum_sp oa.1; have s2 := psum_sp ob.1
  have k1 : (mt true (spP a) (dv a) (spP b) (dv b)).2.count false ≤ (mt true (spP a) (dv a) (spP b) (dv b)).2.length := List.count_le_length
  have k2 : (mt false (spP b) (dv b) (spP a) (dv a)).2.count false ≤ (mt false (spP b) (dv b) (spP a) (dv a)).2.length := List.count_le_length
  exact ⟨⟨mt_sc _ _ _ _ (spP_sc oa.1), mt_len _ _ _ _, by omega, by omega⟩, ⟨mt_sc _ _ _ _ (spP_sc ob.1), mt_len _ _ _ _, by omega, by omega⟩, z, c1, c2⟩
theorem trBad_ofE {a b : List Part} (h : sizeE a ≠ 0 ∨ sizeE b ≠ 0 ∨ (sizeF a).1 ≠ (sizeF b).1) : trBad a b := by
  unfold trBad
  rcases h with h | h | h
  · exact .inl (by cases hh : (sizesF a).2.2 with | false => rfl | true => exact absurd (ok_size (ok_iff.1 hh)).1 h)
  · exact .inr (.inl (by cases hh : (sizesF b).2.2 with | false => rfl | true => exact absurd (ok_size (ok_iff.1 hh)).1 h))
  · by_cases ha : (sizesF a).2.2 = true
    · by_cases hb : (sizesF b).2.2 = true
      · refine .inr (.inr fun e => h ?_)
        rw [(ok_size (ok_iff.1 ha)).2.1, (ok_size (ok_iff.1 hb)).2.1]
        have ea := (ok_iff.1 ha).sizes; have eb := (ok_iff.1 hb).sizes
        rw [ea, eb] at e; exact e
      · exact .inr (.inl (by simpa using hb))
    · exact .inl (by simpa using ha)
end Go.SK
