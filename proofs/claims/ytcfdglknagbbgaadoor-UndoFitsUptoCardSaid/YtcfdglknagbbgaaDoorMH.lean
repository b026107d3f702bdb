/- Plain words: what two texts have together, and the edit that leads from one to the other. Plain words: what two texts that come of one make together, and where they meet. Plain words: tables of what can be kept, entry by entry. Plain words: what the laws of layer 10 ask, as the program's answers tell it. -/
import Derived.Test.YtcfdglknagbbgaaDoorMD
import Derived.Test.YtcfdglknagbbgaaDoorMG
set_option linter.unusedVariables false
set_option linter.unusedSimpArgs false
set_option maxRecDepth 100000
namespace Go.SK
open Go
/-! ### The longest common part -/
def lcsGo (f : List Int → Nat) (x : Int) : List Int → Nat
  | [] => 0
  | y :: b => if x = y then f b + 1 else max (f (y :: b)) (lcsGo f x b)
def lcs : List Int → List Int → Nat
  | [], _ => 0
  | x :: a, b => lcsGo (lcs a) x b
theorem lcs_nil (b : List Int) : lcs [] b = 0 := rfl
theorem lcs_nil' (a : List Int) : lcs a [] = 0 := by cases a <;> rfl
theorem lcs_same {x : Int} {a b : List Int} : lcs (x :: a) (x :: b) = lcs a b + 1 := if_pos rfl
theorem lcs_other {x y : Int} {a b : List Int} (h : ¬ x = y) : lcs (x :: a) (y :: b) = max (lcs a (y :: b)) (lcs (x :: a) b) := if_neg h
theorem sub_tail {z x : Int} {s b : List Int} (h : (z :: s).Sublist (x :: b)) : s.Sublist b := by
  cases h with
  | cons _ h => exact List.sublist_of_cons_sublist h
  | cons_cons _ h => exact h
theorem lcs_sub : ∀ (n : Nat) (a b s : List Int), a.length + b.length ≤ n → s.Sublist a → s.Sublist b → s.length ≤ lcs a b
  | n, [], b, s, _, h1, _ => by rw [List.sublist_nil.1 h1]; simp
  | n, x :: a, [], s, _, _, h2 => by rw [List.sublist_nil.1 h2]; simp
  | 0, x :: a, y :: b, s, hn, _, _ => by simp at hn
  | n + 1, x :: a, y :: b, s, hn, h1, h2 => by
    simp only [List.length_cons] at hn
    cases s with
    | nil => simp
    | cons z s =>
      by_cases e : x = y
      · subst e
        rw [lcs_same]
        have := lcs_sub n a b s (by omega) (sub_tail h1) (sub_tail h2)
        simp only [List.length_cons]; omega
      · rw [lcs_other e]
        cases h1 with
        | cons _ h1 =>
          have := lcs_sub n a (y :: b) (z :: s) (by simp only [List.length_cons]; omega) h1 h2
          omega
        | cons_cons _ h1 =>
          cases h2 with
          | cons _ h2 =>
            have := lcs_sub n (x :: a) b (x :: s) (by simp only [List.length_cons]; omega) (h1.cons_cons x) h2
            omega
          | cons_cons _ h2 => exact absurd rfl e
theorem lcs_ex : ∀ (n : Nat) (a b : List Int), a.length + b.length ≤ n → ∃ s : List Int, s.Sublist a ∧ s.Sublist b ∧ s.length = lcs a b
  | n, [], b, _ => ⟨[], List.nil_sublist _, List.nil_sublist _, by simp [lcs_nil, lcs_nil']⟩
  | n, x :: a, [], _ => ⟨[], List.nil_sublist _, List.nil_sublist _, by simp [lcs_nil, lcs_nil']⟩
  | 0, x :: a, y :: b, hn => by simp at hn
  | n + 1, x :: a, y :: b, hn => by
    simp only [List.length_cons] at hn
    by_cases e : x = y
    · subst e
      obtain ⟨s, h1, h2, h3⟩ := lcs_ex n a b (by omega)
      exact ⟨x :: s, h1.cons_cons x, h2.cons_cons x, by rw [lcs_same, List.length_cons, h3]⟩
    · rw [lcs_other e]
      by_cases c : lcs a (y :: b) ≤ lcs (x :: a) b
      · obtain ⟨s, h1, h2, h3⟩ := lcs_ex n (x :: a) b (by simp only [List.length_cons]; omega)
        exact ⟨s, h1, h2.cons y, by omega⟩
      · obtain ⟨s, h1, h2, h3⟩ := lcs_ex n a (y :: b) (by simp only [List.length_cons]; omega)
        exact ⟨s, h1.cons x, h2, by omega⟩
theorem lcs_ge {a b s : List Int} (h1 : s.Sublist a) (h2 : s.Sublist b) : s.length ≤ lcs a b := lcs_sub _ a b s (Nat.le_refl _) h1 h2
theorem lcs_has (a b : List Int) : ∃ s : List Int, s.Sublist a ∧ s.Sublist b ∧ s.length = lcs a b := lcs_ex _ a b (Nat.le_refl _)
theorem lcs_comm (a b : List Int) : lcs a b = lcs b a := by
  obtain ⟨s, h1, h2, h3⟩ := lcs_has a b
  obtain ⟨t, g1, g2, g3⟩ := lcs_has b a
  have := lcs_ge h2 h1; have := lcs_ge g2 g1
  omega
theorem lcs_le (a b : List Int) : lcs a b ≤ a.length ∧ lcs a b ≤ b.length := by
  obtain ⟨s, h1, h2, h3⟩ := lcs_has a b
  have := h1.length_le; have := h2.length_le
  omega
theorem lcs_step (x : Int) (a b : List Int) : lcs a b ≤ lcs (x :: a) b ∧ lcs (x :: a) b ≤ lcs a b + 1 := by
  obtain ⟨s, h1, h2, h3⟩ := lcs_has a b
  obtain ⟨t, g1, g2, g3⟩ := lcs_has (x :: a) b
  refine ⟨by have := lcs_ge (h1.cons x) h2; omega, ?_⟩
  cases t with
  | nil => simp only [List.length_nil] at g3; omega
  | cons z t =>
    have := lcs_ge (sub_tail g1) (List.sublist_of_cons_sublist g2)
    simp only [List.length_cons] at g3; omega
theorem lcs_step' (y : Int) (a b : List Int) : lcs a b ≤ lcs a (y :: b) ∧ lcs a (y :: b) ≤ lcs a b + 1 := by
  rw [lcs_comm a b, lcs_comm a (y :: b)]; exact lcs_step y b a
theorem lcs_self (a : List Int) : lcs a a = a.length := by
  have := lcs_ge (List.Sublist.refl a) (List.Sublist.refl a); have := (lcs_le a a).1; omega
/-- How a table's entry comes of its neighbours. -/
theorem lcs_table (x y : Int) (a b : List Int) : lcs (x :: a) (y :: b) = if x = y then lcs a b + 1 else max (lcs a (y :: b)) (lcs (x :: a) b) := by
  by_cases h : x = y
  · rw [if_pos h, h, lcs_same]
  · rw [if_neg h, lcs_other h]
theorem lcs_three (x y : Int) (a b : List Int) (h : x = y) : max (max (lcs a (y :: b)) (lcs (x :: a) b)) (lcs a b + 1) = lcs (x :: a) (y :: b) := by
  rw [lcs_table, if_pos h]
  have := (lcs_step x a b).2; have := (lcs_step' y a b).2
  omega
/-! ### The parts -/
def keep1 : Part := ⟨1, 1, ⟨#[]⟩⟩
def drop1 : Part := ⟨3, 1, ⟨#[]⟩⟩
def put1 (y : Int) : Part := ⟨2, 1, enc [y]⟩
def dpGo (f : List Int → List Part) (x : Int) (a : List Int) : List Int → List Part
  | [] => drop1 :: f []
  | y :: b => if x = y then keep1 :: f b else if lcs (x :: a) b ≤ lcs a (y :: b) then drop1 :: f (y :: b) else put1 y :: dpGo f x a b
def dp : List Int → List Int → List Part
  | [], b => b.map put1
  | x :: a, b => dpGo (dp a) x a b
theorem dp_put (y : Int) (b : List Int) : dp [] (y :: b) = put1 y :: dp [] b := rfl
theorem dp_drop (x : Int) (a : List Int) : dp (x :: a) [] = drop1 :: dp a [] := rfl
theorem dp_both (x y : Int) (a b : List Int) : dp (x :: a) (y :: b) = if x = y then keep1 :: dp a b else if lcs (x :: a) b ≤ lcs a (y :: b) then drop1 :: dp a (y :: b) else put1 y :: dp (x :: a) b := rfl
theorem dp_nil : dp [] [] = [] := rfl
theorem keep1_fit : fitsB keep1 = true := keep_fits (n := 1) (by omega) (by omega)
theorem drop1_fit : fitsB drop1 = true := drop_fits (n := 1) (by omega) (by omega)
theorem put1_fit {y : Int} (h : scalar y) : fitsB (put1 y) = true := by
  have := put_fits (t := [y]) (by intro x hx; rw [List.mem_singleton.1 hx]; exact h) (by simp) (by simp)
  have e : putP (enc [y]) = put1 y := by unfold putP put1; rw [rcount_dec, dec_enc (by intro x hx; rw [List.mem_singleton.1 hx]; exact h)]; rfl
  rw [← e]; exact this.1
theorem dec_put1 {y : Int} (h : scalar y) : dec (put1 y).text = [y] := dec_enc (by intro x hx; rw [List.mem_singleton.1 hx]; exact h)
/-- What the parts are: each fits; they make the second text of the first one; how much is put and dropped. -/
theorem dp_facts : ∀ (n : Nat) (a b : List Int), a.length + b.length ≤ n → (∀ y ∈ b, scalar y) →
    Fits (dp a b) ∧ fromS (dp a b) = a.length ∧ (runS id (dp a b) a).1 = b ∧ putsN (dp a b) + lcs a b = b.length ∧ dropN (dp a b) + lcs a b = a.length ∧ (dp a b).length ≤ a.length + b.length
  | n, [], [], _, _ => by rw [dp_nil]; simp [fits_nil, fromS, runS, putsN, dropN, lcs_nil]
  | 0, _ :: _, _, hn, _ => by simp at hn
  | 0, _, _ :: _, hn, _ => by simp at hn
  | n + 1, [], y :: b, hn, hs => by
    simp only [List.length_cons, List.length_nil] at hn
    obtain ⟨h1, h2, h3, h4, h5, h6⟩ := dp_facts n [] b (by simp only [List.length_nil]; omega) (fun z hz => hs z (.tail _ hz))
    have hy := hs y (.head _)
    rw [dp_put]
    rw [lcs_nil] at h4 h5
    refine ⟨Fits.cons (put1_fit hy) h1, by simp only [fromS, put1, if_true]; omega, ?_, ?_, ?_, by simp only [List.length_cons]; omega⟩
    · rw [runS_cons, (ot_put id (p := put1 y) rfl _).1, (ot_put id (p := put1 y) rfl _).2, dec_put1 hy, h3]; rfl
    · rw [lcs_nil]; simp only [putsN, put1, if_true, List.length_cons]; omega
    · rw [lcs_nil]; simp only [dropN]; rw [if_neg (show ¬ (put1 y).kind = 3 by show ¬ (2 : Int) = 3; decide)]; omega
  | n + 1, x :: a, [], hn, hs => by
    simp only [List.length_cons, List.length_nil] at hn
    obtain ⟨h1, h2, h3, h4, h5, h6⟩ := dp_facts n a [] (by simp only [List.length_nil]; omega) hs
    rw [dp_drop]
    rw [lcs_nil'] at h4 h5
    refine ⟨Fits.cons drop1_fit h1, ?_, ?_, ?_, ?_, by simp only [List.length_cons]; omega⟩
    · simp only [fromS, List.length_cons]; rw [if_neg (show ¬ drop1.kind = 2 by decide), show drop1.n = 1 from rfl]; omega
    · rw [runS_cons, (ot_drop id (p := drop1) rfl _).1, (ot_drop id (p := drop1) rfl _).2]; exact h3
    · rw [lcs_nil']; simp only [putsN]; rw [if_neg (show ¬ drop1.kind = 2 by decide)]; omega
    · rw [lcs_nil']; simp only [dropN, List.length_cons]; rw [if_pos (show drop1.kind = 3 by decide), show drop1.n = 1 from rfl]; omega
  | n + 1, x :: a, y :: b, hn, hs => by
    simp only [List.length_cons] at hn
    have hy := hs y (.head _)
    rw [dp_both, lcs_table]
    by_cases e : x = y
    · rw [if_pos e, if_pos e]
      obtain ⟨h1, h2, h3, h4, h5, h6⟩ := dp_facts n a b (by omega) (fun z hz => hs z (.tail _ hz))
      refine ⟨Fits.cons keep1_fit h1, ?_, ?_, ?_, ?_, by simp only [List.length_cons]; omega⟩
      · simp only [fromS, List.length_cons]; rw [if_neg (show ¬ keep1.kind = 2 by decide), show keep1.n = 1 from rfl]; omega
      · rw [runS_cons, (ot_keep id (p := keep1) rfl _).1, (ot_keep id (p := keep1) rfl _).2, show keep1.n.toNat = 1 from rfl]
        simp only [List.take_succ_cons, List.take_zero, List.drop_succ_cons, List.drop_zero, h3, e]; rfl
      · simp only [putsN, List.length_cons]; rw [if_neg (show ¬ keep1.kind = 2 by decide)]; omega
      · simp only [dropN, List.length_cons]; rw [if_neg (show ¬ keep1.kind = 3 by decide)]; omega
    · rw [if_neg e, if_neg e]
      by_cases c : lcs (x :: a) b ≤ lcs a (y :: b)
      · rw [if_pos c, Nat.max_eq_left c]
        obtain ⟨h1, h2, h3, h4, h5, h6⟩ := dp_facts n a (y :: b) (by simp only [List.length_cons]; omega) hs
        simp only [List.length_cons] at h4 h6
        refine ⟨Fits.cons drop1_fit h1, ?_, ?_, ?_, ?_, by simp only [List.length_cons]; omega⟩
        · simp only [fromS, List.length_cons]; rw [if_neg (show ¬ drop1.kind = 2 by decide), show drop1.n = 1 from rfl]; omega
        · rw [runS_cons, (ot_drop id (p := drop1) rfl _).1, (ot_drop id (p := drop1) rfl _).2]; exact h3
        · simp only [putsN, List.length_cons]; rw [if_neg (show ¬ drop1.kind = 2 by decide)]; omega
        · simp only [dropN, List.length_cons]; rw [if_pos (show drop1.kind = 3 by decide), show drop1.n = 1 from rfl]; omega
      · rw [if_neg c, Nat.max_eq_right (by omega)]
        obtain ⟨h1, h2, h3, h4, h5, h6⟩ := dp_facts n (x :: a) b (by simp only [List.length_cons]; omega) (fun z hz => hs z (.tail _ hz))
        simp only [List.length_cons] at h2 h5 h6
        refine ⟨Fits.cons (put1_fit hy) h1, by simp only [fromS, put1, if_true, List.length_cons]; omega, ?_, ?_, ?_, by simp only [List.length_cons]; omega⟩
        · rw [runS_cons, (ot_put id (p := put1 y) rfl _).1, (ot_put id (p := put1 y) rfl _).2, dec_put1 hy, h3]; rfl
        · simp only [putsN, put1, if_true, List.length_cons]; omega
        · simp only [dropN, List.length_cons]; rw [if_neg (show ¬ (put1 y).kind = 3 by show ¬ (2 : Int) = 3; decide)]; omega
def diffL (a b : List Int) : List Part := normF (dp a b)
theorem diff_facts {a b : List Int} (hs : ∀ y ∈ b, scalar y) (ha : a.length ≤ 1048576) (hb : b.length ≤ 1048576) :
    Ok (diffL a b) ∧ fromS (diffL a b) = a.length ∧ toS (diffL a b) = b.length ∧ (runS id (diffL a b) a).1 = b ∧ putsN (diffL a b) + lcs a b = b.length ∧ dropN (diffL a b) + lcs a b = a.length := by
  obtain ⟨h1, h2, h3, h4, h5, _⟩ := dp_facts _ a b (Nat.le_refl _) hs
  have hu := fitsU_of h1
  unfold diffL normF
  rw [filter_all h1]
  obtain ⟨m, f, t⟩ := addRs_mk (dp a b) [] MK.nil hu
  have f0 : fromS ([] : List Part) = 0 := rfl
  have t0 : toS ([] : List Part) = 0 := rfl
  obtain ⟨d1, d2⟩ := maker_dv hu
  have hr := maker_run id hu a
  have ht := (runS_len id (dp a b) a hu (by omega)).1
  rw [h3] at ht
  have hm := m.ok (by rw [f, f0]; omega) (by rw [t, t0]; omega)
  refine ⟨hm, by rw [(fromS_rev _).1, f, f0]; omega, by rw [(fromS_rev _).2, t, t0]; omega, by rw [hr, h3], by rw [d2]; exact h4, ?_⟩
  rw [← dv_drop hm.1, d1, dv_drop hu]; exact h5
/-- By no edit that makes the second text are more code points kept. -/
theorem kept_sub : ∀ (e : List Part) (a : List Int), FitsU e → fromS e ≤ a.length → ∃ s : List Int, s.Sublist a ∧ s.Sublist (runS id e a).1 ∧ (s.length : Int) = fromS e - dropN e
  | [], a, _, _ => ⟨[], List.nil_sublist _, List.nil_sublist _, by simp [fromS, dropN]⟩
  | p :: r, a, h, hl => by
    have hp := h p (.head _)
    have hr := fromS_posU h.tail
    have h1 := hp.1
    simp only [fromS] at hl
    rw [runS_cons]
    simp only [fromS, dropN]
    rcases hp.kinds with k | k | k
    · rw [if_neg (by omega)] at hl ⊢
      rw [if_neg (by omega), (ot_keep id k a).1, (ot_keep id k a).2]
      obtain ⟨s, s1, s2, s3⟩ := kept_sub r (a.drop p.n.toNat) h.tail (by rw [List.length_drop]; omega)
      refine ⟨a.take p.n.toNat ++ s, ?_, (List.Sublist.refl _).append s2, by rw [List.length_append, List.length_take]; omega⟩
      have := (List.Sublist.refl (a.take p.n.toNat)).append s1
      rwa [List.take_append_drop] at this
    · rw [if_pos k] at hl ⊢
      rw [if_neg (by omega), (ot_put id k a).1, (ot_put id k a).2]
      obtain ⟨s, s1, s2, s3⟩ := kept_sub r a h.tail (by omega)
      exact ⟨s, s1, s2.trans (List.sublist_append_right _ _), by omega⟩
    · rw [if_neg (by omega)] at hl ⊢
      rw [if_pos k, (ot_drop id k a).1, (ot_drop id k a).2]
      obtain ⟨s, s1, s2, s3⟩ := kept_sub r (a.drop p.n.toNat) h.tail (by rw [List.length_drop]; omega)
      exact ⟨s, s1.trans (List.drop_sublist _ _), by simpa using s2, by omega⟩
theorem short_law {a b : List Int} {e : List Part} (hs : ∀ y ∈ b, scalar y) (ha : a.length ≤ 1048576) (hb : b.length ≤ 1048576) (oe : Ok e) (hn : fromS e = a.length) (hr : (runS id e a).1 = b) : dropN (diffL a b) ≤ dropN e ∧ putsN (diffL a b) ≤ putsN e := by
  obtain ⟨h1, h2, h3, h4, h5, h6⟩ := diff_facts hs ha hb
  obtain ⟨s, s1, s2, s3⟩ := kept_sub e a oe.1 (by omega)
  rw [hr] at s2
  have h7 := lcs_ge s1 s2
  have h8 := toS_eq oe.1
  have h9 := (runS_len id e a oe.1 (by omega)).1
  rw [hr] at h9
  omega
/-! ### Alike texts -/
theorem addRs_keep : ∀ (ps r : List Part), allKeep r → allKeep ps → allKeep (addRs r ps)
  | [], r, h, _ => h
  | p :: ps, r, h, hp => by
    rw [addRs_cons]
    refine addRs_keep ps _ ?_ hp.tail
    have k := hp p (.head _)
    by_cases z : p.n = 0
    · rw [addR_zero z]; exact h
    · cases r with
      | nil => rw [addR_nil z]; exact allKeep.cons k h
      | cons q r =>
        by_cases c : q.kind = p.kind
        · rw [addR_more z c]; exact allKeep.cons (h q (.head _)) h.tail
        · rw [addR_push z c (.inl (by omega))]; exact allKeep.cons k h
theorem allKeep_rev {e : List Part} (h : allKeep e) : allKeep e.reverse := fun p hp => h p (List.mem_reverse.1 hp)
theorem changes_keep {e : List Part} : changesF e = false ↔ allKeep e := by
  unfold changesF allKeep
  rw [List.any_eq_false]
  simp
theorem dp_self : ∀ (a : List Int), dp a a = List.replicate a.length keep1
  | [] => by rw [dp_nil]; rfl
  | x :: a => by rw [dp_both, if_pos rfl, dp_self a]; rfl
theorem diff_changes {a b : List Int} (hs : ∀ y ∈ b, scalar y) (ha : a.length ≤ 1048576) (hb : b.length ≤ 1048576) : changesF (diffL a b) = decide (a ≠ b) := by
  obtain ⟨h1, h2, h3, h4, h5, h6⟩ := diff_facts hs ha hb
  by_cases e : a = b
  · subst e
    rw [decide_eq_false (by simp), changes_keep]
    unfold diffL normF
    rw [dp_self]
    refine allKeep_rev (addRs_keep _ _ allKeep.nil fun p hp => ?_)
    rw [List.mem_filter] at hp
    rw [(List.mem_replicate.1 hp.1).2]; rfl
  · rw [decide_eq_true e]
    cases hc : changesF (diffL a b) with
    | true => rfl
    | false =>
      rw [changes_keep] at hc
      have := run_keep id (diffL a b) a h1.1 hc h2.symm
      rw [h4] at this
      exact absurd this.symm e
/-! ### The front that both have -/
def frontN : List Int → List Int → Nat
  | x :: a, y :: b => if x = y then frontN a b + 1 else 0
  | _, _ => 0
theorem dp_front : ∀ (n : Nat) (a b : List Int), n ≤ a.length → n ≤ b.length → a.take n = b.take n → dp a b = List.replicate n keep1 ++ dp (a.drop n) (b.drop n)
  | 0, a, b, _, _, _ => by simp
  | n + 1, x :: a, y :: b, h1, h2, h => by
    simp only [List.take_succ_cons, List.cons.injEq] at h
    rw [dp_both, if_pos h.1, dp_front n a b (by simpa using h1) (by simpa using h2) h.2]; rfl
  | n + 1, [], b, h1, _, _ => by simp at h1
  | n + 1, x :: a, [], _, h2, _ => by simp at h2
theorem addR_keepN : ∀ (n : Nat), addRs [] (List.replicate (n + 1) keep1) = [keepP (n + 1)]
  | 0 => rfl
  | n + 1 => by
    rw [List.replicate_succ', addRs_append, addR_keepN n]
    show addR [keepP (n + 1)] keep1 = _
    rw [addR_more (q := keepP (n + 1)) (p := keep1) (by decide) rfl]
    show [(⟨1, (n : Int) + 1 + 1, ⟨#[]⟩ ++ ⟨#[]⟩⟩ : Part)] = [⟨1, ((n + 1 : Nat) : Int) + 1, ⟨#[]⟩⟩]
    rw [show ((n + 1 : Nat) : Int) = (n : Int) + 1 by omega]
    rfl
theorem norm_front {n : Nat} {ps : List Part} (hn : n ≤ 1048576) : normF (keepP n :: ps) = normF (List.replicate n keep1 ++ ps) := by
  unfold normF
  congr 1
  rw [List.filter_append, addRs_append]
  have h1 : (List.replicate n keep1).filter fitsB = List.replicate n keep1 := List.filter_eq_self.2 fun p hp => by rw [(List.mem_replicate.1 hp).2]; exact keep1_fit
  rw [h1, List.filter_cons]
  cases n with
  | zero => rw [if_neg (by decide)]; rfl
  | succ n =>
    rw [if_pos (keep_fits (by omega) (by omega)), addR_keepN, addRs_cons, addR_nil (show ¬ (keepP ((n + 1 : Nat) : Int)).n = 0 by show ¬ ((n + 1 : Nat) : Int) = 0; omega)]; rfl
end Go.SK

set_option linter.unusedVariables false
set_option linter.unusedSimpArgs false
set_option maxRecDepth 100000
namespace Go.SK
open Go
/-! ### Beside an edit that keeps all -/
theorem takeP_kind (x : Part) (n : Int) : (takeP x n).kind = x.kind := rfl
theorem tr_keep1 : ∀ (f : Nat) (xs ys : List Part), allKeep xs → allKeep (trGo f xs ys).1
  | 0, xs, ys, h => by simp only [trGo]; exact allKeep.nil
  | f + 1, xs, ys, h => by
    unfold trGo
    split
    · exact allKeep.nil
    · split
      · rename_i hx
        cases xs with
        | nil => exact allKeep.nil
        | cons x xs' => exact absurd hx (by have := h x (.head _); simp only [kindL]; omega)
      · split
        · split
          · exact allKeep.cons rfl (tr_keep1 f xs _ h)
          · exact allKeep.nil
        · split
          · rename_i x xs' y ys' _ _ _
            refine allKeep.append ?_ (tr_keep1 f _ _ (h.rest _))
            split
            · exact allKeep.cons (h x (.head _)) allKeep.nil
            · exact allKeep.nil
          · exact allKeep.nil
theorem puts_le' {e : List Part} (h : FitsU e) : putsN e ≤ toS e := by
  have := toS_eq h; have := dropN_le h; omega
/-- What both make: the second edit, behind the first one, of what the first one makes. -/
theorem merge_facts {x y : List Part} (ox : Ok x) (oy : Ok y) (e : fromS x = fromS y) (hx : toS x ≤ 1048576) (hy : toS y ≤ 1048576) (hn : fromS x ≤ 1048576) :
    trE x y = 0 ∧ Ok (trF1 x y) ∧ Ok (trF2 x y) ∧ fromS (trF1 x y) = toS y ∧ fromS (trF2 x y) = toS x ∧ toS (trF2 x y) ≤ 3145728 ∧
    ∀ (l : List Int), (l.length : Int) = fromS x → (runS id (trF1 x y) (runS id y l).1).1 = (runS id (trF2 x y) (runS id x l).1).1 := by
  obtain ⟨m1, m2, f1, f2, t, hp, _, r⟩ := tr_law ox oy e
  have hu : FitsU (trR1 x y).reverse := fun q hq => m1.fit q (List.mem_reverse.1 hq)
  have h1 := (toS_puts hu).1
  have h2 := puts_le' ox.1
  obtain ⟨c1, c2, c3, o1, o2⟩ := tr_law_ok ox oy e (by omega)
  exact ⟨c1, o1, o2, by rw [c2]; exact f1, by rw [c3]; exact f2, by rw [c3, ← t]; omega, fun l hl => by rw [c2, c3]; exact r id l hl⟩
theorem run_keepR {e : List Part} {ps : List Part} (h : FitsU ps) (hk : allKeep ps) (he : e = (addRs [] ps).reverse) {l : List Int} (hl : (l.length : Int) = fromS ps) : (runS id e l).1 = l := by
  rw [he, maker_run id h l]; exact run_keep id ps l h hk hl
theorem merge_one {x y : List Part} (ox : Ok x) (oy : Ok y) (e : fromS x = fromS y) (hx : toS x ≤ 1048576) (hy : toS y ≤ 1048576) (hn : fromS x ≤ 1048576) (hk : allKeep y) {l : List Int} (hl : (l.length : Int) = fromS x) :
    (runS id (trF2 x y) (runS id x l).1).1 = (runS id x l).1 ∧ (runS id (trF2 y x) (runS id y l).1).1 = (runS id x l).1 := by
  obtain ⟨z1, o1, o2, f1, f2, t, r⟩ := merge_facts ox oy e hx hy hn
  obtain ⟨z1', o1', o2', f1', f2', t', r'⟩ := merge_facts oy ox e.symm hy hx (by omega)
  have hxl := (runS_len id x l ox.1 (by omega)).1
  constructor
  · obtain ⟨_, _, _, c3⟩ := trE_z z1
    obtain ⟨g1, g2, g3, g4, _⟩ := tr_run id (x.length + y.length) x y l ox.fits oy.fits e (Nat.le_refl _) hl
    exact run_keepR g2 (tr_keep2 _ _ _ hk) c3 (by rw [g4]; exact hxl)
  · obtain ⟨_, _, c2, _⟩ := trE_z z1'
    obtain ⟨g1, g2, g3, g4, _⟩ := tr_run id (y.length + x.length) y x l oy.fits ox.fits e.symm (Nat.le_refl _) (by omega)
    rw [← r' l (by omega)]
    exact run_keepR g1 (tr_keep1 _ _ _ hk) c2 (by rw [g3]; exact hxl)
/-! ### Where nothing is put at one place -/
def putPos : Int → List Part → List Int
  | _, [] => []
  | o, p :: r => if p.kind = 2 then o :: putPos o r else putPos (o + p.n) r
theorem putPos_rest {x : Part} {xs : List Part} (h : ¬ x.kind = 2) (o n : Int) : putPos (o + n) (restP x xs n) = putPos o (x :: xs) := by
  unfold restP
  rw [putPos, if_neg h]
  split
  · rw [show n = x.n by omega]
  · rw [putPos, if_neg (show ¬ (leftP x n).kind = 2 from h)]
    show putPos (o + n + (x.n - n)) xs = _
    congr 1; omega
theorem minI_comm (a b : Int) : minI a b = minI b a := by unfold minI; split <;> split <;> omega
theorem tr_swap : ∀ (f : Nat) (xs ys : List Part) (o : Int), Fits xs → Fits ys → fromS xs = fromS ys → xs.length + ys.length ≤ f → (∀ z, z ∈ putPos o xs → z ∈ putPos o ys → False) → (trGo f xs ys).1 = (trGo f ys xs).2 ∧ (trGo f xs ys).2 = (trGo f ys xs).1
  | 0, xs, ys, o, _, _, _, _, _ => by simp [trGo]
  | f + 1, xs, ys, o, hx, hy, hb, hl, hc => by
    by_cases h0 : kindL xs = 0 ∧ kindL ys = 0
    · rw [trGo_stop h0, trGo_stop ⟨h0.2, h0.1⟩]; exact ⟨rfl, rfl⟩
    by_cases hx2 : kindL xs = 2
    · obtain ⟨x, xs', rfl, k⟩ := kindL_cons hx2 (by omega)
      have hy2 : ¬ kindL ys = 2 := fun hy2 => by
        obtain ⟨y, ys', rfl, k'⟩ := kindL_cons hy2 (by omega)
        exact hc o (by rw [putPos, if_pos k]; exact .head _) (by rw [putPos, if_pos k']; exact .head _)
      rw [trGo_x hx2, trGo_y hy2 hx2]
      have hfx : fromS (x :: xs') = fromS xs' := by simp only [fromS, if_pos k]; omega
      obtain ⟨i1, i2⟩ := tr_swap f xs' ys o hx.tail hy (by omega) (by simp only [List.length_cons] at hl; omega) (fun z h1 h2 => hc z (by rw [putPos, if_pos k]; exact .tail _ h1) h2)
      exact ⟨by rw [i1], by rw [i2]⟩
    · by_cases hy2 : kindL ys = 2
      · obtain ⟨y, ys', rfl, k⟩ := kindL_cons hy2 (by omega)
        rw [trGo_y hx2 hy2, trGo_x hy2]
        have hfy : fromS (y :: ys') = fromS ys' := by simp only [fromS, if_pos k]; omega
        obtain ⟨i1, i2⟩ := tr_swap f xs ys' o hx hy.tail (by omega) (by simp only [List.length_cons] at hl; omega) (fun z h1 h2 => hc z h1 (by rw [putPos, if_pos k]; exact .tail _ h2))
        exact ⟨by rw [i1], by rw [i2]⟩
      · cases xs with
        | nil =>
          cases ys with
          | nil => exact absurd ⟨rfl, rfl⟩ h0
          | cons y ys' =>
            have h1 := fitsB_n (hy y (.head _)); have hp := fromS_pos hy.tail
            have k : ¬ y.kind = 2 := hy2
            simp only [fromS, if_neg k] at hb; omega
        | cons x xs' =>
          cases ys with
          | nil =>
            have h1 := fitsB_n (hx x (.head _)); have hp := fromS_pos hx.tail
            have k : ¬ x.kind = 2 := hx2
            simp only [fromS, if_neg k] at hb; omega
          | cons y ys' =>
            have kx : ¬ x.kind = 2 := hx2
            have ky : ¬ y.kind = 2 := hy2
            have x1 := fitsB_n (hx x (.head _))
            have y1 := fitsB_n (hy y (.head _))
            have hm := minI_le x.n y.n
            have hm1 : 1 ≤ minI x.n y.n := by rcases hm.2.2 with e | e <;> omega
            rw [trGo_b h0 hx2 hy2, trGo_b (fun h => h0 ⟨h.2, h.1⟩) hy2 hx2, minI_comm y.n x.n]
            have bx := (rest_from x xs' (minI x.n y.n)).1
            have by_ := (rest_from y ys' (minI x.n y.n)).1
            rw [if_neg kx] at bx; rw [if_neg ky] at by_
            have hlen : (restP x xs' (minI x.n y.n)).length + (restP y ys' (minI x.n y.n)).length ≤ f := by
              have := both_len x y xs' ys'; simp only [List.length_cons] at hl; omega
            obtain ⟨i1, i2⟩ := tr_swap f (restP x xs' (minI x.n y.n)) (restP y ys' (minI x.n y.n)) (o + minI x.n y.n) (rest_fits hx hm1 hm.1) (rest_fits hy hm1 hm.2.1) (by omega) hlen (fun z h1 h2 => hc z (by rw [← putPos_rest kx o (minI x.n y.n)]; exact h1) (by rw [← putPos_rest ky o (minI x.n y.n)]; exact h2))
            exact ⟨by rw [i1], by rw [i2]⟩
theorem tr_swapR {x y : List Part} (ox : Ok x) (oy : Ok y) (e : fromS x = fromS y) (hc : ∀ z, z ∈ putPos 0 x → z ∈ putPos 0 y → False) : trR2 y x = trR1 x y := by
  unfold trR2 trR1
  rw [Nat.add_comm y.length, (tr_swap (x.length + y.length) x y 0 ox.fits oy.fits e (Nat.le_refl _) hc).1]
theorem merge_either {x y : List Part} (ox : Ok x) (oy : Ok y) (e : fromS x = fromS y) (hx : toS x ≤ 1048576) (hy : toS y ≤ 1048576) (hn : fromS x ≤ 1048576) (hc : ∀ z, z ∈ putPos 0 x → z ∈ putPos 0 y → False) {l : List Int} (hl : (l.length : Int) = fromS x) :
    (runS id (trF2 x y) (runS id x l).1).1 = (runS id (trF2 y x) (runS id y l).1).1 := by
  obtain ⟨z1, _, _, _, _, _, r⟩ := merge_facts ox oy e hx hy hn
  obtain ⟨z1', _⟩ := merge_facts oy ox e.symm hy hx (by omega)
  obtain ⟨_, _, c2, _⟩ := trE_z z1
  obtain ⟨_, _, _, c3⟩ := trE_z z1'
  rw [← r l hl, c2, c3, tr_swapR ox oy e hc]
/-! ### Stretches -/
abbrev Str := Int × Int × Int
def setLast (out : List Str) (n : Int) : List Str := match out.getLast? with
  | some t => out.dropLast ++ [(t.1, n, t.2.2)]
  | none => out
def strGo : List Part → Bool → Int → List Str → List Str
  | [], _, _, out => out
  | p :: r, b, o, out => if p.kind = 1 then strGo r false (o + p.n) out else if p.kind = 2 then strGo r true o (out ++ [(o, 0, p.n)]) else if b then strGo r false (o + p.n) (setLast out p.n) else strGo r false (o + p.n) (out ++ [(o, p.n, 0)])
def strF (e : List Part) : List Str := strGo e false 0 []
def hasAt (out : List Str) (z : Int) : Prop := ∃ t ∈ out, t.1 = z ∧ 0 ≤ t.2.1
theorem hasAt.app {out : List Str} {z : Int} (h : hasAt out z) (t : Str) : hasAt (out ++ [t]) z := by
  obtain ⟨u, h1, h2⟩ := h; exact ⟨u, List.mem_append_left _ h1, h2⟩
theorem hasAt.set {out : List Str} {z : Int} (h : hasAt out z) {n : Int} (hn : 0 ≤ n) : hasAt (setLast out n) z := by
  unfold setLast
  obtain ⟨u, h1, h2, h3⟩ := h
  cases hg : out.getLast? with
  | none => exact ⟨u, h1, h2, h3⟩
  | some t =>
    have e : out = out.dropLast ++ [t] := by
      obtain ⟨ys, hy⟩ := List.getLast?_eq_some_iff.1 hg
      rw [hy]; simp
    rw [e] at h1
    rcases List.mem_append.1 h1 with h1 | h1
    · exact ⟨u, List.mem_append_left _ h1, h2, h3⟩
    · rw [List.mem_singleton.1 h1] at h2
      exact ⟨(t.1, n, t.2.2), List.mem_append_right _ (.head _), h2, hn⟩
theorem strGo_has : ∀ (e : List Part) (b : Bool) (o : Int) (out : List Str), FitsU e → (∀ z, hasAt out z ∨ z ∈ putPos o e → hasAt (strGo e b o out) z)
  | [], b, o, out, _, z, h => by
    rcases h with h | h
    · exact h
    · cases h
  | p :: r, b, o, out, hf, z, h => by
    have h1 := (hf p (.head _)).1
    rw [strGo]
    rw [putPos] at h
    by_cases k1 : p.kind = 1
    · rw [if_pos k1]; rw [if_neg (by omega)] at h
      exact strGo_has r _ _ _ hf.tail z h
    · rw [if_neg k1]
      by_cases k2 : p.kind = 2
      · rw [if_pos k2]; rw [if_pos k2] at h
        refine strGo_has r _ _ _ hf.tail z ?_
        rcases h with h | h
        · exact .inl (h.app _)
        · rcases List.mem_cons.1 h with rfl | h
          · exact .inl ⟨_, List.mem_append_right _ (.head _), rfl, by show (0 : Int) ≤ 0; omega⟩
          · exact .inr h
      · rw [if_neg k2]; rw [if_neg k2] at h
        split
        · exact strGo_has r _ _ _ hf.tail z (h.imp (fun w => w.set (by omega)) id)
        · exact strGo_has r _ _ _ hf.tail z (h.imp (fun w => w.app _) id)
def meetB (p q : Str) : Bool := decide (p.1 ≤ q.1 + q.2.1) && decide (q.1 ≤ p.1 + p.2.1)
theorem meetB_comm (p q : Str) : meetB p q = meetB q p := Bool.and_comm _ _
def meetRow (p : Str) : List Str → Int
  | [] => 0
  | q :: r => (if meetB p q then 1 else 0) + meetRow p r
def meetN : List Str → List Str → Int
  | [], _ => 0
  | p :: r, l => meetRow p l + meetN r l
theorem meetRow_pos (p : Str) : ∀ l : List Str, 0 ≤ meetRow p l
  | [] => by simp [meetRow]
  | q :: r => by have := meetRow_pos p r; simp only [meetRow]; split <;> omega
theorem meetN_pos : ∀ (a b : List Str), 0 ≤ meetN a b
  | [], _ => by simp [meetN]
  | p :: r, b => by have := meetRow_pos p b; have := meetN_pos r b; simp only [meetN]; omega
theorem meetN_nil : ∀ (a : List Str), meetN a [] = 0
  | [] => rfl
  | p :: r => by simp only [meetN, meetRow, meetN_nil r]; rfl
theorem meetN_cons (q : Str) : ∀ (a b : List Str), meetN a (q :: b) = meetRow q a + meetN a b
  | [], b => rfl
  | p :: r, b => by simp only [meetN, meetRow, meetN_cons q r b, meetB_comm q p]; omega
theorem meetN_comm : ∀ (a b : List Str), meetN a b = meetN b a
  | [], b => by rw [meetN_nil]; rfl
  | p :: r, b => by rw [meetN_cons p b r, meetN, meetN_comm r b]
theorem meetRow_has {p : Str} : ∀ {l : List Str} {q : Str}, q ∈ l → meetB p q = true → 1 ≤ meetRow p l
  | q :: r, q', h, hm => by
    have := meetRow_pos p r
    simp only [meetRow]
    rcases List.mem_cons.1 h with rfl | h
    · rw [if_pos hm]; omega
    · have := meetRow_has h hm; split <;> omega
theorem meetN_has : ∀ {a b : List Str} {p q : Str}, p ∈ a → q ∈ b → meetB p q = true → 1 ≤ meetN a b
  | p :: r, b, p', q, h, hq, hm => by
    have h1 := meetN_pos r b; have h2 := meetRow_pos p b
    simp only [meetN]
    rcases List.mem_cons.1 h with rfl | h
    · have := meetRow_has hq hm; omega
    · have := meetN_has h hq hm; omega
theorem meet_none {x y : List Part} (hx : FitsU x) (hy : FitsU y) (h : ¬ 0 < meetN (strF x) (strF y)) : ∀ z, z ∈ putPos 0 x → z ∈ putPos 0 y → False := fun z h1 h2 => by
  obtain ⟨p, p1, p2, p3⟩ := strGo_has x false 0 [] hx z (.inr h1)
  obtain ⟨q, q1, q2, q3⟩ := strGo_has y false 0 [] hy z (.inr h2)
  have := meetN_has (a := strF x) (b := strF y) p1 q1 (by unfold meetB; simp only [Bool.and_eq_true, decide_eq_true_eq]; omega)
  omega
theorem strGo_len : ∀ (e : List Part) (b : Bool) (o : Int) (out : List Str), (strGo e b o out).length ≤ out.length + e.length
  | [], b, o, out => by simp [strGo]
  | p :: r, b, o, out => by
    have hs : (setLast out p.n).length ≤ out.length := by
      unfold setLast
      cases hg : out.getLast? with
      | none => exact Nat.le_refl _
      | some t =>
        have : out ≠ [] := by rintro rfl; simp at hg
        have := List.length_pos_iff.2 this
        simp only [List.length_append, List.length_dropLast, List.length_singleton]; omega
    rw [strGo]
    have h1 := strGo_len r false (o + p.n) out
    have h2 := strGo_len r true o (out ++ [(o, 0, p.n)])
    have h3 := strGo_len r false (o + p.n) (setLast out p.n)
    have h4 := strGo_len r false (o + p.n) (out ++ [(o, p.n, 0)])
    simp only [List.length_append, List.length_singleton, List.length_cons, List.length_nil] at *
    split
    · omega
    · split
      · omega
      · split <;> omega
end Go.SK

set_option linter.unusedVariables false
set_option linter.unusedSimpArgs false
set_option maxRecDepth 100000
namespace Go.SK
open Go Go.RowKit
abbrev iv64 (n : Nat) : Value := .int .i64 (n : Int)
abbrev iv16 (n : Nat) : Value := .int .u16 (n : Int)
/-- What a place of two texts tells. -/
def lc (a b : List Int) (i k : Nat) : Nat := lcs (a.drop i) (b.drop k)
theorem lc_end {a b : List Int} {i k : Nat} (h : a.length ≤ i ∨ b.length ≤ k) : lc a b i k = 0 := by
  unfold lc
  rcases h with h | h
  · rw [List.drop_eq_nil_of_le h, lcs_nil]
  · rw [List.drop_eq_nil_of_le h, lcs_nil']
theorem lc_rec {a b : List Int} {i k : Nat} (hi : i < a.length) (hk : k < b.length) : lc a b i k = if a.getD i 0 = b.getD k 0 then lc a b (i + 1) (k + 1) + 1 else max (lc a b (i + 1) k) (lc a b i (k + 1)) := by
  unfold lc
  rw [getD_drop hi rfl, getD_drop hk rfl, lcs_table]
theorem lc_three {a b : List Int} {i k : Nat} (hi : i < a.length) (hk : k < b.length) (h : a.getD i 0 = b.getD k 0) : max (max (lc a b (i + 1) k) (lc a b i (k + 1))) (lc a b (i + 1) (k + 1) + 1) = lc a b i k := by
  unfold lc
  rw [getD_drop hi rfl, getD_drop hk rfl]
  exact lcs_three _ _ _ _ h
theorem lc_le (a b : List Int) (i k : Nat) : lc a b i k ≤ a.length ∧ lc a b i k ≤ b.length := by
  have := lcs_le (a.drop i) (b.drop k)
  rw [List.length_drop, List.length_drop] at this
  unfold lc; omega
/-! ### The table as one row -/
/-- Rows from m on are reckoned, and of the row ahead of them the places from q on. -/
structure TI (a b : List Int) (m q : Nat) (X : List Nat) : Prop where
  len : X.length = (a.length + 1) * (b.length + 1)
  mle : m ≤ a.length
  ok : ∀ i k, i ≤ a.length → k ≤ b.length → (m ≤ i ∨ (i + 1 = m ∧ q ≤ k)) → X.getD (i * (b.length + 1) + k) 0 = lc a b i k
theorem ix_lt {w i k n : Nat} (hi : i < n) (hk : k < w) : i * w + k < n * w := by
  have : (i + 1) * w ≤ n * w := Nat.mul_le_mul_right w hi
  rw [Nat.add_mul, Nat.one_mul] at this; omega
theorem ix_inj {w i k i' k' : Nat} (hk : k < w) (hk' : k' < w) (h : i * w + k = i' * w + k') : i = i' ∧ k = k' := by
  have h1 : (i * w + k) / w = i := by rw [Nat.mul_comm, Nat.mul_add_div (by omega), Nat.div_eq_of_lt hk]; omega
  have h2 : (i' * w + k') / w = i' := by rw [Nat.mul_comm, Nat.mul_add_div (by omega), Nat.div_eq_of_lt hk']; omega
  have : i = i' := by rw [← h1, ← h2, h]
  subst this; exact ⟨rfl, by omega⟩
theorem getD_rep {n i : Nat} : (List.replicate n 0).getD i 0 = 0 := by
  rw [List.getD_eq_getElem?_getD, List.getElem?_replicate]; split <;> rfl
theorem TI.start (a b : List Int) : TI a b a.length b.length (List.replicate ((a.length + 1) * (b.length + 1)) 0) :=
  ⟨by simp, Nat.le_refl _, fun i k h1 h2 h3 => by rw [getD_rep, lc_end]; omega⟩
section
variable {a b : List Int} {m q : Nat} {X : List Nat}
/-- The row ahead begun: its last place is naught, as in the row as it was made. -/
structure TZ (a b : List Int) (m q : Nat) (X : List Nat) : Prop extends TI a b m q X where
  zero : ∀ i k, i ≤ a.length → k ≤ b.length → ¬ (m ≤ i ∨ (i + 1 = m ∧ q ≤ k)) → X.getD (i * (b.length + 1) + k) 0 = 0
theorem TZ.start (a b : List Int) : TZ a b a.length b.length (List.replicate ((a.length + 1) * (b.length + 1)) 0) := ⟨TI.start a b, fun i k _ _ _ => getD_rep⟩
theorem TZ.get (h : TZ a b m q X) {i k : Nat} (hi : i ≤ a.length) (hk : k ≤ b.length) (hd : m ≤ i ∨ (i + 1 = m ∧ q ≤ k)) : i * (b.length + 1) + k < X.length ∧ X.getD (i * (b.length + 1) + k) 0 = lc a b i k := by
  refine ⟨?_, h.ok i k hi hk hd⟩
  rw [h.len]; exact ix_lt (by omega) (by omega)
theorem TZ.step (h : TZ a b m q X) (hm : 1 ≤ m) (hq : 1 ≤ q) (hqb : q ≤ b.length) : (m - 1) * (b.length + 1) + (q - 1) < X.length ∧ TZ a b m (q - 1) (X.set ((m - 1) * (b.length + 1) + (q - 1)) (lc a b (m - 1) (q - 1))) := by
  have hml := h.mle
  have hlt : (m - 1) * (b.length + 1) + (q - 1) < X.length := by rw [h.len]; exact ix_lt (by omega) (by omega)
  refine ⟨hlt, ⟨⟨by rw [List.length_set]; exact h.len, hml, fun i k h1 h2 h3 => ?_⟩, fun i k h1 h2 h3 => ?_⟩⟩
  · by_cases c : i = m - 1 ∧ k = q - 1
    · obtain ⟨rfl, rfl⟩ := c
      rw [List.getD_eq_getElem?_getD, List.getElem?_set_self hlt]; rfl
    · rw [List.getD_eq_getElem?_getD, List.getElem?_set_ne (fun e => c (by have := ix_inj (by omega) (by omega) e; omega)), ← List.getD_eq_getElem?_getD]
      exact h.ok i k h1 h2 (by omega)
  · rw [List.getD_eq_getElem?_getD, List.getElem?_set_ne (fun e => by have := ix_inj (by omega) (by omega) e; omega), ← List.getD_eq_getElem?_getD]
    exact h.zero i k h1 h2 (by omega)
theorem TZ.row (h : TZ a b m 0 X) (hm : 1 ≤ m) : TZ a b (m - 1) b.length X := ⟨⟨h.len, by have := h.mle; omega, fun i k h1 h2 h3 => by
  by_cases c : m ≤ i ∨ (i + 1 = m ∧ 0 ≤ k)
  · exact h.ok i k h1 h2 c
  · rw [h.zero i k h1 h2 c, lc_end]; omega⟩, fun i k h1 h2 h3 => h.zero i k h1 h2 (by omega)⟩
end
/-- Where a place is done: in the row ahead, the last place is as it was made. -/
theorem TZ.at_ {a b : List Int} {m q : Nat} {X : List Nat} (h : TZ a b m q X) {i k : Nat} (hi : i ≤ a.length) (hk : k ≤ b.length) (hd : m ≤ i ∨ (i + 1 = m ∧ q ≤ k) ∨ k = b.length) : i * (b.length + 1) + k < X.length ∧ X.getD (i * (b.length + 1) + k) 0 = lc a b i k := by
  by_cases c : m ≤ i ∨ (i + 1 = m ∧ q ≤ k)
  · exact h.get hi hk c
  · refine ⟨by rw [h.len]; exact ix_lt (by omega) (by omega), ?_⟩
    rw [h.zero i k hi hk c, lc_end]; omega
/-! ### Row by row -/
def lrow (a b : List Int) (i : Nat) : List Nat := (List.range (b.length + 1)).map (lc a b i)
theorem lrow_len (a b : List Int) (i : Nat) : (lrow a b i).length = b.length + 1 := by simp [lrow]
theorem lrow_get {a b : List Int} {i k : Nat} (h : k ≤ b.length) : (lrow a b i).getD k 0 = lc a b i k := by
  unfold lrow
  rw [List.getD_eq_getElem?_getD, List.getElem?_map, List.getElem?_range (by omega)]; rfl
/-- A row being made from its end on. -/
structure KI (a b : List Int) (i q : Nat) (X : List Nat) : Prop where
  len : X.length = b.length + 1
  ok : ∀ k, k ≤ b.length → X.getD k 0 = if q ≤ k then lc a b i k else 0
theorem KI.start (a b : List Int) (i : Nat) : KI a b i b.length (List.replicate (b.length + 1) 0) := ⟨by simp, fun k hk => by
  rw [getD_rep]
  split
  · rw [lc_end]; omega
  · rfl⟩
theorem KI.get {a b : List Int} {i q k : Nat} {X : List Nat} (h : KI a b i q X) (hk : k ≤ b.length) (hq : q ≤ k) : X.getD k 0 = lc a b i k := by rw [h.ok k hk, if_pos hq]
theorem KI.step {a b : List Int} {i q : Nat} {X : List Nat} (h : KI a b i q X) (hq : 1 ≤ q) (hqb : q ≤ b.length) : KI a b i (q - 1) (X.set (q - 1) (lc a b i (q - 1))) := by
  refine ⟨by rw [List.length_set]; exact h.len, fun k hk => ?_⟩
  by_cases c : k = q - 1
  · subst c
    rw [List.getD_eq_getElem?_getD, List.getElem?_set_self (by rw [h.len]; omega), if_pos (Nat.le_refl _)]; rfl
  · rw [List.getD_eq_getElem?_getD, List.getElem?_set_ne (fun e => c e.symm), ← List.getD_eq_getElem?_getD, h.ok k hk]
    by_cases d : q ≤ k
    · rw [if_pos d, if_pos (by omega)]
    · rw [if_neg d, if_neg (by omega)]
theorem KI.stop {a b : List Int} {i : Nat} {X : List Nat} (h : KI a b i 0 X) : X = lrow a b i := by
  apply List.ext_getElem (by rw [h.len, lrow_len])
  intro k h1 h2
  have := h.ok k (by rw [h.len] at h1; omega)
  rw [if_pos (Nat.zero_le _), ← lrow_get (i := i) (by rw [h.len] at h1; omega), List.getD_eq_getElem?_getD, List.getD_eq_getElem?_getD, List.getElem?_eq_getElem h1, List.getElem?_eq_getElem h2] at this
  exact this
theorem lrow_last (a b : List Int) : List.replicate (b.length + 1) 0 = lrow a b a.length := by
  apply List.ext_getElem (by simp [lrow_len])
  intro k h1 h2
  rw [List.getElem_replicate]
  have h3 : k ≤ b.length := by rw [lrow_len] at h2; omega
  have := lrow_get (a := a) (i := a.length) h3
  rw [List.getD_eq_getElem?_getD, List.getElem?_eq_getElem h2, lc_end (.inl (Nat.le_refl _))] at this
  exact this.symm
/-! ### The walk through the table -/
/-- How far two texts are gone through, and what was put together. -/
structure DI (a b : List Int) (i k : Nat) (ps : List Part) : Prop where
  ile : i ≤ a.length
  kle : k ≤ b.length
  go : ps ++ dp (a.drop i) (b.drop k) = dp a b
theorem DI.start (a b : List Int) : DI a b 0 0 [] := ⟨Nat.zero_le _, Nat.zero_le _, by simp⟩
section
variable {a b : List Int} {i k : Nat} {ps : List Part}
theorem DI.keep (h : DI a b i k ps) (hi : i < a.length) (hk : k < b.length) (e : a.getD i 0 = b.getD k 0) : DI a b (i + 1) (k + 1) (ps ++ [keep1]) :=
  ⟨by omega, by omega, by rw [← h.go, getD_drop hi rfl, getD_drop hk rfl, dp_both, if_pos e]; simp⟩
theorem DI.drop (h : DI a b i k ps) (hi : i < a.length) (hc : b.length ≤ k ∨ (¬ (k < b.length ∧ a.getD i 0 = b.getD k 0) ∧ lc a b i (k + 1) ≤ lc a b (i + 1) k)) : DI a b (i + 1) k (ps ++ [drop1]) := by
  refine ⟨by omega, h.kle, ?_⟩
  rw [← h.go, getD_drop hi rfl]
  rcases Nat.lt_or_ge k b.length with hk | hk
  · rcases hc with hc | hc
    · omega
    · have hne : ¬ a.getD i 0 = b.getD k 0 := fun e => hc.1 ⟨hk, e⟩
      have hle := hc.2
      unfold lc at hle
      rw [getD_drop hi rfl, getD_drop hk rfl] at hle
      rw [getD_drop hk rfl, dp_both, if_neg hne, if_pos hle]; simp
  · rw [List.drop_eq_nil_of_le (as := b) hk, dp_drop]; simp
theorem DI.put (h : DI a b i k ps) (hk : k < b.length) (hc : a.length ≤ i ∨ (¬ a.getD i 0 = b.getD k 0 ∧ ¬ lc a b i (k + 1) ≤ lc a b (i + 1) k)) : DI a b i (k + 1) (ps ++ [put1 (b.getD k 0)]) := by
  refine ⟨h.ile, by omega, ?_⟩
  rw [← h.go, getD_drop hk rfl]
  rcases Nat.lt_or_ge i a.length with hi | hi
  · rcases hc with hc | hc
    · omega
    · have hle := hc.2
      unfold lc at hle
      rw [getD_drop hi rfl, getD_drop hk rfl] at hle
      rw [getD_drop hi rfl, dp_both, if_neg hc.1, if_neg hle]; simp
  · rw [List.drop_eq_nil_of_le (as := a) hi, dp_put]; simp
theorem DI.stop (h : DI a b i k ps) (hi : a.length ≤ i) (hk : b.length ≤ k) : ps = dp a b := by
  rw [← h.go, List.drop_eq_nil_of_le hi, List.drop_eq_nil_of_le hk, dp_nil, List.append_nil]
theorem DI.len (h : DI a b i k ps) (hs : ∀ y ∈ b, scalar y) : ps.length ≤ a.length + b.length := by
  have h1 := (dp_facts _ a b (Nat.le_refl _) hs).2.2.2.2.2
  rw [← h.go, List.length_append] at h1; omega
theorem DI.fits (h : DI a b i k ps) (hs : ∀ y ∈ b, scalar y) : Fits ps := fun p hp => (dp_facts _ a b (Nat.le_refl _) hs).1 p (by rw [← h.go]; exact List.mem_append_left _ hp)
end
/-! ### The front -/
theorem front_step {a b : List Int} {n : Nat} (h : a.take n = b.take n) (ha : n < a.length) (hb : n < b.length) (e : a.getD n 0 = b.getD n 0) : a.take (n + 1) = b.take (n + 1) := by
  rw [List.take_add_one, List.take_add_one, h, List.getElem?_eq_getElem ha, List.getElem?_eq_getElem hb]
  rw [List.getD_eq_getElem?_getD, List.getD_eq_getElem?_getD, List.getElem?_eq_getElem ha, List.getElem?_eq_getElem hb] at e
  have e' : a[n] = b[n] := by simpa using e
  rw [e']
theorem diff_front {a b : List Int} {n : Nat} (ha : n ≤ a.length) (hb : n ≤ b.length) (h : a.take n = b.take n) (hn : n ≤ 1048576) : normF (keepP n :: dp (a.drop n) (b.drop n)) = diffL a b := by
  unfold diffL
  rw [norm_front hn, dp_front n a b ha hb h]
/-! ### What is answered -/
/-- Whether a text may be compared. -/
def ckT (s : ByteArray) : Int := if valid s = false then 21 else if 1024 < (rcount s : Int) then 4 else 0
def ck2 (s t : ByteArray) : Int := if ckT s = 0 then ckT t else ckT s
theorem ckT_z {s : ByteArray} (h : ckT s = 0) : valid s = true ∧ (dec s).length ≤ 1024 ∧ ∀ x ∈ dec s, scalar x := by
  unfold ckT at h
  by_cases c : valid s = false
  · rw [if_pos c] at h; omega
  · have hv : valid s = true := by simpa using c
    rw [if_neg c, rcount_dec] at h
    by_cases d : 1024 < ((dec s).length : Int)
    · rw [if_pos d] at h; omega
    · exact ⟨hv, by omega, dec_scalar hv⟩
theorem ck2_z {s t : ByteArray} : ck2 s t = 0 ↔ ckT s = 0 ∧ ckT t = 0 := by
  unfold ck2
  by_cases c : ckT s = 0
  · rw [if_pos c]; exact ⟨fun h => ⟨c, h⟩, fun h => h.2⟩
  · rw [if_neg c]; exact ⟨fun h => absurd h c, fun h => absurd h.1 c⟩
def diffE (s t : ByteArray) : Int := ck2 s t
def diffF (s t : ByteArray) : List Part := if ck2 s t = 0 then diffL (dec s) (dec t) else []
def keptF (s t : ByteArray) : Int := if ck2 s t = 0 then (lcs (dec s) (dec t) : Int) else 0
end Go.SK

set_option linter.unusedVariables false
set_option linter.unusedSimpArgs false
set_option maxRecDepth 100000
namespace Go.SK
open Go
theorem diffE_z {s t : ByteArray} (h : ck2 s t = 0) : valid s = true ∧ valid t = true ∧ (dec s).length ≤ 1024 ∧ (dec t).length ≤ 1024 ∧ (∀ x ∈ dec s, scalar x) ∧ ∀ x ∈ dec t, scalar x := by
  obtain ⟨h1, h2⟩ := ck2_z.1 h
  obtain ⟨a1, a2, a3⟩ := ckT_z h1
  obtain ⟨b1, b2, b3⟩ := ckT_z h2
  exact ⟨a1, b1, a2, b2, a3, b3⟩
theorem diffF_facts {s t : ByteArray} (h : ck2 s t = 0) : Ok (diffF s t) ∧ fromS (diffF s t) = (dec s).length ∧ toS (diffF s t) = (dec t).length ∧ (runS id (diffF s t) (dec s)).1 = dec t ∧ putsN (diffF s t) + lcs (dec s) (dec t) = (dec t).length ∧ dropN (diffF s t) + lcs (dec s) (dec t) = (dec s).length := by
  obtain ⟨_, _, h1, h2, _, h4⟩ := diffE_z h
  unfold diffF; rw [if_pos h]
  exact diff_facts h4 (by omega) (by omega)
theorem diffF_nz {s t : ByteArray} (h : ck2 s t ≠ 0) : diffF s t = [] := if_neg h
theorem diffF_small (s t : ByteArray) : small (diffF s t) := by
  by_cases h : ck2 s t = 0
  · exact small_of (diffF_facts h).1.fits
  · rw [diffF_nz h]; exact small_nil
theorem diffF_len (s t : ByteArray) : (diffF s t).length ≤ 2048 := by
  by_cases h : ck2 s t = 0
  · obtain ⟨_, _, h1, h2, _, h4⟩ := diffE_z h
    have hd := (dp_facts _ (dec s) (dec t) (Nat.le_refl _) h4).2.2.2.2.2
    unfold diffF; rw [if_pos h]
    unfold diffL normF
    have h5 := addRs_len ((dp (dec s) (dec t)).filter fitsB) []
    have h6 := List.length_filter_le fitsB (dp (dec s) (dec t))
    rw [List.length_reverse]
    simp only [List.length_nil] at h5; omega
  · rw [diffF_nz h]; simp
theorem ck2_comm {s t : ByteArray} : ck2 s t = 0 ↔ ck2 t s = 0 := by rw [ck2_z, ck2_z]; exact And.comm
theorem kept_comm (s t : ByteArray) : keptF s t = keptF t s := by
  unfold keptF
  by_cases h : ck2 s t = 0
  · rw [if_pos h, if_pos (ck2_comm.1 h), lcs_comm]
  · rw [if_neg h, if_neg (fun w => h (ck2_comm.1 w))]
theorem ck2_dec (s t : ByteArray) : decide (ck2 s t = 0) = decide (ck2 t s = 0) := decide_eq_decide.2 ck2_comm
theorem kept_z {s t : ByteArray} (h : ck2 s t = 0) : (rcount s : Int) - (weightF (diffF s t)).2 = keptF s t ∧ 0 ≤ (weightF (diffF s t)).2 ∧ (weightF (diffF s t)).2 ≤ 1024 := by
  obtain ⟨h1, h2, h3, h4, h5, h6⟩ := diffF_facts h
  obtain ⟨_, _, g1, _⟩ := diffE_z h
  have := dropN_pos h1.1
  rw [weight_ok h1.fits]
  unfold keptF
  rw [if_pos h, rcount_dec]
  show ((dec s).length : Int) - dropN (diffF s t) = _ ∧ 0 ≤ dropN (diffF s t) ∧ dropN (diffF s t) ≤ 1024
  omega
theorem leads_z {s t : ByteArray} (h : ck2 s t = 0) : applyE (diffF s t) s = 0 ∧ applyF (diffF s t) s = t ∧ changesF (diffF s t) = decide (s ≠ t) := by
  obtain ⟨h1, h2, h3, h4, h5, h6⟩ := diffF_facts h
  obtain ⟨v1, v2, g1, g2, g3, g4⟩ := diffE_z h
  obtain ⟨a1, a2, _⟩ := apply_law v1 h1 h2
  refine ⟨a1, by rw [a2, h4, enc_dec v2], ?_⟩
  unfold diffF
  rw [if_pos h, diff_changes g4 (by omega) (by omega)]
  refine decide_eq_decide.2 (not_congr ⟨fun e => dec_inj v1 v2 e, fun e => by rw [e]⟩)
theorem leads_nz {s t : ByteArray} (h : ck2 s t ≠ 0) : (diffF s t).length = 0 := by rw [diffF_nz h]; rfl
theorem short_z {s : ByteArray} {e : List Part} (hz : applyE e s = 0) (hs : s.size ≤ 1024) (ht : (applyF e s).size ≤ 1024) :
    ck2 s (applyF e s) = 0 ∧ (weightF (diffF s (applyF e s))).2 ≤ (weightF e).2 ∧ (weightF (diffF s (applyF e s))).1 ≤ (weightF e).1 := by
  obtain ⟨hv, oe, hn⟩ := applyE_z hz
  obtain ⟨a1, a2, a3, a4, a5⟩ := apply_law hv oe hn
  have d1 := dec_len s; have d2 := dec_len (applyF e s)
  have hck : ck2 s (applyF e s) = 0 := by
    refine ck2_z.2 ⟨?_, ?_⟩
    · unfold ckT; rw [if_neg (by simp [hv]), if_neg (by rw [rcount_dec]; omega)]
    · unfold ckT; rw [if_neg (by simp [a3]), if_neg (by rw [rcount_dec]; omega)]
  obtain ⟨h1, h2, h3, h4, h5, h6⟩ := diffF_facts hck
  have hl := short_law (b := dec (applyF e s)) (dec_scalar a3) (by omega) (by omega) oe hn (by rw [a4])
  have e1 : diffF s (applyF e s) = diffL (dec s) (dec (applyF e s)) := if_pos hck
  rw [weight_ok h1.fits, weight_ok oe.fits, e1]
  exact ⟨hck, hl.1, hl.2⟩
/-! ### Merged -/
def mergeE (base a b : ByteArray) : Int := if ck2 base a ≠ 0 then ck2 base a else if ck2 base b ≠ 0 then ck2 base b else if trE (diffF base a) (diffF base b) ≠ 0 then trE (diffF base a) (diffF base b) else applyE (trF2 (diffF base a) (diffF base b)) a
def mergeF (base a b : ByteArray) : ByteArray := if ck2 base a ≠ 0 then ⟨#[]⟩ else if ck2 base b ≠ 0 then ⟨#[]⟩ else if trE (diffF base a) (diffF base b) ≠ 0 then ⟨#[]⟩ else applyF (trF2 (diffF base a) (diffF base b)) a
theorem merge_bad {base a b : ByteArray} (h : ¬ (ck2 base a = 0 ∧ ck2 base b = 0)) : mergeE base a b ≠ 0 ∧ mergeF base a b = ⟨#[]⟩ ∧ (mergeE base a b = ck2 base a ∨ (ck2 base a = 0 ∧ mergeE base a b = ck2 base b)) := by
  unfold mergeE mergeF
  by_cases h1 : ck2 base a ≠ 0
  · rw [if_pos h1, if_pos h1]; exact ⟨h1, rfl, .inl rfl⟩
  · rw [if_neg h1, if_neg h1]
    have h2 : ck2 base b ≠ 0 := fun h2 => h ⟨Decidable.not_not.1 h1, h2⟩
    rw [if_pos h2, if_pos h2]; exact ⟨h2, rfl, .inr ⟨Decidable.not_not.1 h1, rfl⟩⟩
theorem merge_ok {base a b : ByteArray} (h1 : ck2 base a = 0) (h2 : ck2 base b = 0) : mergeE base a b = 0 ∧ mergeF base a b = enc (runS id (trF2 (diffF base a) (diffF base b)) (dec a)).1 := by
  obtain ⟨a1, a2, a3, a4, _⟩ := diffF_facts h1
  obtain ⟨b1, b2, b3, b4, _⟩ := diffF_facts h2
  obtain ⟨v1, v2, g1, g2, _⟩ := diffE_z h1
  obtain ⟨_, _, _, g3, _⟩ := diffE_z h2
  obtain ⟨m1, m2, m3, m4, m5, m6, m7⟩ := merge_facts a1 b1 (by omega) (by omega) (by omega) (by omega)
  obtain ⟨p1, p2, _⟩ := apply_law v2 m3 (by omega)
  unfold mergeE mergeF
  rw [if_neg (by omega), if_neg (by omega), if_neg (by omega), if_neg (by omega), if_neg (by omega), if_neg (by omega)]
  exact ⟨p1, p2⟩
theorem diff_self_keep {s : ByteArray} (h : ck2 s s = 0) : allKeep (diffF s s) := by
  have := (leads_z h).2.2
  rw [decide_eq_false (by simp)] at this
  exact changes_keep.1 this
theorem ck2_self {s t : ByteArray} (h : ck2 s t = 0) : ck2 s s = 0 := ck2_z.2 ⟨(ck2_z.1 h).1, (ck2_z.1 h).1⟩
theorem one_z {base a : ByteArray} (h1 : ckT base = 0) (h2 : ckT a = 0) : mergeE base a base = 0 ∧ mergeE base base a = 0 ∧ mergeF base a base = a ∧ mergeF base base a = a := by
  have c1 : ck2 base a = 0 := ck2_z.2 ⟨h1, h2⟩
  have c2 : ck2 base base = 0 := ck2_z.2 ⟨h1, h1⟩
  obtain ⟨m1, m2⟩ := merge_ok c1 c2
  obtain ⟨n1, n2⟩ := merge_ok c2 c1
  obtain ⟨a1, a2, a3, a4, _⟩ := diffF_facts c1
  obtain ⟨b1, b2, b3, b4, _⟩ := diffF_facts c2
  obtain ⟨v1, v2, g1, g2, _⟩ := diffE_z c1
  have hk := diff_self_keep c2
  obtain ⟨o1, o2⟩ := merge_one a1 b1 (by omega) (by omega) (by omega) (by omega) hk (l := dec base) (by omega)
  rw [a4] at o1 o2
  rw [b4] at o2
  exact ⟨m1, n1, by rw [m2, o1, enc_dec v2], by rw [n2, o2, enc_dec v2]⟩
theorem one_nz {base a : ByteArray} (h : ckT base ≠ 0 ∨ ckT a ≠ 0) : mergeE base a base ≠ 0 ∧ mergeE base base a ≠ 0 ∧ mergeF base a base = ⟨#[]⟩ ∧ mergeF base base a = ⟨#[]⟩ := by
  have hb : ck2 base a ≠ 0 := fun w => by have := ck2_z.1 w; rcases h with h | h; exact h this.1; exact h this.2
  have m := merge_bad (base := base) (a := a) (b := base) (fun w => hb w.1)
  have n := merge_bad (base := base) (a := base) (b := a) (fun w => hb w.2)
  exact ⟨m.1, n.1, m.2.1, n.2.1⟩
theorem long_z (a b : ByteArray) : mergeE a b b = ck2 a b ∧ (ck2 a b ≠ 0 → keptF a b = 0 ∧ mergeF a b b = ⟨#[]⟩) := by
  by_cases h : ck2 a b = 0
  · exact ⟨by rw [(merge_ok h h).1, h], fun w => absurd h w⟩
  · obtain ⟨h1, h2, h3⟩ := merge_bad (base := a) (a := b) (b := b) (fun w => h w.1)
    exact ⟨by rcases h3 with h3 | h3 <;> omega, fun _ => ⟨if_neg h, h2⟩⟩
/-! ### Met -/
def meetE (base a b : ByteArray) : Int := if ck2 base a ≠ 0 then ck2 base a else ck2 base b
def meetF (base a b : ByteArray) : Int := if meetE base a b = 0 then meetN (strF (diffF base a)) (strF (diffF base b)) else 0
theorem meetE_z {base a b : ByteArray} : meetE base a b = 0 ↔ ck2 base a = 0 ∧ ck2 base b = 0 := by
  unfold meetE
  by_cases h : ck2 base a = 0
  · rw [if_neg (by omega)]; exact ⟨fun w => ⟨h, w⟩, fun w => w.2⟩
  · rw [if_pos h]; exact ⟨fun w => absurd w h, fun w => absurd w.1 h⟩
theorem meet_comm {base a b : ByteArray} : meetE base a b = 0 ↔ meetE base b a = 0 := by rw [meetE_z, meetE_z]; exact And.comm
theorem either_z {base a b : ByteArray} (h : meetE base a b = 0) : meetF base a b = meetF base b a ∧ mergeE base a b = 0 ∧ mergeE base b a = 0 ∧ (0 < meetF base a b ∨ mergeF base a b = mergeF base b a) := by
  obtain ⟨h1, h2⟩ := meetE_z.1 h
  obtain ⟨m1, m2⟩ := merge_ok h1 h2
  obtain ⟨n1, n2⟩ := merge_ok h2 h1
  obtain ⟨a1, a2, a3, a4, _⟩ := diffF_facts h1
  obtain ⟨b1, b2, b3, b4, _⟩ := diffF_facts h2
  obtain ⟨_, _, g1, g2, _⟩ := diffE_z h1
  obtain ⟨_, _, _, g3, _⟩ := diffE_z h2
  have e1 : meetF base a b = meetN (strF (diffF base a)) (strF (diffF base b)) := if_pos h
  have e2 : meetF base b a = meetN (strF (diffF base b)) (strF (diffF base a)) := if_pos (meet_comm.1 h)
  refine ⟨by rw [e1, e2, meetN_comm], m1, n1, ?_⟩
  by_cases c : 0 < meetF base a b
  · exact .inl c
  · right
    rw [e1] at c
    have := merge_either a1 b1 (by omega) (by omega) (by omega) (by omega) (meet_none a1.1 b1.1 c) (l := dec base) (by omega)
    rw [a4, b4] at this
    rw [m2, n2, this]
theorem meetE_dec (base a b : ByteArray) : decide (meetE base a b = 0) = decide (meetE base b a = 0) := decide_eq_decide.2 meet_comm
end Go.SK
