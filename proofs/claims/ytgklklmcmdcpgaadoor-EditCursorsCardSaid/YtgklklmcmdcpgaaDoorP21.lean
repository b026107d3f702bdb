/- Plain words: composition, inverse, application and cursors of edits that are spread out. -/
import Derived.Test.YtgklklmcmdcpgaaDoorP20
set_option linter.unusedVariables false
set_option linter.unusedSimpArgs false
set_option maxRecDepth 100000
namespace Go.SK
open Go
/-! ### Composition -/
/-- A text taken through a spread edit: what comes of it, and what is left of the edit. -/
def wv : List Int → List (List Int) → List Bool → List Int × List (List Int) × List Bool
  | [], P, D => ([], P, D)
  | c :: t, P, D => (P.headD [] ++ ((if D.headD false then [] else [c]) ++ (wv t P.tail D.tail).1), (wv t P.tail D.tail).2)
def cz : List (List Int) → List Bool → List (List Int) → List Bool → List (List Int) × List Bool
  | P, [], yP, yD => ([(wv (P.headD []) yP yD).1 ++ (wv (P.headD []) yP yD).2.1.headD []], [])
  | P, true :: D, yP, yD => ((wv (P.headD []) yP yD).1 :: (cz P.tail D (wv (P.headD []) yP yD).2.1 (wv (P.headD []) yP yD).2.2).1, true :: (cz P.tail D (wv (P.headD []) yP yD).2.1 (wv (P.headD []) yP yD).2.2).2)
  | P, false :: D, yP, yD => (((wv (P.headD []) yP yD).1 ++ (wv (P.headD []) yP yD).2.1.headD []) :: (cz P.tail D (wv (P.headD []) yP yD).2.1.tail (wv (P.headD []) yP yD).2.2.tail).1, (wv (P.headD []) yP yD).2.2.headD false :: (cz P.tail D (wv (P.headD []) yP yD).2.1.tail (wv (P.headD []) yP yD).2.2.tail).2)
/-- How many code points a spread edit makes. -/
def madeN : List (List Int) → List Bool → Nat
  | P, [] => (P.headD []).length
  | P, d :: D => (P.headD []).length + ((if d then 0 else 1) + madeN P.tail D)
theorem wv_left : ∀ (t : List Int) (P : List (List Int)) (D : List Bool), (wv t P D).2 = (P.drop t.length, D.drop t.length)
  | [], P, D => rfl
  | c :: t, P, D => by
    rw [wv]
    show (wv t P.tail D.tail).2 = _
    rw [wv_left t P.tail D.tail, List.length_cons]
    simp
section
variable {β : Type} (ι : Int → β)
theorem wv_run : ∀ (t : List Int) (P : List (List Int)) (D : List Bool) (m : List β), t.length ≤ D.length → runW ι P D (t.map ι ++ m) = (wv t P D).1.map ι ++ runW ι (P.drop t.length) (D.drop t.length) m
  | [], P, D, m, _ => by simp [wv]
  | c :: t, P, [], m, h => by simp at h
  | c :: t, P, d :: D, m, h => by
    simp only [List.map_cons, List.cons_append, runW, wv, List.headD_cons, List.tail_cons, List.length_cons, List.drop_succ_cons, List.take_succ_cons, List.take_zero, List.drop_zero]
    rw [wv_run t P.tail D m (by simpa using h)]
    cases d <;> simp [List.append_assoc]
theorem cz_run : ∀ (D : List Bool) (P : List (List Int)) (yP : List (List Int)) (yD : List Bool) (l : List β), P.length = D.length + 1 → madeN P D = yD.length → l.length = D.length →
    runW ι (cz P D yP yD).1 (cz P D yP yD).2 l = runW ι yP yD (runW ι P D l)
  | [], h :: P, yP, yD, l, hl, hm, hn => by
    simp only [madeN, List.headD_cons] at hm
    have := wv_run ι h yP yD [] (by omega)
    rw [List.append_nil] at this
    simp only [cz, runW, List.headD_cons, wv_left]
    rw [this, List.drop_eq_nil_of_le (as := yD) (by omega)]
    simp [runW]
  | true :: D, h :: P, yP, yD, l, hl, hm, hn => by
    simp only [madeN, List.headD_cons, if_true, List.tail_cons] at hm
    simp only [cz, List.headD_cons, List.tail_cons, wv_left]
    rw [runW, runW]
    simp only [List.headD_cons, List.tail_cons, if_true, List.nil_append]
    rw [wv_run ι h yP yD _ (by omega), cz_run D P _ _ (l.drop 1) (by simpa using hl) (by rw [List.length_drop]; omega) (by rw [List.length_drop, hn]; simp)]
  | false :: D, h :: P, yP, yD, l, hl, hm, hn => by
    simp only [madeN, List.headD_cons, Bool.false_eq_true, if_false, List.tail_cons] at hm
    simp only [cz, List.headD_cons, List.tail_cons, wv_left]
    rw [runW, runW]
    simp only [List.headD_cons, List.tail_cons, Bool.false_eq_true, if_false]
    rw [wv_run ι h yP yD _ (by omega)]
    obtain ⟨x, l, rfl⟩ : ∃ x l', l = x :: l' := by cases l with | nil => simp at hn | cons x l => exact ⟨x, l, rfl⟩
    have hd : (yD.drop h.length) ≠ [] := by intro e; have := congrArg List.length e; rw [List.length_drop, List.length_nil] at this; omega
    obtain ⟨d, D', hd'⟩ := List.exists_cons_of_ne_nil hd
    rw [hd']
    simp only [List.headD_cons, List.tail_cons, List.take_succ_cons, List.take_zero, List.drop_succ_cons, List.drop_zero, List.singleton_append]
    have hD : yD.length = h.length + 1 + D'.length := by have := congrArg List.length hd'; rw [List.length_drop, List.length_cons] at this; omega
    rw [cz_run D P _ D' l (by simpa using hl) (by omega) (by simpa using hn)]
    rw [runW]
    cases d <;> simp [List.append_assoc]
end
theorem cz_len : ∀ (D : List Bool) (P : List (List Int)) (yP : List (List Int)) (yD : List Bool), (cz P D yP yD).1.length = D.length + 1 ∧ (cz P D yP yD).2.length = D.length
  | [], P, yP, yD => ⟨rfl, rfl⟩
  | true :: D, P, yP, yD => by have := cz_len D P.tail (wv (P.headD []) yP yD).2.1 (wv (P.headD []) yP yD).2.2; simp only [cz, List.length_cons]; omega
  | false :: D, P, yP, yD => by have := cz_len D P.tail (wv (P.headD []) yP yD).2.1.tail (wv (P.headD []) yP yD).2.2.tail; simp only [cz, List.length_cons]; omega
theorem sc_headD {P : List (List Int)} (h : scP P) : ∀ x ∈ P.headD [], scalar x := by
  cases P with
  | nil => intro x hx; cases hx
  | cons a r => exact h a (.head _)
theorem sc_tail {P : List (List Int)} (h : scP P) : scP P.tail := by
  cases P with
  | nil => exact h
  | cons a r => exact h.tail
theorem sc_drop {P : List (List Int)} (h : scP P) (n : Nat) : scP (P.drop n) := fun t ht => h t (List.mem_of_mem_drop ht)
theorem wv_sc : ∀ (t : List Int) (P : List (List Int)) (D : List Bool), (∀ x ∈ t, scalar x) → scP P → ∀ x ∈ (wv t P D).1, scalar x
  | [], P, D, _, _ => by simp [wv]
  | c :: t, P, D, ht, hp => by
    intro x hx
    rw [wv] at hx
    rcases List.mem_append.1 hx with hx | hx
    · exact sc_headD hp x hx
    · rcases List.mem_append.1 hx with hx | hx
      · split at hx
        · cases hx
        · rw [List.mem_singleton.1 hx]; exact ht c (.head _)
      · exact wv_sc t _ _ (fun y hy => ht y (.tail _ hy)) (sc_tail hp) x hx
theorem cz_sc : ∀ (D : List Bool) (P : List (List Int)) (yP : List (List Int)) (yD : List Bool), scP P → scP yP → scP (cz P D yP yD).1
  | [], P, yP, yD, h1, h2 => by
    intro t ht x hx
    simp only [cz, wv_left] at ht
    rw [List.mem_singleton.1 ht] at hx
    rcases List.mem_append.1 hx with hx | hx
    · exact wv_sc _ _ _ (sc_headD h1) h2 x hx
    · exact sc_headD (sc_drop h2 _) x hx
  | true :: D, P, yP, yD, h1, h2 => by
    intro t ht
    simp only [cz, wv_left] at ht
    rcases List.mem_cons.1 ht with rfl | ht
    · exact wv_sc _ _ _ (sc_headD h1) h2
    · exact cz_sc D _ _ _ (sc_tail h1) (sc_drop h2 _) t ht
  | false :: D, P, yP, yD, h1, h2 => by
    intro t ht
    simp only [cz, wv_left] at ht
    rcases List.mem_cons.1 ht with rfl | ht
    · intro x hx
      rcases List.mem_append.1 hx with hx | hx
      · exact wv_sc _ _ _ (sc_headD h1) h2 x hx
      · exact sc_headD (sc_drop h2 _) x hx
    · exact cz_sc D _ _ _ (sc_tail h1) (sc_tail (sc_drop h2 _)) t ht
theorem madeN_addH (t : List Int) {P : List (List Int)} (h : 0 < P.length) (D : List Bool) : madeN (addH t P) D = t.length + madeN P D := by
  cases P with
  | nil => simp at h
  | cons a r => cases D <;> simp [madeN, addH, Nat.add_assoc]
theorem madeN_rep (b : Bool) (n : Nat) (P : List (List Int)) (D : List Bool) : madeN (List.replicate n [] ++ P) (List.replicate n b ++ D) = (if b then 0 else n) + madeN P D := by
  induction n with
  | zero => simp
  | succ n ih => simp only [List.replicate_succ, List.cons_append, madeN, List.headD_cons, List.length_nil, List.tail_cons, ih]; cases b <;> simp <;> omega
theorem madeN_sp : ∀ {e : List Part}, FitsU e → (madeN (spP e) (dv e) : Int) = toS e
  | [], _ => rfl
  | p :: r, h => by
    have ih := madeN_sp h.tail
    have hl := spP_len h.tail
    have h1 := (h p (.head _)).1
    rw [spP, dv]; simp only [toS]
    rcases (h p (.head _)).2 with ⟨k, _⟩ | ⟨k, _⟩ | ⟨k, _, k2⟩
    · rw [if_neg (by omega), show dvP p = List.replicate p.n.toNat false from if_pos k, madeN_rep, if_neg (show ¬ false = true by simp), if_neg (by omega)]; omega
    · rw [if_neg (by omega), show dvP p = List.replicate p.n.toNat true by unfold dvP; rw [if_neg (by omega), if_pos k], madeN_rep, if_pos rfl, if_pos k]; omega
    · rw [if_pos k, show dvP p = [] by unfold dvP; rw [if_neg (by omega), if_neg (by omega)], List.nil_append, madeN_addH _ (by omega), if_neg (by omega)]; omega
theorem cz_law {a b : List Part} (oa : Ok a) (ob : Ok b) (e : toS a = fromS b) : closeF (cz (spP a) (dv a) (spP b) (dv b)).1 (cz (spP a) (dv a) (spP b) (dv b)).2 = compF a b := by
  obtain ⟨c1, c2, c3, c4, c5⟩ := comp_law oa ob e
  have hl := cz_len (dv a) (spP a) (spP b) (dv b)
  have da := dv_len oa.1
  have db := dv_len ob.1
  have hp := fromS_posU oa.1
  refine close_is c2 (cz_sc _ _ _ _ (spP_sc oa.1) (spP_sc ob.1)) (by omega) (by omega) fun ι l hn => ?_
  rw [c5 ι l (by omega), cz_run ι (dv a) (spP a) (spP b) (dv b) l (by have := spP_len oa.1; omega) (by have := madeN_sp oa.1; omega) (by omega), spread_run ι a l oa.1, spread_run ι b _ ob.1]
/-! ### Inverse -/
def psh (k : Nat) (cur : List Int) : List (List Int) := if k = 0 then [] else cur :: List.replicate (k - 1) []
def cur' (k : Nat) (cur : List Int) : List Int := if k = 0 then cur else []
def iv : List (List Int) → List Bool → List Int → List Int → List (List Int) × List Bool
  | P, [], l, cur => (cur :: List.replicate (P.headD []).length [], List.replicate (P.headD []).length true)
  | P, true :: D, l, cur => (psh (P.headD []).length cur ++ (iv P.tail D (l.drop 1) (cur' (P.headD []).length cur ++ l.take 1)).1, List.replicate (P.headD []).length true ++ (iv P.tail D (l.drop 1) (cur' (P.headD []).length cur ++ l.take 1)).2)
  | P, false :: D, l, cur => (psh (P.headD []).length cur ++ (cur' (P.headD []).length cur :: (iv P.tail D (l.drop 1) []).1), List.replicate (P.headD []).length true ++ (false :: (iv P.tail D (l.drop 1) []).2))
def ivF (P : List (List Int)) (D : List Bool) (l : List Int) : List (List Int) × List Bool := iv P D l []
theorem iv_len : ∀ (D : List Bool) (P : List (List Int)) (l cur : List Int), (iv P D l cur).1.length = (iv P D l cur).2.length + 1
  | [], P, l, cur => by simp [iv]
  | true :: D, P, l, cur => by
    have := iv_len D P.tail (l.drop 1) (cur' (P.headD []).length cur ++ l.take 1)
    simp only [iv, psh, List.length_append, List.length_replicate]
    split <;> simp only [List.length_cons, List.length_nil, List.length_replicate] <;> omega
  | false :: D, P, l, cur => by
    have := iv_len D P.tail (l.drop 1) []
    simp only [iv, psh, List.length_append, List.length_replicate, List.length_cons]
    split <;> simp only [List.length_cons, List.length_nil, List.length_replicate] <;> omega
theorem iv_D : ∀ (D : List Bool) (P : List (List Int)) (l cur : List Int), (iv P D l cur).2.length = madeN P D
  | [], P, l, cur => by simp [iv, madeN]
  | true :: D, P, l, cur => by simp only [iv, madeN, List.length_append, List.length_replicate, iv_D D, if_true]; omega
  | false :: D, P, l, cur => by simp only [iv, madeN, List.length_append, List.length_replicate, List.length_cons, iv_D D, Bool.false_eq_true, if_false]; omega
theorem iv_sc : ∀ (D : List Bool) (P : List (List Int)) (l cur : List Int), (∀ x ∈ l, scalar x) → (∀ x ∈ cur, scalar x) → scP (iv P D l cur).1
  | [], P, l, cur, hl, hc => by
    intro t ht
    simp only [iv] at ht
    rcases List.mem_cons.1 ht with rfl | ht
    · exact hc
    · rw [(List.mem_replicate.1 ht).2]; intro x hx; cases hx
  | d :: D, P, l, cur, hl, hc => by
    have hps : ∀ t ∈ psh (P.headD []).length cur, ∀ x ∈ t, scalar x := by
      intro t ht
      unfold psh at ht
      split at ht
      · cases ht
      · rcases List.mem_cons.1 ht with rfl | ht
        · exact hc
        · rw [(List.mem_replicate.1 ht).2]; intro x hx; cases hx
    have hcc : ∀ x ∈ cur' (P.headD []).length cur, scalar x := by
      unfold cur'; split
      · exact hc
      · intro x hx; cases hx
    have hld : ∀ x ∈ l.drop 1, scalar x := fun x hx => hl x (List.mem_of_mem_drop hx)
    have hlt : ∀ x ∈ l.take 1, scalar x := fun x hx => hl x (List.mem_of_mem_take hx)
    cases d with
    | true =>
      intro t ht
      simp only [iv] at ht
      rcases List.mem_append.1 ht with ht | ht
      · exact hps t ht
      · exact iv_sc D _ _ _ hld (fun x hx => (List.mem_append.1 hx).elim (hcc x) (hlt x)) t ht
    | false =>
      intro t ht
      simp only [iv] at ht
      rcases List.mem_append.1 ht with ht | ht
      · exact hps t ht
      · rcases List.mem_cons.1 ht with rfl | ht
        · exact hcc
        · exact iv_sc D _ _ _ hld (fun x hx => by cases hx) t ht
section
variable {β : Type} (ι : Int → β)
theorem psh_run (k : Nat) (cur : List Int) (P : List (List Int)) (D : List Bool) (m : List β) : runW ι (psh k cur ++ addH (cur' k cur) P) (List.replicate k true ++ D) m = cur.map ι ++ runW ι (addH [] P) D (m.drop k) := by
  unfold psh cur'
  cases k with
  | zero => cases P <;> cases D <;> simp [addH, runW]
  | succ k =>
    rw [if_neg (by omega), if_neg (by omega)]
    simp only [List.replicate_succ, List.cons_append, runW, List.headD_cons, if_true, List.nil_append, List.tail_cons, Nat.add_sub_cancel]
    rw [runW_drop, List.drop_drop, Nat.add_comm]
theorem iv_addH : ∀ (D : List Bool) (P : List (List Int)) (l cur : List Int), ∃ Q, (iv P D l cur).1 = addH cur Q ∧ (iv P D l []).1 = addH [] Q ∧ (iv P D l cur).2 = (iv P D l []).2
  | [], P, l, cur => ⟨[] :: List.replicate (P.headD []).length [], by simp [iv, addH], by simp [iv, addH], rfl⟩
  | true :: D, P, l, cur => by
    by_cases k : (P.headD []).length = 0
    · obtain ⟨Q, h1, h2, h3⟩ := iv_addH D P.tail (l.drop 1) (cur ++ l.take 1)
      obtain ⟨Q', g1, g2, g3⟩ := iv_addH D P.tail (l.drop 1) (l.take 1)
      have hq : addH [] Q = addH [] Q' := by rw [← h2, ← g2]
      refine ⟨addH (l.take 1) Q, ?_, ?_, ?_⟩
      · simp only [iv, psh, cur', k, if_true, List.nil_append, h1]
        cases Q <;> simp [addH, List.append_assoc]
      · simp only [iv, psh, cur', k, if_true, List.nil_append, g1]
        cases Q <;> cases Q' <;> simp_all [addH]
      · simp only [iv, psh, cur', k, if_true, List.nil_append, h3, g3]
    · refine ⟨[] :: (List.replicate ((P.headD []).length - 1) [] ++ (iv P.tail D (l.drop 1) (l.take 1)).1), ?_, ?_, ?_⟩
      · simp only [iv, psh, cur', if_neg k, addH, List.append_nil, List.nil_append, List.cons_append]
      · simp only [iv, psh, cur', if_neg k, addH, List.append_nil, List.nil_append, List.cons_append]
      · simp only [iv, psh, cur', if_neg k]
  | false :: D, P, l, cur => by
    by_cases k : (P.headD []).length = 0
    · exact ⟨[] :: (iv P.tail D (l.drop 1) []).1, by simp only [iv, psh, cur', k, if_true, List.nil_append, addH, List.append_nil], by simp only [iv, psh, cur', k, if_true, List.nil_append, addH], by simp only [iv]⟩
    · refine ⟨[] :: (List.replicate ((P.headD []).length - 1) [] ++ ([] :: (iv P.tail D (l.drop 1) []).1)), ?_, ?_, ?_⟩
      · simp only [iv, psh, cur', if_neg k, addH, List.append_nil, List.nil_append, List.cons_append]
      · simp only [iv, psh, cur', if_neg k, addH, List.append_nil, List.nil_append, List.cons_append]
      · simp only [iv]
theorem iv_cur (D : List Bool) (P : List (List Int)) (l cur : List Int) (m : List β) : runW ι (iv P D l cur).1 (iv P D l cur).2 m = cur.map ι ++ runW ι (iv P D l []).1 (iv P D l []).2 m := by
  obtain ⟨Q, h1, h2, h3⟩ := iv_addH D P l cur
  rw [h1, h2, h3]
  cases Q <;> generalize (iv P D l []).2 = D' <;> cases D' <;> simp [addH, runW, List.append_assoc]
/-- One step of the inverse: so many dropped, then what stood there put back or kept. -/
theorem iv_step (d : Bool) (D : List Bool) (P : List (List Int)) (l : List Int) (m : List β) : runW ι (iv P (d :: D) l []).1 (iv P (d :: D) l []).2 m =
    (if d then (l.take 1).map ι ++ runW ι (iv P.tail D (l.drop 1) []).1 (iv P.tail D (l.drop 1) []).2 (m.drop (P.headD []).length) else (m.drop (P.headD []).length).take 1 ++ runW ι (iv P.tail D (l.drop 1) []).1 (iv P.tail D (l.drop 1) []).2 ((m.drop (P.headD []).length).drop 1)) := by
  have hc : cur' (P.headD []).length [] = [] := by unfold cur'; split <;> rfl
  cases d with
  | true =>
    simp only [iv, hc, List.nil_append, if_true]
    obtain ⟨Q, h1, h2, h3⟩ := iv_addH D P.tail (l.drop 1) (l.take 1)
    have hp := psh_run ι (P.headD []).length [] (addH (l.take 1) Q) (iv P.tail D (l.drop 1) (l.take 1)).2 m
    rw [hc] at hp
    have ha : addH [] (addH (l.take 1) Q) = addH (l.take 1) Q := by cases Q <;> simp [addH]
    rw [ha, ← h1] at hp
    rw [hp, iv_cur]; simp
  | false =>
    simp only [iv, hc, Bool.false_eq_true, if_false]
    have hp := psh_run ι (P.headD []).length [] ([] :: (iv P.tail D (l.drop 1) []).1) (false :: (iv P.tail D (l.drop 1) []).2) m
    rw [hc] at hp
    simp only [addH, List.append_nil, List.map_nil, List.nil_append] at hp
    rw [hp, runW]
    simp
theorem iv_put (t : List Int) {P : List (List Int)} (h : 0 < P.length) (D : List Bool) (l : List Int) (m : List β) : runW ι (iv (addH t P) D l []).1 (iv (addH t P) D l []).2 m = runW ι (iv P D l []).1 (iv P D l []).2 (m.drop t.length) := by
  obtain ⟨a, r, rfl⟩ : ∃ a r, P = a :: r := by cases P with | nil => simp at h | cons a r => exact ⟨a, r, rfl⟩
  cases D with
  | nil =>
    simp only [iv, addH, List.headD_cons]
    have h1 : ∀ (k : Nat) (m : List β), runW ι ([] :: List.replicate k []) (List.replicate k true) m = [] := by
      intro k
      induction k with
      | zero => intro m; rfl
      | succ k ih => intro m; simp only [List.replicate_succ, runW, List.headD_cons, List.map_nil, if_true, List.nil_append, List.tail_cons]; exact ih _
    rw [h1, h1]
  | cons d D =>
    rw [iv_step, iv_step]
    simp only [addH, List.headD_cons, List.tail_cons, List.length_append, List.drop_drop]
theorem iv_keep (n : Nat) (P : List (List Int)) (D : List Bool) : ∀ (l : List Int) (m : List β), runW ι (iv (List.replicate n [] ++ P) (List.replicate n false ++ D) l []).1 (iv (List.replicate n [] ++ P) (List.replicate n false ++ D) l []).2 m = m.take n ++ runW ι (iv P D (l.drop n) []).1 (iv P D (l.drop n) []).2 (m.drop n) := by
  induction n with
  | zero => intro l m; simp
  | succ n ih =>
    intro l m
    simp only [List.replicate_succ, List.cons_append]
    rw [iv_step]
    simp only [List.headD_cons, List.length_nil, List.drop_zero, Bool.false_eq_true, if_false, List.tail_cons, ih, List.drop_drop]
    rw [← List.append_assoc]
    congr 1
    · cases m <;> simp [List.take_succ_cons]
    · rw [Nat.add_comm]
theorem iv_drop (n : Nat) (P : List (List Int)) (D : List Bool) : ∀ (l : List Int) (m : List β), runW ι (iv (List.replicate n [] ++ P) (List.replicate n true ++ D) l []).1 (iv (List.replicate n [] ++ P) (List.replicate n true ++ D) l []).2 m = (l.take n).map ι ++ runW ι (iv P D (l.drop n) []).1 (iv P D (l.drop n) []).2 m := by
  induction n with
  | zero => intro l m; simp
  | succ n ih =>
    intro l m
    simp only [List.replicate_succ, List.cons_append]
    rw [iv_step]
    simp only [List.headD_cons, List.length_nil, List.drop_zero, if_true, List.tail_cons, ih, List.drop_drop]
    rw [← List.append_assoc, ← List.map_append, Nat.add_comm 1 n]
    congr 2
    cases l <;> simp [List.take_succ_cons]
theorem iv_run : ∀ (e : List Part) (l : List Int) (m : List β), Fits e → fromS e = l.length → (∀ x ∈ l, scalar x) → runW ι (iv (spP e) (dv e) l []).1 (iv (spP e) (dv e) l []).2 m = (runS ι (invGo e l) m).1
  | [], l, m, _, _, _ => by simp [spP, dv, iv, invGo, runS, runW]
  | p :: r, l, m, h, hn, hs => by
    have hu := fitsU_of h
    have hl := spP_len hu.tail
    have h1 := (hu p (.head _)).1
    have hr := fromS_posU hu.tail
    simp only [fromS] at hn
    rw [spP, dv, invGo]
    rcases (hu p (.head _)).2 with ⟨k, _⟩ | ⟨k, _⟩ | ⟨k, _, k2⟩
    · rw [if_neg (by omega), show dvP p = List.replicate p.n.toNat false from if_pos k, iv_keep, if_pos k, runS_cons, (ot_keep ι k m).1, (ot_keep ι k m).2]
      rw [if_neg (by omega)] at hn
      rw [iv_run r (l.drop p.n.toNat) _ h.tail (by rw [List.length_drop]; omega) (fun x hx => hs x (List.mem_of_mem_drop hx))]
    · rw [if_neg (by omega), show dvP p = List.replicate p.n.toNat true by unfold dvP; rw [if_neg (by omega), if_pos k], iv_drop, if_neg (by omega), if_pos k, runS_cons, (ot_put ι (p := putP _) rfl m).1, (ot_put ι (p := putP _) rfl m).2]
      rw [if_neg (by omega)] at hn
      rw [iv_run r (l.drop p.n.toNat) _ h.tail (by rw [List.length_drop]; omega) (fun x hx => hs x (List.mem_of_mem_drop hx))]
      rw [show dec (putP (enc (l.take p.n.toNat))).text = l.take p.n.toNat from dec_enc (fun x hx => hs x (List.mem_of_mem_take hx))]
    · rw [if_pos k, show dvP p = [] by unfold dvP; rw [if_neg (by omega), if_neg (by omega)], List.nil_append, iv_put ι _ (by omega), if_neg (by omega), if_neg (by omega), runS_cons, (ot_drop ι (p := dropP p.n) rfl m).1, (ot_drop ι (p := dropP p.n) rfl m).2]
      rw [if_pos k] at hn
      rw [iv_run r l _ h.tail (by omega) hs, show (dropP p.n).n.toNat = (dec p.text).length by show p.n.toNat = _; omega]; rfl
end
theorem iv_law {e : List Part} {s : ByteArray} (hv : valid s = true) (oe : Ok e) (hn : fromS e = (dec s).length) : closeF (iv (spP e) (dv e) (dec s) []).1 (iv (spP e) (dv e) (dec s) []).2 = invF e s := by
  obtain ⟨b1, b2, b3, b4, _⟩ := inv_law hv oe hn
  obtain ⟨_, _, b7⟩ := invE_z b1
  have hs := dec_scalar hv
  obtain ⟨f1, f2, f3, _⟩ := inv_run e (dec s) oe.fits hn hs
  have hD := iv_D (dv e) (spP e) (dec s) []
  have hm := madeN_sp oe.1
  refine close_is b2 (iv_sc _ _ _ _ hs (fun x hx => by cases hx)) (iv_len _ _ _ _) (by omega) fun ι l hl => ?_
  rw [iv_run ι e (dec s) l oe.fits hn hs, b7]
  unfold invR
  rw [maker_run ι f1 l]
/-! ### Cursors -/
def curW : List (List Int) → List Bool → Nat → Bool → Int
  | P, _, 0, ah => if ah then (P.headD []).length else 0
  | P, [], _, ah => (P.headD []).length
  | P, d :: D, i + 1, ah => (P.headD []).length + ((if d then 0 else 1) + curW P.tail D i ah)
theorem curW_addH (t : List Int) {P : List (List Int)} (h : 0 < P.length) (D : List Bool) (i : Nat) (ah : Bool) : curW (addH t P) D i ah = (if 0 < i ∨ ah = true then (t.length : Int) else 0) + curW P D i ah := by
  obtain ⟨a, r, rfl⟩ : ∃ a r, P = a :: r := by cases P with | nil => simp at h | cons a r => exact ⟨a, r, rfl⟩
  cases i with
  | zero => cases ah <;> simp [curW, addH]
  | succ i => cases D <;> simp [curW, addH] <;> omega
theorem curW_rep (b : Bool) (n : Nat) (P : List (List Int)) (D : List Bool) : ∀ (i : Nat) (ah : Bool), curW (List.replicate n [] ++ P) (List.replicate n b ++ D) i ah = if i < n then (if b then 0 else (i : Int)) else (if b then 0 else (n : Int)) + curW P D (i - n) ah := by
  induction n with
  | zero => intro i ah; simp
  | succ n ih =>
    intro i ah
    simp only [List.replicate_succ, List.cons_append]
    cases i with
    | zero => rw [if_pos (by omega)]; cases ah <;> cases b <;> simp [curW]
    | succ i =>
      simp only [curW, List.headD_cons, List.length_nil, List.tail_cons, Nat.add_sub_add_right]
      rw [ih]
      by_cases c : i < n
      · simp only [if_pos c, if_pos (show i + 1 < n + 1 by omega)]; cases b <;> simp <;> omega
      · simp only [if_neg c, if_neg (show ¬ i + 1 < n + 1 by omega)]; cases b <;> simp <;> omega
theorem curW_go : ∀ (e : List Part) (i : Nat) (ah : Bool), FitsU e → (i : Int) ≤ fromS e → curW (spP e) (dv e) i ah = curGo e i ah 0
  | [], i, ah, _, hi => by
    simp only [fromS] at hi
    obtain rfl : i = 0 := by omega
    cases ah <;> simp [spP, dv, curW, curGo]
  | p :: r, i, ah, h, hi => by
    have hl := spP_len h.tail
    have h1 := (h p (.head _)).1
    have hr := fromS_posU h.tail
    simp only [fromS] at hi
    rw [spP, dv]
    rcases (h p (.head _)).2 with ⟨k, _⟩ | ⟨k, _⟩ | ⟨k, _, k2⟩
    · rw [if_neg (by omega)] at hi
      have nc : ¬ (p.kind = 2 ∧ (0 < (i : Int) ∨ ah = true)) := fun w => by omega
      rw [if_neg (by omega), show dvP p = List.replicate p.n.toNat false from if_pos k, curW_rep]
      simp only [Bool.false_eq_true, if_false]
      by_cases z : i = 0
      · rw [cur_zero nc (by omega), if_pos (by omega)]; omega
      · by_cases l : i < p.n.toNat
        · rw [if_pos l, cur_part nc (by omega) (by omega), if_pos k]; omega
        · rw [if_neg l, cur_next nc (by omega) (by omega), if_pos k, curW_go r _ ah h.tail (by omega), cur_shift r _ ah (0 + p.n), show ((i - p.n.toNat : Nat) : Int) = i - p.n by omega]; omega
    · rw [if_neg (by omega)] at hi
      have nc : ¬ (p.kind = 2 ∧ (0 < (i : Int) ∨ ah = true)) := fun w => by omega
      rw [if_neg (by omega), show dvP p = List.replicate p.n.toNat true by unfold dvP; rw [if_neg (by omega), if_pos k], curW_rep]
      simp only [if_true]
      by_cases z : i = 0
      · rw [cur_zero nc (by omega), if_pos (by omega)]
      · by_cases l : i < p.n.toNat
        · rw [if_pos l, cur_part nc (by omega) (by omega), if_neg (by omega)]
        · rw [if_neg l, cur_next nc (by omega) (by omega), if_neg (by omega), curW_go r _ ah h.tail (by omega), show ((i - p.n.toNat : Nat) : Int) = i - p.n by omega]; omega
    · rw [if_pos k] at hi
      rw [if_pos k, show dvP p = [] by unfold dvP; rw [if_neg (by omega), if_neg (by omega)], List.nil_append, curW_addH _ (by omega), curW_go r i ah h.tail (by omega)]
      by_cases c : 0 < (i : Int) ∨ ah = true
      · rw [if_pos (c.imp (fun w => by omega) id), cur_put ⟨k, c⟩, cur_shift r _ ah (0 + p.n)]; omega
      · have hi0 : i = 0 := by omega
        have ha : ah = false := by cases ah; rfl; exact absurd (.inr rfl) c
        rw [if_neg (fun w => c (w.imp (fun w => by omega) id)), cur_zero (fun w => c w.2) (by omega), hi0, ha]
        have := cur_zeroF r h.tail
        simp only [Int.natCast_zero] at *
        omega
end Go.SK
