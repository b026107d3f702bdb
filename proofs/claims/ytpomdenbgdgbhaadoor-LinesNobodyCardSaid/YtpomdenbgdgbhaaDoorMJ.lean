/- Plain words: a text's lines, and the words in it. Plain words: where a pattern stands, found by its borders. Plain words: a pattern swapped, and lines moved. Plain words: lines moved. Plain words: what the calls on lines answer. Plain words: the parts of a swap, put together from the beginning on. -/
import Derived.Test.YtpomdenbgdgbhaaDoorMC
import Derived.Test.YtpomdenbgdgbhaaDoorMG
import Derived.Test.YtpomdenbgdgbhaaDoorMD
set_option linter.unusedVariables false
set_option linter.unusedSimpArgs false
set_option maxRecDepth 100000
namespace Go.SK
open Go
/-! ### Where lines begin -/
def begGo : List Int → Nat → List Nat
  | [], _ => []
  | c :: r, i => if c = 10 then (i + 1) :: begGo r (i + 1) else begGo r (i + 1)
def begs (l : List Int) : List Nat := 0 :: begGo l 0
theorem begGo_append : ∀ (a b : List Int) (i : Nat), begGo (a ++ b) i = begGo a i ++ begGo b (i + a.length)
  | [], b, i => by simp [begGo]
  | c :: r, b, i => by
    rw [List.cons_append, begGo, begGo, begGo_append r b (i + 1), List.length_cons, show i + 1 + r.length = i + (r.length + 1) by omega]
    split <;> rfl
theorem begGo_mem : ∀ (l : List Int) (i x : Nat), x ∈ begGo l i → i < x ∧ x ≤ i + l.length ∧ l[x - 1 - i]? = some 10
  | [], i, x, h => by simp [begGo] at h
  | c :: r, i, x, h => by
    rw [begGo] at h
    have key : x ∈ begGo r (i + 1) → i < x ∧ x ≤ i + (c :: r).length ∧ (c :: r)[x - 1 - i]? = some 10 := fun h => by
      obtain ⟨h1, h2, h3⟩ := begGo_mem r (i + 1) x h
      refine ⟨by omega, by rw [List.length_cons]; omega, ?_⟩
      rw [show x - 1 - i = (x - 1 - (i + 1)) + 1 by omega, List.getElem?_cons_succ]; exact h3
    split at h
    · rename_i hc
      rcases List.mem_cons.1 h with rfl | h
      · refine ⟨by omega, by rw [List.length_cons]; omega, ?_⟩
        rw [show i + 1 - 1 - i = 0 by omega, hc]; rfl
      · exact key h
    · exact key h
theorem begs_split (l : List Int) (at_ : Nat) (h : at_ ≤ l.length) : begs l = begs (l.take at_) ++ begGo (l.drop at_) at_ := by
  have := begGo_append (l.take at_) (l.drop at_) 0
  rw [List.take_append_drop, List.length_take, show min at_ l.length = at_ by omega, Nat.zero_add] at this
  unfold begs; rw [this]; rfl
theorem begs_take_le (l : List Int) (at_ : Nat) : ∀ x ∈ begs (l.take at_), x ≤ at_ := fun x hx => by
  rcases List.mem_cons.1 hx with rfl | hx
  · omega
  · have := (begGo_mem _ _ _ hx).2.1
    rw [List.length_take] at this; omega
theorem begs_le (l : List Int) : ∀ x ∈ begs l, x ≤ l.length := fun x hx => by
  have := begs_take_le l l.length x (by rw [List.take_of_length_le (Nat.le_refl _)]; exact hx)
  exact this
theorem begs_len (l : List Int) : 1 ≤ (begs l).length ∧ (begs l).length ≤ l.length + 1 := by
  have : ∀ (l : List Int) (i : Nat), (begGo l i).length ≤ l.length := by
    intro l
    induction l with
    | nil => intro i; simp [begGo]
    | cons c r ih => intro i; rw [begGo]; have := ih (i + 1); split <;> simp only [List.length_cons] <;> omega
  have := this l 0
  unfold begs; rw [List.length_cons]; omega
theorem begs_take_succ {l : List Int} {i : Nat} {c : Int} (h : i < l.length) (hc : l.getD i 0 = c) : begs (l.take (i + 1)) = if c = 10 then begs (l.take i) ++ [i + 1] else begs (l.take i) := by
  have hg : l.take (i + 1) = l.take i ++ [c] := by
    rw [List.take_add_one, List.getElem?_eq_getElem h]
    rw [List.getD_eq_getElem?_getD, List.getElem?_eq_getElem h] at hc
    simp only [Option.getD_some] at hc
    rw [hc]; rfl
  unfold begs
  rw [hg, begGo_append, List.length_take, show min i l.length = i by omega, Nat.zero_add, begGo]
  split
  · rfl
  · rw [begGo]; simp
/-! ### Where a line ends -/
def endOf (l : List Int) (k : Nat) : Nat := if k + 1 < (begs l).length then (begs l).getD (k + 1) 0 - 1 else l.length
theorem begs_zero (l : List Int) : (begs l).getD 0 0 = 0 := rfl
theorem begs_get_mem {l : List Int} {k : Nat} (h : k < (begs l).length) : (begs l).getD k 0 ∈ begs l := by
  rw [List.getD_eq_getElem?_getD, List.getElem?_eq_getElem h]; exact List.getElem_mem h
theorem begGo_sorted : ∀ (l : List Int) (i : Nat), (begGo l i).Pairwise (· < ·)
  | [], i => .nil
  | c :: r, i => by
    rw [begGo]
    split
    · exact .cons (fun x hx => (begGo_mem r (i + 1) x hx).1) (begGo_sorted r (i + 1))
    · exact begGo_sorted r (i + 1)
theorem begs_sorted (l : List Int) : (begs l).Pairwise (· < ·) := .cons (fun x hx => by have := (begGo_mem l 0 x hx).1; omega) (begGo_sorted l 0)
theorem begs_lt {l : List Int} {j k : Nat} (h : j < k) (hk : k < (begs l).length) : (begs l).getD j 0 < (begs l).getD k 0 := by
  rw [List.getD_eq_getElem?_getD, List.getD_eq_getElem?_getD, List.getElem?_eq_getElem hk, List.getElem?_eq_getElem (show j < _ by omega)]
  exact List.pairwise_iff_getElem.1 (begs_sorted l) j k (by omega) hk h
theorem begs_end {l : List Int} {k : Nat} (h : k < (begs l).length) : (begs l).getD k 0 ≤ endOf l k ∧ endOf l k ≤ l.length := by
  unfold endOf
  split
  · rename_i h1
    have := begs_lt (l := l) (show k < k + 1 by omega) h1
    have h2 := begs_le l _ (begs_get_mem h1)
    omega
  · exact ⟨begs_le l _ (begs_get_mem h), Nat.le_refl _⟩
/-! ### Which line a place is on -/
def lineAt (l : List Int) (at_ : Nat) : Nat := (begGo (l.take at_) 0).length
def begAt (l : List Int) (at_ : Nat) : Nat := (begs (l.take at_)).getLastD 0
theorem lineAt_is {l : List Int} {at_ lo : Nat} (h : at_ ≤ l.length) (hlo : lo < (begs l).length) (h1 : (begs l).getD lo 0 ≤ at_) (h2 : lo + 1 = (begs l).length ∨ at_ < (begs l).getD (lo + 1) 0) : lo = lineAt l at_ ∧ (begs l).getD lo 0 = begAt l at_ := by
  have hs := begs_split l at_ h
  have hA := begs_take_le l at_
  have hB : ∀ x ∈ begGo (l.drop at_) at_, at_ < x := fun x hx => (begGo_mem _ _ _ hx).1
  have hl : (begs (l.take at_)).length = lineAt l at_ + 1 := by unfold begs lineAt; rw [List.length_cons]
  have hlen : (begs l).length = (begs (l.take at_)).length + (begGo (l.drop at_) at_).length := by rw [hs, List.length_append]
  have getL : ∀ k, k < (begs (l.take at_)).length → (begs l).getD k 0 = (begs (l.take at_)).getD k 0 := fun k hk => by
    rw [hs, List.getD_eq_getElem?_getD, List.getElem?_append_left hk, List.getD_eq_getElem?_getD]
  have getR : ∀ k, (begs (l.take at_)).length ≤ k → k < (begs l).length → at_ < (begs l).getD k 0 := fun k hk hk2 => by
    rw [hs, List.getD_eq_getElem?_getD, List.getElem?_append_right hk, List.getElem?_eq_getElem (by omega)]
    exact hB _ (List.getElem_mem _)
  have g1 : lo < (begs (l.take at_)).length := by
    rcases Nat.lt_or_ge lo (begs (l.take at_)).length with c | c
    · exact c
    · have := getR lo c hlo; omega
  have g2 : (begs (l.take at_)).length ≤ lo + 1 := by
    rcases h2 with h2 | h2
    · omega
    · rcases Nat.lt_or_ge (lo + 1) (begs (l.take at_)).length with c | c
      · have h3 := getL _ c
        have h4 := hA ((begs (l.take at_)).getD (lo + 1) 0) (by rw [List.getD_eq_getElem?_getD, List.getElem?_eq_getElem c]; exact List.getElem_mem c)
        omega
      · exact c
  have e : lo = lineAt l at_ := by omega
  refine ⟨e, ?_⟩
  rw [getL lo g1]
  unfold begAt
  rw [List.getLastD_eq_getLast?, List.getLast?_eq_getElem?, List.getD_eq_getElem?_getD, show (begs (l.take at_)).length - 1 = lo by omega]
theorem lineAt_lt {l : List Int} {at_ : Nat} (h : at_ ≤ l.length) : lineAt l at_ < (begs l).length ∧ (begs l).getD (lineAt l at_) 0 = begAt l at_ ∧ begAt l at_ ≤ at_ ∧ (lineAt l at_ + 1 = (begs l).length ∨ at_ < (begs l).getD (lineAt l at_ + 1) 0) := by
  have hs := begs_split l at_ h
  have hl : (begs (l.take at_)).length = lineAt l at_ + 1 := by unfold begs lineAt; rw [List.length_cons]
  have hlen : (begs l).length = (begs (l.take at_)).length + (begGo (l.drop at_) at_).length := by rw [hs, List.length_append]
  have e1 : (begs l).getD (lineAt l at_) 0 = begAt l at_ := by
    unfold begAt
    rw [hs, List.getD_eq_getElem?_getD, List.getElem?_append_left (by omega), List.getLastD_eq_getLast?, List.getLast?_eq_getElem?, hl, Nat.add_sub_cancel]
  have hm : begAt l at_ ∈ begs (l.take at_) := by
    unfold begAt
    rw [List.getLastD_eq_getLast?, List.getLast?_eq_getElem?, List.getElem?_eq_getElem (by omega)]; exact List.getElem_mem _
  refine ⟨by omega, e1, begs_take_le l at_ _ hm, ?_⟩
  rcases Nat.lt_or_ge (lineAt l at_ + 1) (begs l).length with c | c
  · refine .inr ?_
    rw [hs, List.getD_eq_getElem?_getD, List.getElem?_append_right (by omega), List.getElem?_eq_getElem (by omega)]
    exact (begGo_mem _ _ _ (List.getElem_mem _)).1
  · exact .inl (by omega)
/-- A line on which a place is: between its beginning and its end. -/
theorem line_of {l : List Int} {k at_ : Nat} (hk : k < (begs l).length) (h1 : (begs l).getD k 0 ≤ at_) (h2 : at_ ≤ endOf l k) : lineAt l at_ = k ∧ begAt l at_ = (begs l).getD k 0 := by
  have hle := (begs_end hk).2
  have := lineAt_is (l := l) (at_ := at_) (lo := k) (by omega) hk h1 (by
    unfold endOf at h2
    split at h2
    · rename_i c
      have := begs_lt (l := l) (show k < k + 1 by omega) c
      exact .inr (by omega)
    · exact .inl (by omega))
  exact ⟨this.1.symm, this.2.symm⟩
theorem end_of {l : List Int} {at_ : Nat} (h : at_ ≤ l.length) : at_ ≤ endOf l (lineAt l at_) := by
  obtain ⟨a, b, c, d⟩ := lineAt_lt h
  unfold endOf
  split
  · rcases d with d | d
    · omega
    · omega
  · exact h
/-! ### Words -/
def lcls (c : Int) : Int := if c = 32 ∨ c = 9 ∨ c = 10 then 0 else if (97 ≤ c ∧ c ≤ 122) ∨ (65 ≤ c ∧ c ≤ 90) ∨ (48 ≤ c ∧ c ≤ 57) ∨ c = 95 ∨ 127 < c then 1 else 2
def runLen (k : Int) : List Int → Nat
  | [] => 0
  | c :: r => if lcls c = k then runLen k r + 1 else 0
theorem runLen_le (k : Int) : ∀ l, runLen k l ≤ l.length
  | [] => Nat.le_refl _
  | c :: r => by rw [runLen]; have := runLen_le k r; split <;> simp only [List.length_cons] <;> omega
/-- How far a stretch of one class goes back from a place, and on from it. -/
def backN (l : List Int) (k : Int) (i : Nat) : Nat := i - runLen k (l.take i).reverse
def fwdN (l : List Int) (k : Int) (i : Nat) : Nat := i + runLen k (l.drop i)
theorem back_step {l : List Int} {k : Int} {i : Nat} {c : Int} (h : i < l.length) (hc : l.getD i 0 = c) : backN l k (i + 1) = if lcls c = k then backN l k i else i + 1 := by
  have hg : l.take (i + 1) = l.take i ++ [c] := by
    rw [List.take_add_one, List.getElem?_eq_getElem h]
    rw [List.getD_eq_getElem?_getD, List.getElem?_eq_getElem h] at hc
    simp only [Option.getD_some] at hc
    rw [hc]; rfl
  unfold backN
  rw [hg, List.reverse_append, List.reverse_singleton, List.singleton_append, runLen]
  have := runLen_le k (l.take i).reverse
  rw [List.length_reverse, List.length_take] at this
  split <;> omega
theorem back_zero (l : List Int) (k : Int) : backN l k 0 = 0 := by unfold backN; omega
theorem fwd_step {l : List Int} {k : Int} {i : Nat} {c : Int} (h : i < l.length) (hc : l.getD i 0 = c) : fwdN l k i = if lcls c = k then fwdN l k (i + 1) else i := by
  have hg : l.drop i = c :: l.drop (i + 1) := by
    rw [List.drop_eq_getElem_cons h]
    rw [List.getD_eq_getElem?_getD, List.getElem?_eq_getElem h] at hc
    simp only [Option.getD_some] at hc
    rw [hc]
  unfold fwdN
  rw [hg, runLen]
  split <;> omega
theorem fwd_end {l : List Int} {k : Int} : fwdN l k l.length = l.length := by unfold fwdN; rw [List.drop_eq_nil_of_le (Nat.le_refl _), runLen]; omega
end Go.SK

set_option linter.unusedVariables false
set_option linter.unusedSimpArgs false
set_option maxRecDepth 100000
namespace Go.SK
open Go
def Cand (p u : List Int) (k : Nat) : Prop := k ≤ p.length ∧ p.take k <:+ u
def Sta (p u : List Int) (k : Nat) : Prop := Cand p u k ∧ ∀ j, Cand p u j → j ≤ k
def Wh (p u : List Int) (c : Int) (k : Nat) : Prop := Cand p u k ∧ ∀ j, Cand p u j → j < p.length → p.getD j 0 = c → j ≤ k
/-- The table of borders, right up to N. -/
def Tab (p : List Int) (b : List Nat) (N : Nat) : Prop := ∀ k, 1 ≤ k → k ≤ N → Sta p ((p.take k).drop 1) (b.getD k 0)
section
variable {p u : List Int} {c : Int} {k : Nat}
theorem take_succ_get {p : List Int} {k : Nat} {x : Int} (h : k < p.length) (hx : p.getD k 0 = x) : p.take (k + 1) = p.take k ++ [x] := by
  rw [List.take_add_one, List.getElem?_eq_getElem h]
  rw [List.getD_eq_getElem?_getD, List.getElem?_eq_getElem h] at hx
  simp only [Option.getD_some] at hx
  rw [hx]; rfl
theorem suf_one {a u : List Int} {x c : Int} : a ++ [x] <:+ u ++ [c] ↔ a <:+ u ∧ x = c := by
  constructor
  · rintro ⟨t, ht⟩
    rw [← List.append_assoc] at ht
    obtain ⟨h1, h2⟩ := List.append_inj' ht rfl
    exact ⟨⟨t, h1⟩, by simpa using h2⟩
  · rintro ⟨⟨t, ht⟩, rfl⟩
    exact ⟨t, by rw [← List.append_assoc, ht]⟩
theorem cand_succ : Cand p (u ++ [c]) (k + 1) ↔ Cand p u k ∧ k < p.length ∧ p.getD k 0 = c := by
  constructor
  · rintro ⟨h1, h2⟩
    rw [take_succ_get (show k < p.length by omega) rfl, suf_one] at h2
    exact ⟨⟨by omega, h2.1⟩, by omega, h2.2⟩
  · rintro ⟨⟨h1, h2⟩, h3, h4⟩
    refine ⟨by omega, ?_⟩
    rw [take_succ_get h3 h4, suf_one]
    exact ⟨h2, rfl⟩
theorem cand_zero (p u : List Int) : Cand p u 0 := ⟨Nat.zero_le _, List.nil_suffix⟩
theorem sta_nil (p : List Int) : Sta p [] 0 := ⟨cand_zero p [], fun j ⟨h1, h2⟩ => by
  have := h2.length_le
  rw [List.length_take, List.length_nil] at this; omega⟩
theorem cand_len (h : Cand p u k) : k ≤ u.length := by
  have := h.2.length_le
  rw [List.length_take] at this
  have := h.1; omega
theorem Sta.wh (h : Sta p u k) : Wh p u c k := ⟨h.1, fun j hj _ _ => h.2 j hj⟩
/-- A shorter candidate is a border of a longer one. -/
theorem cand_border {j : Nat} (h : Cand p u k) (hj : Cand p u j) (hlt : j < k) : Cand p ((p.take k).drop 1) j := by
  refine ⟨hj.1, ?_⟩
  have h1 : p.take j <:+ p.take k := List.suffix_of_suffix_length_le hj.2 h.2 (by rw [List.length_take, List.length_take]; omega)
  exact List.suffix_of_suffix_length_le h1 (List.drop_suffix 1 _) (by rw [List.length_drop, List.length_take, List.length_take]; have := h.1; omega)
theorem border_cand {j : Nat} (h : Cand p u k) (hj : Cand p ((p.take k).drop 1) j) (hk : 1 ≤ k) : Cand p u j ∧ j < k := by
  refine ⟨⟨hj.1, (hj.2.trans (List.drop_suffix 1 _)).trans h.2⟩, ?_⟩
  have := cand_len hj
  rw [List.length_drop, List.length_take] at this
  omega
theorem Wh.back {b : List Nat} {N : Nat} (h : Wh p u c k) (ht : Tab p b N) (hk : 1 ≤ k) (hN : k ≤ N) (hc : k = p.length ∨ p.getD k 0 ≠ c) : Wh p u c (b.getD k 0) ∧ b.getD k 0 < k := by
  have hs := ht k hk hN
  obtain ⟨h1, h2⟩ := border_cand h.1 hs.1 hk
  refine ⟨⟨h1, fun j hj hm he => ?_⟩, h2⟩
  have h3 := h.2 j hj hm he
  have h4 : j ≠ k := by rintro rfl; rcases hc with hc | hc; exact absurd hc (by omega); exact hc he
  exact hs.2 j (cand_border h.1 hj (by omega))
theorem Wh.hit (h : Wh p u c k) (hk : k < p.length) (hc : p.getD k 0 = c) : Sta p (u ++ [c]) (k + 1) := by
  refine ⟨cand_succ.2 ⟨h.1, hk, hc⟩, fun j hj => ?_⟩
  cases j with
  | zero => omega
  | succ j =>
    obtain ⟨h1, h2, h3⟩ := cand_succ.1 hj
    have := h.2 j h1 h2 h3; omega
theorem Wh.miss (h : Wh p u c 0) (hc : p.getD 0 0 ≠ c) : Sta p (u ++ [c]) 0 := by
  refine ⟨cand_zero _ _, fun j hj => ?_⟩
  cases j with
  | zero => omega
  | succ j =>
    obtain ⟨h1, h2, h3⟩ := cand_succ.1 hj
    have h4 := h.2 j h1 h2 h3
    obtain rfl : j = 0 := by omega
    exact absurd h3 hc
end
/-! ### The table -/
structure BT (p : List Int) (i k : Nat) (b : List Nat) : Prop where
  len : b.length = p.length + 1
  i1 : 1 ≤ i
  im : i ≤ p.length
  sta : Sta p ((p.take i).drop 1) k
  tab : Tab p b i
theorem drop1_take {p : List Int} {i : Nat} {c : Int} (h1 : 1 ≤ i) (h : i < p.length) (hc : p.getD i 0 = c) : (p.take (i + 1)).drop 1 = (p.take i).drop 1 ++ [c] := by
  rw [take_succ_get h hc, List.drop_append_of_le_length (by rw [List.length_take]; omega)]
theorem BT.start {p : List Int} (h : p ≠ []) : BT p 1 0 (List.replicate (p.length + 1) 0) := by
  cases p with
  | nil => exact absurd rfl h
  | cons x r =>
    refine ⟨by simp, Nat.le_refl _, by simp, sta_nil _, fun k h1 h2 => ?_⟩
    obtain rfl : k = 1 := by omega
    exact sta_nil _
theorem BT.step {p : List Int} {i k k' : Nat} {b : List Nat} (h : BT p i k b) (hi : i < p.length) (hs : Sta p ((p.take i).drop 1 ++ [p.getD i 0]) k') : BT p (i + 1) k' (b.set (i + 1) k') := by
  have hs' : Sta p ((p.take (i + 1)).drop 1) k' := by rw [drop1_take h.i1 hi rfl]; exact hs
  refine ⟨by rw [List.length_set, h.len], by omega, by omega, hs', fun q h1 h2 => ?_⟩
  rcases Nat.lt_or_ge i q with c | c
  · obtain rfl : q = i + 1 := by omega
    rw [List.getD_eq_getElem?_getD, List.getElem?_set_self (by rw [h.len]; omega)]
    exact hs'
  · rw [List.getD_eq_getElem?_getD, List.getElem?_set_ne (by omega), ← List.getD_eq_getElem?_getD]
    exact h.tab q h1 c
theorem BT.small {p : List Int} {i k : Nat} {b : List Nat} (h : BT p i k b) : k < i := by
  have := cand_len h.sta.1
  rw [List.length_drop, List.length_take] at this
  have := h.i1; have := h.im; omega
/-! ### Where it stands -/
def stands (p t : List Int) (q : Nat) : Bool := p.isPrefixOf (t.drop q)
theorem stands_iff {p t : List Int} {q : Nat} : stands p t q = true ↔ p <+: t.drop q := List.isPrefixOf_iff_prefix
theorem stands_len {p t : List Int} {q : Nat} (h : stands p t q = true) (hp : p ≠ []) : q + p.length ≤ t.length := by
  have h1 := (stands_iff.1 h).length_le
  rw [List.length_drop] at h1
  have : 0 < p.length := List.length_pos_iff.2 hp
  omega
theorem stands_suf {p t : List Int} {i : Nat} (hi : i ≤ t.length) : p <:+ t.take i ↔ p.length ≤ i ∧ stands p t (i - p.length) = true := by
  constructor
  · rintro ⟨s, hs⟩
    have hl : s.length + p.length = i := by have := congrArg List.length hs; rw [List.length_append, List.length_take] at this; omega
    refine ⟨by omega, stands_iff.2 ⟨t.drop i, ?_⟩⟩
    have h1 : t = s ++ (p ++ t.drop i) := by rw [← List.append_assoc, hs, List.take_append_drop]
    have h2 : t.drop s.length = p ++ t.drop i := by
      conv => lhs; rw [h1]
      exact List.drop_left
    rw [show i - p.length = s.length by omega, h2]
  · rintro ⟨h1, h2⟩
    obtain ⟨r, hr⟩ := stands_iff.1 h2
    refine ⟨t.take (i - p.length), ?_⟩
    have h3 : t.take i = t.take (i - p.length) ++ (t.drop (i - p.length)).take p.length := by
      rw [← List.take_add, show i - p.length + p.length = i by omega]
    rw [h3, ← hr, List.take_left]
theorem sta_full {p u : List Int} {k : Nat} (h : Sta p u k) : k = p.length ↔ p <:+ u := by
  constructor
  · rintro rfl; have := h.1.2; rw [List.take_of_length_le (Nat.le_refl _)] at this; exact this
  · intro hp
    have := h.2 p.length ⟨Nat.le_refl _, by rw [List.take_of_length_le (Nat.le_refl _)]; exact hp⟩
    have := h.1.1; omega
theorem filt1 (f : Nat → Bool) (x : Nat) : [x].filter f = if f x = true then [x] else [] := by cases h : f x <;> simp [h]
/-! ### All places -/
def findF (p t : List Int) : List Nat := (List.range t.length).filter (stands p t)
def foundTo (p t : List Int) (i : Nat) : List Nat := (List.range (i + 1 - p.length)).filter (stands p t)
theorem found_zero {p t : List Int} (h : p ≠ []) : foundTo p t 0 = [] := by
  have : 0 < p.length := List.length_pos_iff.2 h
  unfold foundTo; rw [show 0 + 1 - p.length = 0 by omega]; rfl
theorem found_hit {p t : List Int} {i : Nat} (hm : p.length ≤ i + 1) (h : stands p t (i + 1 - p.length) = true) : foundTo p t (i + 1) = foundTo p t i ++ [i + 1 - p.length] := by
  unfold foundTo
  rw [show i + 1 + 1 - p.length = (i + 1 - p.length) + 1 by omega, List.range_succ, List.filter_append, filt1, if_pos h]
theorem found_miss {p t : List Int} {i : Nat} (h : ¬ (p.length ≤ i + 1 ∧ stands p t (i + 1 - p.length) = true)) : foundTo p t (i + 1) = foundTo p t i := by
  unfold foundTo
  rcases Nat.lt_or_ge (i + 1) p.length with c | c
  · rw [show i + 1 + 1 - p.length = i + 1 - p.length by omega]
  · have hf : stands p t (i + 1 - p.length) = false := by
      cases hh : stands p t (i + 1 - p.length) with
      | false => rfl
      | true => exact absurd ⟨c, hh⟩ h
    rw [show i + 1 + 1 - p.length = (i + 1 - p.length) + 1 by omega, List.range_succ, List.filter_append, filt1, if_neg (by rw [hf]; decide), List.append_nil]
theorem found_all {p t : List Int} (hp : p ≠ []) : foundTo p t t.length = findF p t := by
  have h0 : 0 < p.length := List.length_pos_iff.2 hp
  unfold foundTo findF
  obtain ⟨d, hd⟩ : ∃ d, t.length = (t.length + 1 - p.length) + d := ⟨t.length - (t.length + 1 - p.length), by omega⟩
  have key : ∀ d, (t.length + 1 - p.length) + d ≤ t.length → (List.range ((t.length + 1 - p.length) + d)).filter (stands p t) = (List.range (t.length + 1 - p.length)).filter (stands p t) := by
    intro d
    induction d with
    | zero => intro _; rfl
    | succ d ih =>
      intro h
      rw [← Nat.add_assoc, List.range_succ, List.filter_append, ih (by omega), filt1]
      have hf : stands p t (t.length + 1 - p.length + d) = false := by
        cases hh : stands p t (t.length + 1 - p.length + d) with
        | false => rfl
        | true => have := stands_len hh hp; omega
      rw [if_neg (by rw [hf]; decide), List.append_nil]
  have h2 := key d (by omega)
  rw [← hd] at h2
  exact h2.symm
/-! ### Places apart -/
def gsGo (p t : List Int) : Nat → Nat → Nat → List Nat
  | 0, _, _ => []
  | f + 1, i, s => if i < s then gsGo p t f (i + 1) s else if stands p t i = true then i :: gsGo p t f (i + 1) (i + p.length) else gsGo p t f (i + 1) s
def apartF (p t : List Int) : List Nat := gsGo p t t.length 0 0
theorem gs_same (p t : List Int) : ∀ (f i s s' : Nat), s ≤ i → s' ≤ i → gsGo p t f i s = gsGo p t f i s'
  | 0, i, s, s', _, _ => rfl
  | f + 1, i, s, s', h, h' => by
    simp only [gsGo]
    rw [if_neg (show ¬ i < s by omega), if_neg (show ¬ i < s' by omega), gs_same p t f (i + 1) s s' (by omega) (by omega)]
theorem gs_none (p t : List Int) : ∀ (d f i s : Nat), s ≤ i → (∀ x, i ≤ x → x < i + d → stands p t x = false) → d ≤ f → gsGo p t f i s = gsGo p t (f - d) (i + d) s
  | 0, f, i, s, _, _, _ => rfl
  | d + 1, 0, i, s, _, _, h => by omega
  | d + 1, f + 1, i, s, h, hx, hd => by
    rw [gsGo, if_neg (by omega), if_neg (by rw [hx i (Nat.le_refl _) (by omega)]; decide), gs_none p t d f (i + 1) s (by omega) (fun x h1 h2 => hx x (by omega) (by omega)) (by omega)]
    rw [show f + 1 - (d + 1) = f - d by omega, show i + 1 + d = i + (d + 1) by omega]
theorem gs_skip (p t : List Int) : ∀ (d f i : Nat), d ≤ f → gsGo p t f i (i + d) = gsGo p t (f - d) (i + d) (i + d)
  | 0, f, i, _ => rfl
  | d + 1, 0, i, h => by omega
  | d + 1, f + 1, i, h => by
    rw [gsGo, if_pos (by omega)]
    have := gs_skip p t d f (i + 1) (by omega)
    rw [show i + 1 + d = i + (d + 1) by omega] at this
    rw [this, show f + 1 - (d + 1) = f - d by omega]
/-- From the last end on the next place, then on behind it. -/
theorem gs_next {p t : List Int} {e q : Nat} (hp : p ≠ []) (he : e ≤ q) (hn : ∀ x, e ≤ x → x < q → stands p t x = false) (hq : stands p t q = true) : gsGo p t (t.length - e) e e = q :: gsGo p t (t.length - (q + p.length)) (q + p.length) (q + p.length) := by
  have hl := stands_len hq hp
  have h0 : 0 < p.length := List.length_pos_iff.2 hp
  rw [gs_none p t (q - e) (t.length - e) e e (Nat.le_refl _) (fun x h1 h2 => hn x h1 (by omega)) (by omega), show e + (q - e) = q by omega, show t.length - e - (q - e) = (t.length - q - 1) + 1 by omega, gsGo, if_neg (by omega), if_pos hq]
  have := gs_skip p t (p.length - 1) (t.length - q - 1) (q + 1) (by omega)
  rw [show q + 1 + (p.length - 1) = q + p.length by omega] at this
  rw [this, show t.length - q - 1 - (p.length - 1) = t.length - (q + p.length) by omega]
theorem gs_stop {p t : List Int} {e : Nat} (hp : p ≠ []) (he : e ≤ t.length) (hn : ∀ x, e ≤ x → x + p.length ≤ t.length → stands p t x = false) : gsGo p t (t.length - e) e e = [] := by
  rw [gs_none p t (t.length - e) (t.length - e) e e (Nat.le_refl _) (fun x h1 h2 => by
    cases hh : stands p t x with
    | false => rfl
    | true => have := stands_len hh hp; have h3 := hn x h1 this; rw [h3] at hh; exact absurd hh (by decide)) (Nat.le_refl _), Nat.sub_self]
  rfl
/-! ### Finding, a code point at a time -/
structure FI (p t : List Int) (apart : Bool) (i k e : Nat) (out : List Nat) : Prop where
  ne : p ≠ []
  ile : i ≤ t.length
  ei : e ≤ i
  sta : Sta p ((t.take i).drop e) k
  e0 : apart = false → e = 0 ∧ out = foundTo p t i
  e1 : apart = true → k < p.length ∧ out ++ gsGo p t (t.length - e) e e = apartF p t ∧ ∀ x, e ≤ x → x + p.length ≤ i → stands p t x = false
theorem FI.start {p t : List Int} {apart : Bool} (h : p ≠ []) : FI p t apart 0 0 0 [] :=
  ⟨h, Nat.zero_le _, Nat.le_refl _, by rw [List.take_zero, List.drop_zero]; exact sta_nil p, fun _ => ⟨rfl, (found_zero h).symm⟩, fun _ => ⟨List.length_pos_iff.2 h, by rw [Nat.sub_zero]; rfl, fun x _ h2 => by have := List.length_pos_iff.2 h; omega⟩⟩
theorem take_drop_one {t : List Int} {i e : Nat} {c : Int} (h : i < t.length) (he : e ≤ i) (hc : t.getD i 0 = c) : (t.take (i + 1)).drop e = (t.take i).drop e ++ [c] := by
  rw [take_succ_get h hc, List.drop_append_of_le_length (by rw [List.length_take]; omega)]
theorem FI.suf {p t : List Int} {apart : Bool} {i k k' e : Nat} {out : List Nat} {c : Int} (h : FI p t apart i k e out) (hi : i < t.length) (hc : t.getD i 0 = c) (hs : Sta p ((t.take i).drop e ++ [c]) k') : Sta p ((t.take (i + 1)).drop e) k' ∧ (k' = p.length ↔ p.length ≤ i + 1 - e ∧ stands p t (i + 1 - p.length) = true) := by
  have hs' : Sta p ((t.take (i + 1)).drop e) k' := by rw [take_drop_one hi h.ei hc]; exact hs
  refine ⟨hs', ?_⟩
  rw [sta_full hs']
  have he := h.ei
  constructor
  · intro hp
    have h1 := (stands_suf (by omega)).1 (hp.trans (List.drop_suffix e _))
    have h2 := hp.length_le
    rw [List.length_drop, List.length_take] at h2
    exact ⟨by omega, h1.2⟩
  · rintro ⟨h1, h2⟩
    have h3 := (stands_suf (p := p) (t := t) (i := i + 1) (by omega)).2 ⟨by omega, h2⟩
    exact List.suffix_of_suffix_length_le h3 (List.drop_suffix e _) (by rw [List.length_drop, List.length_take]; omega)
theorem FI.hit {p t : List Int} {apart : Bool} {i k e : Nat} {out : List Nat} {c : Int} (h : FI p t apart i k e out) (hi : i < t.length) (hc : t.getD i 0 = c) (hs : Sta p ((t.take i).drop e ++ [c]) p.length) : p.length ≤ i + 1 ∧ FI p t apart (i + 1) (if apart = true then 0 else p.length) (if apart = true then i + 1 else e) (out ++ [i + 1 - p.length]) := by
  obtain ⟨h1, h2⟩ := h.suf hi hc hs
  obtain ⟨h3, h4⟩ := h2.1 rfl
  refine ⟨by omega, h.ne, by omega, ?_, ?_, fun ha => ?_, fun ha => ?_⟩
  · split
    · omega
    · have := h.ei; omega
  · split
    · rw [List.drop_eq_nil_of_le (by rw [List.length_take]; omega)]; exact sta_nil p
    · exact h1
  · obtain ⟨a, b⟩ := h.e0 ha
    rw [if_neg (by rw [ha]; decide)]
    exact ⟨a, by rw [b]; exact (found_hit (by omega) h4).symm⟩
  · obtain ⟨a, b, d⟩ := h.e1 ha
    rw [if_pos ha, if_pos ha]
    refine ⟨List.length_pos_iff.2 h.ne, ?_, fun x h5 h6 => ?_⟩
    · rw [← b, gs_next h.ne (q := i + 1 - p.length) (by omega) (fun x h5 h6 => d x h5 (by omega)) h4, show i + 1 - p.length + p.length = i + 1 by omega]
      simp
    · have := List.length_pos_iff.2 h.ne; omega
theorem FI.miss {p t : List Int} {apart : Bool} {i k k' e : Nat} {out : List Nat} {c : Int} (h : FI p t apart i k e out) (hi : i < t.length) (hc : t.getD i 0 = c) (hs : Sta p ((t.take i).drop e ++ [c]) k') (hk : k' ≠ p.length) : FI p t apart (i + 1) k' e out := by
  obtain ⟨h1, h2⟩ := h.suf hi hc hs
  have hn : ¬ (p.length ≤ i + 1 - e ∧ stands p t (i + 1 - p.length) = true) := fun x => hk (h2.2 x)
  refine ⟨h.ne, by omega, by have := h.ei; omega, h1, fun ha => ?_, fun ha => ?_⟩
  · obtain ⟨a, b⟩ := h.e0 ha
    subst a
    exact ⟨rfl, by rw [b]; exact (found_miss (by rw [Nat.sub_zero] at hn; exact hn)).symm⟩
  · obtain ⟨a, b, d⟩ := h.e1 ha
    refine ⟨by have := h1.1.1; omega, b, fun x h5 h6 => ?_⟩
    rcases Nat.lt_or_ge (x + p.length) (i + 1) with c' | c'
    · exact d x h5 (by omega)
    · cases hh : stands p t x with
      | false => rfl
      | true => exact absurd ⟨by omega, by rw [show i + 1 - p.length = x by omega]; exact hh⟩ hn
theorem FI.done0 {p t : List Int} {k e : Nat} {out : List Nat} (h : FI p t false t.length k e out) : out = findF p t := by rw [(h.e0 rfl).2, found_all h.ne]
theorem FI.done1 {p t : List Int} {k e : Nat} {out : List Nat} (h : FI p t true t.length k e out) : out = apartF p t := by
  obtain ⟨a, b, d⟩ := h.e1 rfl
  rw [gs_stop h.ne h.ei d, List.append_nil] at b
  exact b
end Go.SK

set_option linter.unusedVariables false
set_option linter.unusedSimpArgs false
set_option maxRecDepth 100000
namespace Go.SK
open Go
/-! ### Parts put together -/
theorem more_keep {q : Part} (a b : Int) : (q.more (keepP a)).more (keepP b) = q.more (keepP (a + b)) := by
  unfold Part.more keepP
  simp only [Part.mk.injEq, true_and]
  refine ⟨by omega, ?_⟩
  apply ba_ext; simp
theorem more_keep0 (a b : Int) : (keepP a).more (keepP b) = keepP (a + b) := by
  unfold Part.more keepP
  simp only [Part.mk.injEq, true_and]
  apply ba_ext; simp
theorem addR_keep2 (r : List Part) {a b : Int} (ha : 0 ≤ a) (hb : 0 ≤ b) : addR (addR r (keepP a)) (keepP b) = addR r (keepP (a + b)) := by
  rcases Int.lt_or_le 0 a with h1 | h1
  · rcases Int.lt_or_le 0 b with h2 | h2
    · have na : ¬ (keepP a).n = 0 := by show ¬ a = 0; omega
      have nb : ¬ (keepP b).n = 0 := by show ¬ b = 0; omega
      have nab : ¬ (keepP (a + b)).n = 0 := by show ¬ a + b = 0; omega
      cases r with
      | nil =>
        rw [addR_nil na, addR_nil nab, addR_more (q := keepP a) nb rfl, more_keep0]
      | cons q r =>
        by_cases c : q.kind = 1
        · rw [addR_more na c, addR_more nb (by show q.kind = 1; exact c), addR_more nab c, more_keep]
        · rw [addR_push na c (.inl (by show (1 : Int) ≠ 2; decide)), addR_push nab c (.inl (by show (1 : Int) ≠ 2; decide)), addR_more (q := keepP a) nb rfl, more_keep0]
    · have : b = 0 := by omega
      subst this
      rw [addR_zero (show (keepP 0).n = 0 from rfl), Int.add_zero]
  · have : a = 0 := by omega
    subst this
    rw [addR_zero (show (keepP 0).n = 0 from rfl), Int.zero_add]
theorem addRs_filterZ : ∀ (ps r : List Part), (∀ p ∈ ps, fitsB p = true ∨ p.n = 0) → addRs r (ps.filter fitsB) = addRs r ps
  | [], r, _ => rfl
  | p :: ps, r, h => by
    have ih := fun r => addRs_filterZ ps r (fun q hq => h q (.tail _ hq))
    by_cases c : fitsB p = true
    · rw [List.filter_cons_of_pos c, addRs_cons, addRs_cons, ih]
    · rw [List.filter_cons_of_neg c, ih, addRs_cons, addR_zero ((h p (.head _)).resolve_left c)]
/-! ### Swap -/
def swP (m : Int) (w : ByteArray) (n : Nat) : List Nat → Nat → List Part
  | [], a => [keepP ((n : Int) - a)]
  | i :: r, a => keepP ((i : Int) - a) :: putP w :: dropP m :: swP m w n r (i + m.toNat)
def rsGo (p t : List Int) (w : ByteArray) : Nat → Nat → Nat → List Part
  | 0, _, _ => []
  | f + 1, i, s => if i < s then rsGo p t w f (i + 1) s else if stands p t i = true then putP w :: dropP (p.length : Int) :: rsGo p t w f (i + 1) (i + p.length) else keepP 1 :: rsGo p t w f (i + 1) s
theorem rs_skip (p t : List Int) (w : ByteArray) : ∀ (d f i : Nat), d ≤ f → rsGo p t w f i (i + d) = rsGo p t w (f - d) (i + d) (i + d)
  | 0, f, i, _ => rfl
  | d + 1, 0, i, h => by omega
  | d + 1, f + 1, i, h => by
    rw [rsGo, if_pos (by omega)]
    have := rs_skip p t w d f (i + 1) (by omega)
    rw [show i + 1 + d = i + (d + 1) by omega] at this
    rw [this, show f + 1 - (d + 1) = f - d by omega]
theorem rs_sw {p t : List Int} (w : ByteArray) (hp : p ≠ []) : ∀ (f i a s : Nat) (r : List Part), a ≤ i → s ≤ i → i + f = t.length → addRs (addR r (keepP ((i : Int) - a))) (rsGo p t w f i s) = addRs r (swP p.length w t.length (gsGo p t f i s) a) := by
  intro f
  induction f using Nat.strongRecOn with
  | _ f ih =>
    intro i a s r ha hs hf
    cases f with
    | zero => rw [rsGo, gsGo, swP, addRs_cons, show t.length = i by omega]
    | succ f =>
      simp only [rsGo, gsGo, if_neg (show ¬ i < s by omega)]
      by_cases c : stands p t i = true
      · simp only [if_pos c]
        rw [swP, addRs_cons, addRs_cons, addRs_cons, addRs_cons, addRs_cons]
        have hl := stands_len c hp
        have h0 : 0 < p.length := List.length_pos_iff.2 hp
        have e1 := rs_skip p t w (p.length - 1) f (i + 1) (by omega)
        have e2 := gs_skip p t (p.length - 1) f (i + 1) (by omega)
        rw [show i + 1 + (p.length - 1) = i + p.length by omega] at e1 e2
        rw [e1, e2, show i + ((p.length : Nat) : Int).toNat = i + p.length by rw [Int.toNat_natCast]]
        have := ih (f - (p.length - 1)) (by omega) (i + p.length) (i + p.length) (i + p.length) (addR (addR (addR r (keepP ((i : Int) - a))) (putP w)) (dropP p.length)) (Nat.le_refl _) (Nat.le_refl _) (by omega)
        rw [Int.sub_self, addR_zero (show (keepP 0).n = 0 from rfl)] at this
        exact this
      · simp only [if_neg c]
        rw [addRs_cons, addR_keep2 r (by omega) (by decide)]
        have := ih f (by omega) (i + 1) a s r (by omega) (by omega) (by omega)
        rw [show ((i + 1 : Nat) : Int) - a = (i : Int) - a + 1 by omega] at this
        exact this
def swapF (p t : List Int) (w : ByteArray) : List Part := (addRs [] (swP p.length w t.length (apartF p t) 0)).reverse
def SwOk (m n : Nat) : List Nat → Nat → Prop
  | [], a => a ≤ n
  | i :: r, a => a ≤ i ∧ i + m ≤ n ∧ SwOk m n r (i + m)
theorem gs_ok {p t : List Int} (hp : p ≠ []) : ∀ (f i a s : Nat), a ≤ i → s ≤ i → i + f = t.length → SwOk p.length t.length (gsGo p t f i s) a := by
  intro f
  induction f using Nat.strongRecOn with
  | _ f ih =>
    intro i a s ha hs hf
    cases f with
    | zero => rw [gsGo]; show a ≤ t.length; omega
    | succ f =>
      simp only [gsGo, if_neg (show ¬ i < s by omega)]
      by_cases c : stands p t i = true
      · simp only [if_pos c]
        have hl := stands_len c hp
        have h0 : 0 < p.length := List.length_pos_iff.2 hp
        have e2 := gs_skip p t (p.length - 1) f (i + 1) (by omega)
        rw [show i + 1 + (p.length - 1) = i + p.length by omega] at e2
        refine ⟨ha, hl, ?_⟩
        rw [e2]
        exact ih (f - (p.length - 1)) (by omega) (i + p.length) (i + p.length) (i + p.length) (Nat.le_refl _) (Nat.le_refl _) (by omega)
      · simp only [if_neg c]
        exact ih f (by omega) (i + 1) a s (by omega) (by omega) (by omega)
theorem apart_ok {p t : List Int} (hp : p ≠ []) : SwOk p.length t.length (apartF p t) 0 := gs_ok hp t.length 0 0 0 (Nat.le_refl _) (Nat.le_refl _) (by omega)
theorem keep_fz {n : Int} (h : 0 ≤ n) (h1 : n ≤ 1099511627776) : fitsB (keepP n) = true ∨ (keepP n).n = 0 := by
  rcases Int.lt_or_le 0 n with c | c
  · exact .inl (fitsB_mk (show 1 ≤ n by omega) h1 (.inl ⟨rfl, rfl⟩))
  · exact .inr (show n = 0 by omega)
theorem put_fz {w : ByteArray} (hw : valid w = true) (hw2 : (rcount w : Int) ≤ 1099511627776) : fitsB (putP w) = true ∨ (putP w).n = 0 := by
  rcases Nat.eq_zero_or_pos (rcount w) with c | c
  · exact .inr (show (rcount w : Int) = 0 by omega)
  · exact .inl (fitsB_mk (show 1 ≤ (rcount w : Int) by omega) (show (rcount w : Int) ≤ _ by omega) (.inr (.inr ⟨rfl, hw, by show ((dec w).length : Int) = rcount w; rw [rcount_dec]⟩)))
theorem drop_fz {m : Int} (hm : 1 ≤ m) (hm2 : m ≤ 1099511627776) : fitsB (dropP m) = true ∨ (dropP m).n = 0 := .inl (fitsB_mk hm hm2 (.inr (.inl ⟨rfl, rfl⟩)))
theorem swP_fit {m n : Nat} {w : ByteArray} (hm : 1 ≤ m) (hn : n ≤ 1099511627776) (hm2 : m ≤ n) (hw : valid w = true) (hw2 : (rcount w : Int) ≤ 1099511627776) : ∀ (l : List Nat) (a : Nat), SwOk m n l a → ∀ q ∈ swP m w n l a, fitsB q = true ∨ q.n = 0
  | [], a, hl, q, hq => by
    have hl : a ≤ n := hl
    rw [swP, List.mem_singleton] at hq
    subst hq
    exact keep_fz (by omega) (by omega)
  | i :: r, a, ⟨h1, h2, h3⟩, q, hq => by
    rw [swP] at hq
    rcases List.mem_cons.1 hq with rfl | hq
    · exact keep_fz (by omega) (by omega)
    · rcases List.mem_cons.1 hq with rfl | hq
      · exact put_fz hw hw2
      · rcases List.mem_cons.1 hq with rfl | hq
        · exact drop_fz (by omega) (by omega)
        · exact swP_fit hm hn hm2 hw hw2 r _ (by rw [Int.toNat_natCast]; exact h3) q hq
theorem rs_fit {p t : List Int} {w : ByteArray} (hp : p ≠ []) (hm : p.length ≤ 1099511627776) (hw : valid w = true) (hw2 : (rcount w : Int) ≤ 1099511627776) : ∀ (f i s : Nat), ∀ q ∈ rsGo p t w f i s, fitsB q = true ∨ q.n = 0
  | 0, i, s, q, hq => by cases hq
  | f + 1, i, s, q, hq => by
    have h0 : 0 < p.length := List.length_pos_iff.2 hp
    rw [rsGo] at hq
    split at hq
    · exact rs_fit hp hm hw hw2 f _ _ q hq
    · split at hq
      · rcases List.mem_cons.1 hq with rfl | hq
        · exact put_fz hw hw2
        · rcases List.mem_cons.1 hq with rfl | hq
          · exact drop_fz (by omega) (by omega)
          · exact rs_fit hp hm hw hw2 f _ _ q hq
      · rcases List.mem_cons.1 hq with rfl | hq
        · exact keep_fz (by decide) (by decide)
        · exact rs_fit hp hm hw hw2 f _ _ q hq
theorem apart_nil {p t : List Int} (hp : p ≠ []) (h : t.length < p.length) : apartF p t = [] := by
  have := apart_ok (t := t) hp
  cases hh : apartF p t with
  | nil => rfl
  | cons i r => rw [hh] at this; have := this.2.1; omega
/-- What Swap answers, and what the document's Swap answers. -/
theorem swap_law {p t : List Int} {w : ByteArray} (hp : p ≠ []) (hm : p.length ≤ 1099511627776) (ht : t.length ≤ 1099511627776) (hw : valid w = true) (hw2 : (rcount w : Int) ≤ 1099511627776) :
    normF (swP p.length w t.length (apartF p t) 0) = swapF p t w ∧ normRef (rsGo p t w t.length 0 0) = swapF p t w := by
  have h0 : 0 < p.length := List.length_pos_iff.2 hp
  have f1 : ∀ q ∈ swP p.length w t.length (apartF p t) 0, fitsB q = true ∨ q.n = 0 := by
    rcases Nat.lt_or_ge t.length p.length with c | c
    · rw [apart_nil hp c]
      intro q hq
      rw [swP, List.mem_singleton] at hq
      subst hq
      exact keep_fz (by omega) (by omega)
    · exact swP_fit (by omega) ht c hw hw2 _ 0 (apart_ok hp)
  refine ⟨?_, ?_⟩
  · unfold normF swapF
    rw [addRs_filterZ _ [] f1]
  · rw [← norm_same]
    unfold normF swapF
    rw [addRs_filterZ _ [] (rs_fit hp hm hw hw2 _ _ _)]
    have := rs_sw (p := p) (t := t) w hp t.length 0 0 0 [] (Nat.le_refl _) (Nat.le_refl _) (by omega)
    rw [show ((0 : Nat) : Int) - ((0 : Nat) : Int) = 0 from rfl, addR_zero (show (keepP 0).n = 0 from rfl)] at this
    rw [this]; rfl
end Go.SK

set_option linter.unusedVariables false
set_option linter.unusedSimpArgs false
set_option maxRecDepth 100000
namespace Go.SK
open Go
section
variable {β : Type} (ι : Int → β)
theorem runW_end (k : Nat) (l : List β) : runW ι (List.replicate (k + 1) []) (List.replicate k false) l = l.take k := by
  have := runW_keep ι k [[]] [] l
  rw [← List.replicate_succ', List.append_nil] at this
  rw [this]
  simp [runW]
/-- Parts of nothing say nothing. -/
theorem runS_filter : ∀ (ps : List Part) (l : List β), (∀ p ∈ ps, fitsB p = true ∨ (p.n = 0 ∧ (p.kind = 1 ∨ p.kind = 3 ∨ (p.kind = 2 ∧ dec p.text = [])))) → runS ι (ps.filter fitsB) l = runS ι ps l
  | [], l, _ => rfl
  | p :: ps, l, h => by
    have ih := fun l => runS_filter ps l (fun q hq => h q (.tail _ hq))
    by_cases c : fitsB p = true
    · rw [List.filter_cons_of_pos c, runS_cons, runS_cons, ih]
    · obtain ⟨h0, hk⟩ := (h p (.head _)).resolve_left c
      rw [List.filter_cons_of_neg c, ih, runS_cons]
      rcases hk with k | k | ⟨k, kt⟩
      · rw [(ot_keep ι k l).1, (ot_keep ι k l).2, h0]; simp
      · rw [(ot_drop ι k l).1, (ot_drop ι k l).2, h0]; simp
      · rw [(ot_put ι k l).1, (ot_put ι k l).2, kt]; simp
theorem fz_keep {n : Int} (h : 0 ≤ n) (h1 : n ≤ 1099511627776) : fitsB (keepP n) = true ∨ ((keepP n).n = 0 ∧ ((keepP n).kind = 1 ∨ (keepP n).kind = 3 ∨ ((keepP n).kind = 2 ∧ dec (keepP n).text = []))) := (keep_fz h h1).imp id fun x => ⟨x, .inl rfl⟩
theorem fz_put {w : ByteArray} (hw : valid w = true) (hw2 : (rcount w : Int) ≤ 1099511627776) : fitsB (putP w) = true ∨ ((putP w).n = 0 ∧ ((putP w).kind = 1 ∨ (putP w).kind = 3 ∨ ((putP w).kind = 2 ∧ dec (putP w).text = []))) := (put_fz hw hw2).imp id fun x => ⟨x, .inr (.inr ⟨rfl, by
  have h1 : (rcount w : Int) = 0 := x
  rw [rcount_dec] at h1
  exact List.length_eq_zero_iff.1 (by show (dec w).length = 0; omega)⟩)⟩
theorem fz_drop {n : Int} (h : 0 ≤ n) (h1 : n ≤ 1099511627776) : fitsB (dropP n) = true ∨ ((dropP n).n = 0 ∧ ((dropP n).kind = 1 ∨ (dropP n).kind = 3 ∨ ((dropP n).kind = 2 ∧ dec (dropP n).text = []))) := by
  rcases Int.lt_or_le 0 n with c | c
  · exact .inl (fitsB_mk (show 1 ≤ n by omega) h1 (.inr (.inl ⟨rfl, rfl⟩)))
  · exact .inr ⟨show n = 0 by omega, .inr (.inl rfl)⟩
theorem filter_fit {ps : List Part} : FitsU (ps.filter fitsB) := fun q hq => fitU_of (List.mem_filter.1 hq).2
theorem addRs_runZ {ps : List Part} (h : ∀ p ∈ ps, fitsB p = true ∨ (p.n = 0 ∧ (p.kind = 1 ∨ p.kind = 3 ∨ (p.kind = 2 ∧ dec p.text = [])))) (l : List β) : runS ι (addRs [] ps).reverse l = runS ι ps l := by
  rw [← addRs_filterZ ps [] (fun p hp => (h p hp).imp id (·.1)), maker_run ι filter_fit, runS_filter ι ps l h]
theorem repl_run {n a k : Int} {s : ByteArray} (h : ¬ replBad n a k s) (Y : List β) (hY : (Y.length : Int) = n) : (runS ι (replF n a k s) Y).1 = Y.take a.toNat ++ ((dec s).map ι ++ Y.drop (a + k).toNat) := by
  have hb := h
  unfold replBad at h
  have hv : valid s = true := by cases hh : valid s <;> simp_all
  unfold replF
  rw [if_neg hb, addRs_runZ ι (fun p hp => by
    simp only [List.mem_cons, List.not_mem_nil, or_false] at hp
    rcases hp with rfl | rfl | rfl | rfl
    · exact fz_keep (by omega) (by omega)
    · exact fz_put hv (by omega)
    · exact fz_drop (by omega) (by omega)
    · exact fz_keep (by omega) (by omega))]
  simp only [runS_cons]
  rw [(ot_keep ι (p := keepP a) rfl _).1, (ot_keep ι (p := keepP a) rfl _).2, (ot_put ι (p := putP s) rfl _).1, (ot_put ι (p := putP s) rfl _).2, (ot_drop ι (p := dropP k) rfl _).1, (ot_drop ι (p := dropP k) rfl _).2, (ot_keep ι (p := keepP (n - a - k)) rfl _).1]
  simp only [runS, List.append_nil, List.nil_append, List.drop_drop]
  show Y.take a.toNat ++ ((dec s).map ι ++ (Y.drop (a.toNat + k.toNat)).take (n - a - k).toNat) = _
  have ht : (Y.drop (a.toNat + k.toNat)).take (n - a - k).toNat = Y.drop (a.toNat + k.toNat) := List.take_of_length_le (by rw [List.length_drop]; omega)
  rw [ht, show a.toNat + k.toNat = (a + k).toNat by omega]
end
/-- The document's wide edit that moves. -/
def mvP (n q : Nat) (t : List Int) : List (List Int) := (List.replicate (n + 1) []).set q t
def mvD (n a b : Nat) : List Bool := List.replicate a false ++ (List.replicate (b - a) true ++ List.replicate (n - b) false)
theorem mvP_split {n q : Nat} (t : List Int) (h : q ≤ n) : mvP n q t = List.replicate q [] ++ addH t (List.replicate (n - q + 1) []) := by
  unfold mvP
  rw [show n + 1 = q + (n - q + 1) by omega, ← List.replicate_append_replicate, List.set_append_right _ _ (by simp), List.length_replicate, Nat.sub_self, List.replicate_succ, List.set_cons_zero]
  simp [addH]
theorem mv_run {β : Type} (ι : Int → β) {n a b q : Nat} (t : List Int) (Y : List β) (hY : Y.length = n) (hab : a ≤ b) (hbn : b ≤ n) (hq : q ≤ a ∨ (b ≤ q ∧ q ≤ n)) :
    runW ι (mvP n q t) (mvD n a b) Y = if q ≤ a then Y.take q ++ (t.map ι ++ ((Y.drop q).take (a - q) ++ Y.drop b)) else Y.take a ++ ((Y.drop b).take (q - b) ++ (t.map ι ++ Y.drop q)) := by
  have hq' : q ≤ n := by omega
  rw [mvP_split t hq']
  by_cases c : q ≤ a
  · have eD : mvD n a b = List.replicate q false ++ (List.replicate (a - q) false ++ (List.replicate (b - a) true ++ List.replicate (n - b) false)) := by
      unfold mvD; rw [← List.append_assoc (List.replicate q false), List.replicate_append_replicate, show q + (a - q) = a by omega]
    have eP : List.replicate (n - q + 1) ([] : List Int) = List.replicate (a - q) [] ++ (List.replicate (b - a) [] ++ List.replicate (n - b + 1) []) := by
      rw [List.replicate_append_replicate, List.replicate_append_replicate]; congr 1; omega
    have eT : (Y.drop b).take (n - b) = Y.drop b := List.take_of_length_le (by rw [List.length_drop]; omega)
    rw [if_pos c, eD, runW_keep, runW_addH _ _ (by simp), eP, runW_keep, runW_drop, runW_end, List.drop_drop, List.drop_drop, show q + (a - q + (b - a)) = b by omega, eT]
  · have hbq : b ≤ q := by omega
    have eD : mvD n a b = List.replicate a false ++ (List.replicate (b - a) true ++ (List.replicate (q - b) false ++ List.replicate (n - q) false)) := by
      unfold mvD; rw [List.replicate_append_replicate, show q - b + (n - q) = n - b by omega]
    have eP : List.replicate q ([] : List Int) ++ addH t (List.replicate (n - q + 1) []) = List.replicate a [] ++ (List.replicate (b - a) [] ++ (List.replicate (q - b) [] ++ addH t (List.replicate (n - q + 1) []))) := by
      rw [← List.append_assoc (List.replicate (b - a) []), ← List.append_assoc (List.replicate a []), List.replicate_append_replicate, List.replicate_append_replicate, show a + (b - a + (q - b)) = q by omega]
    have eT : (Y.drop q).take (n - q) = Y.drop q := List.take_of_length_le (by rw [List.length_drop]; omega)
    rw [if_neg c, eD, eP, runW_keep, runW_drop, runW_keep, runW_addH _ _ (by simp), runW_end, List.drop_drop, List.drop_drop, show a + (b - a) = b by omega, show b + (q - b) = q by omega, eT]
/-- Lines moved: cut out and put in, and the document's wide edit. -/
theorem move_law {n a b q : Nat} {c : Int} {t : List Int} (hs : ∀ x ∈ t, scalar x) (hn : n ≤ 1048576) (hab : a ≤ b) (hbn : b ≤ n) (ht : t.length = b - a) (hq : (q ≤ a ∧ c = q) ∨ (b ≤ q ∧ q ≤ n ∧ c = (q : Int) - ((b : Int) - a))) :
    replE n a ((b : Int) - a) ⟨#[]⟩ = 0 ∧ replE ((n : Int) - ((b : Int) - a)) c 0 (enc t) = 0 ∧ compE (replF n a ((b : Int) - a) ⟨#[]⟩) (replF ((n : Int) - ((b : Int) - a)) c 0 (enc t)) = 0 ∧
    compF (replF n a ((b : Int) - a) ⟨#[]⟩) (replF ((n : Int) - ((b : Int) - a)) c 0 (enc t)) = closeF (mvP n q t) (mvD n a b) := by
  have hv : valid (enc t) = true := valid_enc hs
  have hd : dec (enc t) = t := dec_enc hs
  have hr0 : rcount ⟨#[]⟩ = 0 := by rw [rcount_dec]; rfl
  have hr : rcount (enc t) = t.length := by rw [rcount_dec, hd]
  have b1 : ¬ replBad n a ((b : Int) - a) ⟨#[]⟩ := by
    have hv := valid_empty
    unfold replBad; rw [hr0, hv]; simp only [Bool.true_eq_false, false_or]; omega
  have b2 : ¬ replBad ((n : Int) - ((b : Int) - a)) c 0 (enc t) := by
    unfold replBad; rw [hr, hv]; simp only [Bool.true_eq_false, false_or]; omega
  obtain ⟨o1, f1, t1⟩ := repl_ok b1
  obtain ⟨o2, f2, t2⟩ := repl_ok b2
  obtain ⟨c1, c2, c3, c4, c5⟩ := comp_law o1 o2 (by rw [t1, f2, hr0]; omega)
  refine ⟨if_neg b1, if_neg b2, c1, ?_⟩
  have hq' : q ≤ a ∨ (b ≤ q ∧ q ≤ n) := by rcases hq with h | h; exact .inl h.1; exact .inr ⟨h.1, h.2.1⟩
  have hDl : (mvD n a b).length = n := by unfold mvD; simp; omega
  have hPl : (mvP n q t).length = n + 1 := by unfold mvP; simp
  have hsc : scP (mvP n q t) := by
    intro u hu
    rcases List.mem_or_eq_of_mem_set hu with h | h
    · rw [(List.mem_replicate.1 h).2]; intro x hx; cases hx
    · rw [h]; exact hs
  have hrun : ∀ {β : Type} (ι : Int → β) (Y : List β), Y.length = n → (runS ι (compF (replF n a ((b : Int) - a) ⟨#[]⟩) (replF ((n : Int) - ((b : Int) - a)) c 0 (enc t))) Y).1 = runW ι (mvP n q t) (mvD n a b) Y := by
    intro β ι Y hY
    rw [c5 ι Y (by rw [f1]; omega), repl_run ι b1 Y (by omega), dec_empty, List.map_nil, List.nil_append, show ((a : Int) + ((b : Int) - a)).toNat = b by omega, Int.toNat_natCast]
    have hl : ((Y.take a ++ Y.drop b).length : Int) = (n : Int) - ((b : Int) - a) := by rw [List.length_append, List.length_take, List.length_drop]; omega
    rw [repl_run ι b2 _ hl, hd, Int.add_zero, mv_run ι t Y hY hab hbn hq']
    rcases hq with ⟨h1, h2⟩ | ⟨h1, h2, h3⟩
    · subst h2
      rw [if_pos h1, Int.toNat_natCast, List.take_append_of_le_length (by rw [List.length_take]; omega), List.drop_append_of_le_length (by rw [List.length_take]; omega), List.take_take, show min q a = q by omega, List.drop_take]
    · by_cases cc : q ≤ a
      · have e1 : q = b := by omega
        have e2 : a = b := by omega
        subst e1; subst e2
        rw [if_pos (Nat.le_refl _), h3, Int.sub_self, Int.sub_zero, Int.toNat_natCast, Nat.sub_self, List.take_zero, List.nil_append]
        rw [List.take_append_drop]
      · rw [if_neg cc, h3, show ((q : Int) - ((b : Int) - a)).toNat = a + (q - b) by omega]
        have hla : (Y.take a).length = a := by rw [List.length_take]; omega
        have e3 : (Y.take a).take (a + (q - b)) = Y.take a := List.take_of_length_le (by omega)
        have e4 : (Y.take a).drop (a + (q - b)) = [] := List.drop_eq_nil_of_le (by omega)
        rw [List.take_append, List.drop_append, hla, e3, e4, Nat.add_sub_cancel_left, List.drop_drop, show b + (q - b) = q by omega, List.nil_append, List.append_assoc]
  have hrl : (runW (fun _ => ()) (mvP n q t) (mvD n a b) (List.replicate (mvD n a b).length ())).length ≤ 1099511627776 := by
    rw [hDl, mv_run _ t _ (by simp) hab hbn hq']
    split <;> (simp only [List.length_append, List.length_map, List.length_take, List.length_drop, List.length_replicate]; omega)
  obtain ⟨k1, k2, k3⟩ := close_law hsc (by rw [hPl, hDl]) (by rw [hDl]; omega) hrl
  refine form_unique c2 k1 (by rw [c3, f1, k2, hDl]) (fun l hl => ?_)
  rw [c3, f1] at hl
  rw [hrun Sum.inr l (by omega), k3]
end Go.SK

set_option linter.unusedVariables false
set_option linter.unusedSimpArgs false
set_option maxRecDepth 100000
namespace Go.SK
open Go
section
variable {l : List Int}
theorem lineAt_len (l : List Int) (i : Nat) : (begs (l.take i)).length = lineAt l i + 1 := by unfold begs lineAt; rw [List.length_cons]
theorem at_zero (l : List Int) : lineAt l 0 = 0 ∧ begAt l 0 = 0 := ⟨rfl, rfl⟩
theorem at_succ {j : Nat} {c : Int} (h : j < l.length) (hc : l.getD j 0 = c) : (c = 10 → lineAt l (j + 1) = lineAt l j + 1 ∧ begAt l (j + 1) = j + 1) ∧ (c ≠ 10 → lineAt l (j + 1) = lineAt l j ∧ begAt l (j + 1) = begAt l j) := by
  have h1 := begs_take_succ h hc
  have e1 := lineAt_len l (j + 1)
  have e2 := lineAt_len l j
  constructor
  · intro c10
    rw [if_pos c10] at h1
    refine ⟨by rw [h1, List.length_append, List.length_singleton] at e1; omega, ?_⟩
    unfold begAt; rw [h1]; simp
  · intro c10
    rw [if_neg c10] at h1
    refine ⟨by rw [h1] at e1; omega, ?_⟩
    unfold begAt; rw [h1]
def noLine (l : List Int) (k : Int) : Prop := k < 0 ∨ ((begs l).length : Int) ≤ k
instance (l : List Int) (k : Int) : Decidable (noLine l k) := by unfold noLine; infer_instance
def bg (l : List Int) (k : Int) : Nat := (begs l).getD k.toNat 0
def en (l : List Int) (k : Int) : Nat := endOf l k.toNat
def lineF (l : List Int) (k : Int) : ByteArray := if noLine l k then ⟨#[]⟩ else enc ((l.drop (bg l k)).take (en l k - bg l k))
def lineE (l : List Int) (k : Int) : Int := if noLine l k then 1 else 0
def atF (l : List Int) (k c : Int) : Int := if noLine l k ∨ c < 0 then 0 else if (en l k : Int) - bg l k < c then en l k else bg l k + c
def atE (l : List Int) (k c : Int) : Int := if noLine l k ∨ c < 0 then 1 else 0
def noAt (l : List Int) (i : Int) : Prop := i < 0 ∨ (l.length : Int) < i
instance (l : List Int) (k : Int) : Decidable (noAt l k) := by unfold noAt; infer_instance
def whL (l : List Int) (i : Int) : Int := if noAt l i then 0 else lineAt l i.toNat
def whC (l : List Int) (i : Int) : Int := if noAt l i then 0 else i - begAt l i.toNat
def whE (l : List Int) (i : Int) : Int := if noAt l i then 1 else 0
def noPt (l : List Int) (i : Int) : Prop := i < 0 ∨ (l.length : Int) ≤ i
instance (l : List Int) (k : Int) : Decidable (noPt l k) := by unfold noPt; infer_instance
def ptK (l : List Int) (i : Int) : Int := lcls (l.getD i.toNat 0)
def woA (l : List Int) (i : Int) : Int := if noPt l i then 0 else backN l (ptK l i) i.toNat
def woZ (l : List Int) (i : Int) : Int := if noPt l i then 0 else fwdN l (ptK l i) i.toNat
def woE (l : List Int) (i : Int) : Int := if noPt l i then 1 else 0
theorem bg_en {k : Int} (h : ¬ noLine l k) : bg l k ≤ en l k ∧ en l k ≤ l.length := begs_end (by unfold noLine at h; omega)
/-- A place's line and column lead back to it, and a line's columns to themselves. -/
theorem turned_law {i : Nat} (h : i ≤ l.length) (hn : l.length ≤ 1048576) : whE l i = 0 ∧ atE l (whL l i) (whC l i) = 0 ∧ atF l (whL l i) (whC l i) = i ∧ atE l (whL l i) 1099511627776 = 0 ∧ whE l (atF l (whL l i) 1099511627776) = 0 ∧ lineE l (whL l i) = 0 ∧
    whL l (atF l (whL l i) 1099511627776) = whL l i ∧ whC l (atF l (whL l i) 1099511627776) = (((l.drop (bg l (whL l i))).take (en l (whL l i) - bg l (whL l i))).length : Int) ∧ whC l i ≤ whC l (atF l (whL l i) 1099511627776) ∧ lineF l (whL l i) = enc ((l.drop (bg l (whL l i))).take (en l (whL l i) - bg l (whL l i))) := by
  have n1 : ¬ noAt l i := by unfold noAt; omega
  have eL : whL l i = lineAt l i := by unfold whL; rw [if_neg n1, Int.toNat_natCast]
  have eC : whC l i = (i : Int) - begAt l i := by unfold whC; rw [if_neg n1, Int.toNat_natCast]
  obtain ⟨a, b, c, d⟩ := lineAt_lt h
  have e1 := end_of h
  have n2 : ¬ noLine l (lineAt l i) := by unfold noLine; omega
  have hb : bg l (lineAt l i) = begAt l i := by unfold bg; rw [Int.toNat_natCast]; exact b
  have he : en l (lineAt l i) = endOf l (lineAt l i) := by unfold en; rw [Int.toNat_natCast]
  have hle := (begs_end a).2
  have hA : atF l (lineAt l i) 1099511627776 = endOf l (lineAt l i) := by
    unfold atF; rw [if_neg (by rintro (x | x); exact n2 x; omega), he]
    split
    · rfl
    · rw [hb]; omega
  have n3 : ¬ noAt l (endOf l (lineAt l i)) := by unfold noAt; omega
  obtain ⟨q1, q2⟩ := line_of (l := l) (k := lineAt l i) (at_ := endOf l (lineAt l i)) a (begs_end a).1 (Nat.le_refl _)
  have eL2 : whL l (endOf l (lineAt l i)) = lineAt l i := by unfold whL; rw [if_neg n3, Int.toNat_natCast, q1]
  have eC2 : whC l (endOf l (lineAt l i)) = (endOf l (lineAt l i) : Int) - begAt l i := by unfold whC; rw [if_neg n3, Int.toNat_natCast, q2, b]
  rw [eL, eC, hA, eL2, eC2, hb, he]
  refine ⟨if_neg n1, if_neg (by rintro (x | x); exact n2 x; omega), ?_, if_neg (by rintro (x | x); exact n2 x; omega), if_neg n3, if_neg n2, rfl, ?_, by omega, ?_⟩
  · unfold atF; rw [if_neg (by rintro (x | x); exact n2 x; omega), he, hb]
    split <;> omega
  · rw [List.length_take, List.length_drop]; omega
  · unfold lineF; rw [if_neg n2, hb, he]
end
end Go.SK

set_option linter.unusedVariables false
set_option linter.unusedSimpArgs false
set_option maxRecDepth 100000
namespace Go.SK
open Go
def swB (m : Nat) (w : ByteArray) : List Nat → Nat → List Part
  | [], _ => []
  | i :: r, a => keepP ((i : Int) - a) :: putP w :: dropP m :: swB m w r (i + m)
def endA (m : Nat) : List Nat → Nat → Nat
  | [], a => a
  | i :: r, _ => endA m r (i + m)
theorem swP_is (m : Nat) (w : ByteArray) (n : Nat) : ∀ (l : List Nat) (a : Nat), swP m w n l a = swB m w l a ++ [keepP ((n : Int) - endA m l a)]
  | [], a => rfl
  | i :: r, a => by
    rw [swP, swB, endA, Int.toNat_natCast, swP_is m w n r (i + m)]; rfl
theorem swB_add (m : Nat) (w : ByteArray) (i : Nat) : ∀ (l : List Nat) (a : Nat), swB m w (l ++ [i]) a = swB m w l a ++ [keepP ((i : Int) - endA m l a), putP w, dropP m]
  | [], a => rfl
  | j :: r, a => by
    rw [List.cons_append, swB, swB, endA, swB_add m w i r (j + m)]; rfl
theorem endA_add (m i : Nat) : ∀ (l : List Nat) (a : Nat), endA m (l ++ [i]) a = i + m
  | [], a => rfl
  | j :: r, a => by rw [List.cons_append, endA, endA_add m i r]
theorem swB_len (m : Nat) (w : ByteArray) : ∀ (l : List Nat) (a : Nat), (swB m w l a).length = 3 * l.length
  | [], a => rfl
  | j :: r, a => by rw [swB]; simp only [List.length_cons]; rw [swB_len m w r]; omega
theorem sw_ok_at {m n : Nat} : ∀ {l : List Nat} {a k i : Nat}, SwOk m n l a → k < l.length → l.getD k 0 = i → endA m (l.take k) a ≤ i ∧ i + m ≤ n
  | [], a, k, i, h, hk, hi => by simp at hk
  | j :: r, a, 0, i, h, hk, hi => by
    have : j = i := hi
    subst this
    exact ⟨h.1, h.2.1⟩
  | j :: r, a, k + 1, i, h, hk, hi => by
    have := sw_ok_at (l := r) (a := j + m) (k := k) (i := i) h.2.2 (by simp only [List.length_cons] at hk; omega) hi
    rw [List.take_succ_cons, endA]; exact this
theorem sw_ok_end {m n : Nat} : ∀ {l : List Nat} {a : Nat}, SwOk m n l a → endA m l a ≤ n
  | [], a, h => h
  | j :: r, a, h => by rw [endA]; exact sw_ok_end h.2.2
end Go.SK
