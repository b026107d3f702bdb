/- Plain words: what two texts have together, and the edit that leads from one to the other. Plain words: what two texts that come of one make together, and where they meet. Plain words: tables of what can be kept, entry by entry. Plain words: what the laws of layer 10 ask, as the program's answers tell it. -/
import Derived.Test.YtlbaebaimhbbfaaDoorMD
import Derived.Test.YtlbaebaimhbbfaaDoorMG
set_option linter.unusedVariables false
set_option linter.unusedSimpArgs false
set_option maxRecDepth 100000
namespace Go.SK
open Go
/-! ### The longest common part -/
def lcsGo (f : List Int → Nat) (x : Int) : List Int → Nat
  | [] => 0
  | y :: b => if x = y then f b + 1 else max (f (y :: b)) (lcsGo f x b)
def lcs : List Int → List Int → Nat
  | [], _ => 0
  | x :: a, b => lcsGo (lcs a) x b
theorem lcs_nil (b : List Int) : lcs [] b = 0 := rfl
theorem lcs_nil' (a : List Int) : lcs a [] = 0 := by cases a <;> rfl
theorem lcs_same {x : Int} {a b : List Int} : lcs (x :: a) (x :: b) = lcs a b + 1 := if_pos rfl
theorem lcs_other {x y : Int} {a b : List Int} (h : ¬ x = y) : lcs (x :: a) (y :: b) = max (lcs a (y :: b)) (lcs (x :: a) b) := if_neg h
/-- How a table's entry comes of its neighbours. -/
theorem lcs_table (x y : Int) (a b : List Int) : lcs (x :: a) (y :: b) = if x = y then lcs a b + 1 else max (lcs a (y :: b)) (lcs (x :: a) b) := by
  by_cases h : x = y
  · rw [if_pos h, h, lcs_same]
  · rw [if_neg h, lcs_other h]
/-! ### The parts -/
def keep1 : Part := ⟨1, 1, ⟨#[]⟩⟩
def drop1 : Part := ⟨3, 1, ⟨#[]⟩⟩
def put1 (y : Int) : Part := ⟨2, 1, enc [y]⟩
def dpGo (f : List Int → List Part) (x : Int) (a : List Int) : List Int → List Part
  | [] => drop1 :: f []
  | y :: b => if x = y then keep1 :: f b else if lcs (x :: a) b ≤ lcs a (y :: b) then drop1 :: f (y :: b) else put1 y :: dpGo f x a b
def dp : List Int → List Int → List Part
  | [], b => b.map put1
  | x :: a, b => dpGo (dp a) x a b
theorem dp_put (y : Int) (b : List Int) : dp [] (y :: b) = put1 y :: dp [] b := rfl
theorem dp_drop (x : Int) (a : List Int) : dp (x :: a) [] = drop1 :: dp a [] := rfl
theorem dp_both (x y : Int) (a b : List Int) : dp (x :: a) (y :: b) = if x = y then keep1 :: dp a b else if lcs (x :: a) b ≤ lcs a (y :: b) then drop1 :: dp a (y :: b) else put1 y :: dp (x :: a) b := rfl
theorem dp_nil : dp [] [] = [] := rfl
theorem keep1_fit : fitsB keep1 = true := keep_fits (n := 1) (by omega) (by omega)
theorem drop1_fit : fitsB drop1 = true := drop_fits (n := 1) (by omega) (by omega)
theorem put1_fit {y : Int} (h : scalar y) : fitsB (put1 y) = true := by
  have := put_fits (t := [y]) (by intro x hx; rw [List.mem_singleton.1 hx]; exact h) (by simp) (by simp)
  have e : putP (enc [y]) = put1 y := by unfold putP put1; rw [rcount_dec, dec_enc (by intro x hx; rw [List.mem_singleton.1 hx]; exact h)]; rfl
  rw [← e]; exact this.1
theorem dec_put1 {y : Int} (h : scalar y) : dec (put1 y).text = [y] := dec_enc (by intro x hx; rw [List.mem_singleton.1 hx]; exact h)
/-- What the parts are: each fits; they make the second text of the first one; how much is put and dropped. -/
theorem dp_facts : ∀ (n : Nat) (a b : List Int), a.length + b.length ≤ n → (∀ y ∈ b, scalar y) →
    Fits (dp a b) ∧ fromS (dp a b) = a.length ∧ (runS id (dp a b) a).1 = b ∧ putsN (dp a b) + lcs a b = b.length ∧ dropN (dp a b) + lcs a b = a.length ∧ (dp a b).length ≤ a.length + b.length
  | n, [], [], _, _ => by rw [dp_nil]; simp [fits_nil, fromS, runS, putsN, dropN, lcs_nil]
  | 0, _ :: _, _, hn, _ => by simp at hn
  | 0, _, _ :: _, hn, _ => by simp at hn
  | n + 1, [], y :: b, hn, hs => by
    simp only [List.length_cons, List.length_nil] at hn
    obtain ⟨h1, h2, h3, h4, h5, h6⟩ := dp_facts n [] b (by simp only [List.length_nil]; omega) (fun z hz => hs z (.tail _ hz))
    have hy := hs y (.head _)
    rw [dp_put]
    rw [lcs_nil] at h4 h5
    refine ⟨Fits.cons (put1_fit hy) h1, by simp only [fromS, put1, if_true]; omega, ?_, ?_, ?_, by simp only [List.length_cons]; omega⟩
    · rw [runS_cons, (ot_put id (p := put1 y) rfl _).1, (ot_put id (p := put1 y) rfl _).2, dec_put1 hy, h3]; rfl
    · rw [lcs_nil]; simp only [putsN, put1, if_true, List.length_cons]; omega
    · rw [lcs_nil]; simp only [dropN]; rw [if_neg (show ¬ (put1 y).kind = 3 by show ¬ (2 : Int) = 3; decide)]; omega
  | n + 1, x :: a, [], hn, hs => by
    simp only [List.length_cons, List.length_nil] at hn
    obtain ⟨h1, h2, h3, h4, h5, h6⟩ := dp_facts n a [] (by simp only [List.length_nil]; omega) hs
    rw [dp_drop]
    rw [lcs_nil'] at h4 h5
    refine ⟨Fits.cons drop1_fit h1, ?_, ?_, ?_, ?_, by simp only [List.length_cons]; omega⟩
    · simp only [fromS, List.length_cons]; rw [if_neg (show ¬ drop1.kind = 2 by decide), show drop1.n = 1 from rfl]; omega
    · rw [runS_cons, (ot_drop id (p := drop1) rfl _).1, (ot_drop id (p := drop1) rfl _).2]; exact h3
    · rw [lcs_nil']; simp only [putsN]; rw [if_neg (show ¬ drop1.kind = 2 by decide)]; omega
    · rw [lcs_nil']; simp only [dropN, List.length_cons]; rw [if_pos (show drop1.kind = 3 by decide), show drop1.n = 1 from rfl]; omega
  | n + 1, x :: a, y :: b, hn, hs => by
    simp only [List.length_cons] at hn
    have hy := hs y (.head _)
    rw [dp_both, lcs_table]
    by_cases e : x = y
    · rw [if_pos e, if_pos e]
      obtain ⟨h1, h2, h3, h4, h5, h6⟩ := dp_facts n a b (by omega) (fun z hz => hs z (.tail _ hz))
      refine ⟨Fits.cons keep1_fit h1, ?_, ?_, ?_, ?_, by simp only [List.length_cons]; omega⟩
      · simp only [fromS, List.length_cons]; rw [if_neg (show ¬ keep1.kind = 2 by decide), show keep1.n = 1 from rfl]; omega
      · rw [runS_cons, (ot_keep id (p := keep1) rfl _).1, (ot_keep id (p := keep1) rfl _).2, show keep1.n.toNat = 1 from rfl]
        simp only [List.take_succ_cons, List.take_zero, List.drop_succ_cons, List.drop_zero, h3, e]; rfl
      · simp only [putsN, List.length_cons]; rw [if_neg (show ¬ keep1.kind = 2 by decide)]; omega
      · simp only [dropN, List.length_cons]; rw [if_neg (show ¬ keep1.kind = 3 by decide)]; omega
    · rw [if_neg e, if_neg e]
      by_cases c : lcs (x :: a) b ≤ lcs a (y :: b)
      · rw [if_pos c, Nat.max_eq_left c]
        obtain ⟨h1, h2, h3, h4, h5, h6⟩ := dp_facts n a (y :: b) (by simp only [List.length_cons]; omega) hs
        simp only [List.length_cons] at h4 h6
        refine ⟨Fits.cons drop1_fit h1, ?_, ?_, ?_, ?_, by simp only [List.length_cons]; omega⟩
        · simp only [fromS, List.length_cons]; rw [if_neg (show ¬ drop1.kind = 2 by decide), show drop1.n = 1 from rfl]; omega
        · rw [runS_cons, (ot_drop id (p := drop1) rfl _).1, (ot_drop id (p := drop1) rfl _).2]; exact h3
        · simp only [putsN, List.length_cons]; rw [if_neg (show ¬ drop1.kind = 2 by decide)]; omega
        · simp only [dropN, List.length_cons]; rw [if_pos (show drop1.kind = 3 by decide), show drop1.n = 1 from rfl]; omega
      · rw [if_neg c, Nat.max_eq_right (by omega)]
        obtain ⟨h1, h2, h3, h4, h5, h6⟩ := dp_facts n (x :: a) b (by simp only [List.length_cons]; omega) (fun z hz => hs z (.tail _ hz))
        simp only [List.length_cons] at h2 h5 h6
        refine ⟨Fits.cons (put1_fit hy) h1, by simp only [fromS, put1, if_true, List.length_cons]; omega, ?_, ?_, ?_, by simp only [List.length_cons]; omega⟩
        · rw [runS_cons, (ot_put id (p := put1 y) rfl _).1, (ot_put id (p := put1 y) rfl _).2, dec_put1 hy, h3]; rfl
        · simp only [putsN, put1, if_true, List.length_cons]; omega
        · simp only [dropN, List.length_cons]; rw [if_neg (show ¬ (put1 y).kind = 3 by show ¬ (2 : Int) = 3; decide)]; omega
/-! ### Alike texts -/
/-! ### The front that both have -/
end Go.SK

set_option linter.unusedVariables false
set_option linter.unusedSimpArgs false
set_option maxRecDepth 100000
namespace Go.SK
open Go
/-! ### Beside an edit that keeps all -/
theorem puts_le' {e : List Part} (h : FitsU e) : putsN e ≤ toS e := by
  have := toS_eq h; have := dropN_le h; omega
/-! ### Where nothing is put at one place -/
/-! ### Stretches -/
abbrev Str := Int × Int × Int
def setLast (out : List Str) (n : Int) : List Str := match out.getLast? with
  | some t => out.dropLast ++ [(t.1, n, t.2.2)]
  | none => out
def hasAt (out : List Str) (z : Int) : Prop := ∃ t ∈ out, t.1 = z ∧ 0 ≤ t.2.1
theorem hasAt.set {out : List Str} {z : Int} (h : hasAt out z) {n : Int} (hn : 0 ≤ n) : hasAt (setLast out n) z := by
  unfold setLast
  obtain ⟨u, h1, h2, h3⟩ := h
  cases hg : out.getLast? with
  | none => exact ⟨u, h1, h2, h3⟩
  | some t =>
    have e : out = out.dropLast ++ [t] := by
      obtain ⟨ys, hy⟩ := List.getLast?_eq_some_iff.1 hg
      rw [hy]; simp
    rw [e] at h1
    rcases List.mem_append.1 h1 with h1 | h1
    · exact ⟨u, List.mem_append_left _ h1, h2, h3⟩
    · rw [List.mem_singleton.1 h1] at h2
      exact ⟨(t.1, n, t.2.2), List.mem_append_right _ (.head _), h2, hn⟩
end Go.SK

set_option linter.unusedVariables false
set_option linter.unusedSimpArgs false
set_option maxRecDepth 100000
namespace Go.SK
open Go Go.RowKit
/-- What a place of two texts tells. -/
def lc (a b : List Int) (i k : Nat) : Nat := lcs (a.drop i) (b.drop k)
theorem lc_end {a b : List Int} {i k : Nat} (h : a.length ≤ i ∨ b.length ≤ k) : lc a b i k = 0 := by
  unfold lc
  rcases h with h | h
  · rw [List.drop_eq_nil_of_le h, lcs_nil]
  · rw [List.drop_eq_nil_of_le h, lcs_nil']
/-! ### The table as one row -/
/-- Rows from m on are reckoned, and of the row ahead of them the places from q on. -/
structure TI (a b : List Int) (m q : Nat) (X : List Nat) : Prop where
  len : X.length = (a.length + 1) * (b.length + 1)
  mle : m ≤ a.length
  ok : ∀ i k, i ≤ a.length → k ≤ b.length → (m ≤ i ∨ (i + 1 = m ∧ q ≤ k)) → X.getD (i * (b.length + 1) + k) 0 = lc a b i k
theorem ix_lt {w i k n : Nat} (hi : i < n) (hk : k < w) : i * w + k < n * w := by
  have : (i + 1) * w ≤ n * w := Nat.mul_le_mul_right w hi
  rw [Nat.add_mul, Nat.one_mul] at this; omega
theorem ix_inj {w i k i' k' : Nat} (hk : k < w) (hk' : k' < w) (h : i * w + k = i' * w + k') : i = i' ∧ k = k' := by
  have h1 : (i * w + k) / w = i := by rw [Nat.mul_comm, Nat.mul_add_div (by omega), Nat.div_eq_of_lt hk]; omega
  have h2 : (i' * w + k') / w = i' := by rw [Nat.mul_comm, Nat.mul_add_div (by omega), Nat.div_eq_of_lt hk']; omega
  have : i = i' := by rw [← h1, ← h2, h]
  subst this; exact ⟨rfl, by omega⟩
theorem getD_rep {n i : Nat} : (List.replicate n 0).getD i 0 = 0 := by
  rw [List.getD_eq_getElem?_getD, List.getElem?_replicate]; split <;> rfl
theorem TI.start (a b : List Int) : TI a b a.length b.length (List.replicate ((a.length + 1) * (b.length + 1)) 0) :=
  ⟨by simp, Nat.le_refl _, fun i k h1 h2 h3 => by rw [getD_rep, lc_end]; omega⟩
section
variable {a b : List Int} {m q : Nat} {X : List Nat}
/-- The row ahead begun: its last place is naught, as in the row as it was made. -/
structure TZ (a b : List Int) (m q : Nat) (X : List Nat) : Prop extends TI a b m q X where
  zero : ∀ i k, i ≤ a.length → k ≤ b.length → ¬ (m ≤ i ∨ (i + 1 = m ∧ q ≤ k)) → X.getD (i * (b.length + 1) + k) 0 = 0
theorem TZ.start (a b : List Int) : TZ a b a.length b.length (List.replicate ((a.length + 1) * (b.length + 1)) 0) := ⟨TI.start a b, fun i k _ _ _ => getD_rep⟩
theorem TZ.get (h : TZ a b m q X) {i k : Nat} (hi : i ≤ a.length) (hk : k ≤ b.length) (hd : m ≤ i ∨ (i + 1 = m ∧ q ≤ k)) : i * (b.length + 1) + k < X.length ∧ X.getD (i * (b.length + 1) + k) 0 = lc a b i k := by
  refine ⟨?_, h.ok i k hi hk hd⟩
  rw [h.len]; exact ix_lt (by omega) (by omega)
theorem TZ.step (h : TZ a b m q X) (hm : 1 ≤ m) (hq : 1 ≤ q) (hqb : q ≤ b.length) : (m - 1) * (b.length + 1) + (q - 1) < X.length ∧ TZ a b m (q - 1) (X.set ((m - 1) * (b.length + 1) + (q - 1)) (lc a b (m - 1) (q - 1))) := by
  have hml := h.mle
  have hlt : (m - 1) * (b.length + 1) + (q - 1) < X.length := by rw [h.len]; exact ix_lt (by omega) (by omega)
  refine ⟨hlt, ⟨⟨by rw [List.length_set]; exact h.len, hml, fun i k h1 h2 h3 => ?_⟩, fun i k h1 h2 h3 => ?_⟩⟩
  · by_cases c : i = m - 1 ∧ k = q - 1
    · obtain ⟨rfl, rfl⟩ := c
      rw [List.getD_eq_getElem?_getD, List.getElem?_set_self hlt]; rfl
    · rw [List.getD_eq_getElem?_getD, List.getElem?_set_ne (fun e => c (by have := ix_inj (by omega) (by omega) e; omega)), ← List.getD_eq_getElem?_getD]
      exact h.ok i k h1 h2 (by omega)
  · rw [List.getD_eq_getElem?_getD, List.getElem?_set_ne (fun e => by have := ix_inj (by omega) (by omega) e; omega), ← List.getD_eq_getElem?_getD]
    exact h.zero i k h1 h2 (by omega)
theorem TZ.row (h : TZ a b m 0 X) (hm : 1 ≤ m) : TZ a b (m - 1) b.length X := ⟨⟨h.len, by have := h.mle; omega, fun i k h1 h2 h3 => by
  by_cases c : m ≤ i ∨ (i + 1 = m ∧ 0 ≤ k)
  · exact h.ok i k h1 h2 c
  · rw [h.zero i k h1 h2 c, lc_end]; omega⟩, fun i k h1 h2 h3 => h.zero i k h1 h2 (by omega)⟩
end
/-- Where a place is done: in the row ahead, the last place is as it was made. -/
theorem TZ.at_ {a b : List Int} {m q : Nat} {X : List Nat} (h : TZ a b m q X) {i k : Nat} (hi : i ≤ a.length) (hk : k ≤ b.length) (hd : m ≤ i ∨ (i + 1 = m ∧ q ≤ k) ∨ k = b.length) : i * (b.length + 1) + k < X.length ∧ X.getD (i * (b.length + 1) + k) 0 = lc a b i k := by
  by_cases c : m ≤ i ∨ (i + 1 = m ∧ q ≤ k)
  · exact h.get hi hk c
  · refine ⟨by rw [h.len]; exact ix_lt (by omega) (by omega), ?_⟩
    rw [h.zero i k hi hk c, lc_end]; omega
/-! ### Row by row -/
def lrow (a b : List Int) (i : Nat) : List Nat := (List.range (b.length + 1)).map (lc a b i)
theorem lrow_len (a b : List Int) (i : Nat) : (lrow a b i).length = b.length + 1 := by simp [lrow]
theorem lrow_get {a b : List Int} {i k : Nat} (h : k ≤ b.length) : (lrow a b i).getD k 0 = lc a b i k := by
  unfold lrow
  rw [List.getD_eq_getElem?_getD, List.getElem?_map, List.getElem?_range (by omega)]; rfl
/-- A row being made from its end on. -/
structure KI (a b : List Int) (i q : Nat) (X : List Nat) : Prop where
  len : X.length = b.length + 1
  ok : ∀ k, k ≤ b.length → X.getD k 0 = if q ≤ k then lc a b i k else 0
theorem KI.start (a b : List Int) (i : Nat) : KI a b i b.length (List.replicate (b.length + 1) 0) := ⟨by simp, fun k hk => by
  rw [getD_rep]
  split
  · rw [lc_end]; omega
  · rfl⟩
theorem KI.get {a b : List Int} {i q k : Nat} {X : List Nat} (h : KI a b i q X) (hk : k ≤ b.length) (hq : q ≤ k) : X.getD k 0 = lc a b i k := by rw [h.ok k hk, if_pos hq]
theorem KI.step {a b : List Int} {i q : Nat} {X : List Nat} (h : KI a b i q X) (hq : 1 ≤ q) (hqb : q ≤ b.length) : KI a b i (q - 1) (X.set (q - 1) (lc a b i (q - 1))) := by
  refine ⟨by rw [List.length_set]; exact h.len, fun k hk => ?_⟩
  by_cases c : k = q - 1
  · subst c
    rw [List.getD_eq_getElem?_getD, List.getElem?_set_self (by rw [h.len]; omega), if_pos (Nat.le_refl _)]; rfl
  · rw [List.getD_eq_getElem?_getD, List.getElem?_set_ne (fun e => c e.symm), ← List.getD_eq_getElem?_getD, h.ok k hk]
    by_cases d : q ≤ k
    · rw [if_pos d, if_pos (by omega)]
    · rw [if_neg d, if_neg (by omega)]
theorem KI.stop {a b : List Int} {i : Nat} {X : List Nat} (h : KI a b i 0 X) : X = lrow a b i := by
  apply List.ext_getElem (by rw [h.len, lrow_len])
  intro k h1 h2
  have := h.ok k (by rw [h.len] at h1; omega)
  rw [if_pos (Nat.zero_le _), ← lrow_get (i := i) (by rw [h.len] at h1; omega), List.getD_eq_getElem?_getD, List.getD_eq_getElem?_getD, List.getElem?_eq_getElem h1, List.getElem?_eq_getElem h2] at this
  exact this
/-! ### The walk through the table -/
/-- How far two texts are gone through, and what was put together. -/
structure DI (a b : List Int) (i k : Nat) (ps : List Part) : Prop where
  ile : i ≤ a.length
  kle : k ≤ b.length
  go : ps ++ dp (a.drop i) (b.drop k) = dp a b
theorem DI.start (a b : List Int) : DI a b 0 0 [] := ⟨Nat.zero_le _, Nat.zero_le _, by simp⟩
section
variable {a b : List Int} {i k : Nat} {ps : List Part}
theorem DI.keep (h : DI a b i k ps) (hi : i < a.length) (hk : k < b.length) (e : a.getD i 0 = b.getD k 0) : DI a b (i + 1) (k + 1) (ps ++ [keep1]) :=
  ⟨by omega, by omega, by rw [← h.go, getD_drop hi rfl, getD_drop hk rfl, dp_both, if_pos e]; simp⟩
theorem DI.drop (h : DI a b i k ps) (hi : i < a.length) (hc : b.length ≤ k ∨ (¬ (k < b.length ∧ a.getD i 0 = b.getD k 0) ∧ lc a b i (k + 1) ≤ lc a b (i + 1) k)) : DI a b (i + 1) k (ps ++ [drop1]) := by
  refine ⟨by omega, h.kle, ?_⟩
  rw [← h.go, getD_drop hi rfl]
  rcases Nat.lt_or_ge k b.length with hk | hk
  · rcases hc with hc | hc
    · omega
    · have hne : ¬ a.getD i 0 = b.getD k 0 := fun e => hc.1 ⟨hk, e⟩
      have hle := hc.2
      unfold lc at hle
      rw [getD_drop hi rfl, getD_drop hk rfl] at hle
      rw [getD_drop hk rfl, dp_both, if_neg hne, if_pos hle]; simp
  · rw [List.drop_eq_nil_of_le (as := b) hk, dp_drop]; simp
theorem DI.put (h : DI a b i k ps) (hk : k < b.length) (hc : a.length ≤ i ∨ (¬ a.getD i 0 = b.getD k 0 ∧ ¬ lc a b i (k + 1) ≤ lc a b (i + 1) k)) : DI a b i (k + 1) (ps ++ [put1 (b.getD k 0)]) := by
  refine ⟨h.ile, by omega, ?_⟩
  rw [← h.go, getD_drop hk rfl]
  rcases Nat.lt_or_ge i a.length with hi | hi
  · rcases hc with hc | hc
    · omega
    · have hle := hc.2
      unfold lc at hle
      rw [getD_drop hi rfl, getD_drop hk rfl] at hle
      rw [getD_drop hi rfl, dp_both, if_neg hc.1, if_neg hle]; simp
  · rw [List.drop_eq_nil_of_le (as := a) hi, dp_put]; simp
theorem DI.stop (h : DI a b i k ps) (hi : a.length ≤ i) (hk : b.length ≤ k) : ps = dp a b := by
  rw [← h.go, List.drop_eq_nil_of_le hi, List.drop_eq_nil_of_le hk, dp_nil, List.append_nil]
theorem DI.len (h : DI a b i k ps) (hs : ∀ y ∈ b, scalar y) : ps.length ≤ a.length + b.length := by
  have h1 := (dp_facts _ a b (Nat.le_refl _) hs).2.2.2.2.2
  rw [← h.go, List.length_append] at h1; omega
theorem DI.fits (h : DI a b i k ps) (hs : ∀ y ∈ b, scalar y) : Fits ps := fun p hp => (dp_facts _ a b (Nat.le_refl _) hs).1 p (by rw [← h.go]; exact List.mem_append_left _ hp)
end
/-! ### The front -/
/-! ### What is answered -/
end Go.SK

set_option linter.unusedVariables false
set_option linter.unusedSimpArgs false
set_option maxRecDepth 100000
namespace Go.SK
open Go
/-! ### Merged -/
/-! ### Met -/
end Go.SK
