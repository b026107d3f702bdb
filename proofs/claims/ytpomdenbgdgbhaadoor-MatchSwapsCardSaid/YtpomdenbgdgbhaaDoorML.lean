/- Plain words: patterns read. Plain words: the steps of a pattern. Plain words: two ways to look for a way through a pattern, one step of the text at a time and one path after the other. Plain words: what is found of a pattern; groups stand in order. Plain words: what a pattern's finds look like; all of them; what is put for them. Plain words: what is put for what is found; the edit. Plain words: the edit by which a text stands for what is found. -/
import Derived.Test.YtpomdenbgdgbhaaDoorNC
set_option linter.unusedVariables false
set_option linter.unusedSimpArgs false
set_option maxRecDepth 100000
namespace Go.SK
open Go
/-- A part of a pattern: a set (or all others), a line's beginning, its end, a row, rows with | between, a counted part, a group. -/
inductive Nd where
  | cls (neg : Bool) (sp : List (Int × Int))
  | bol
  | eol
  | seq (k : List Nd)
  | alt (k : List Nd)
  | rep (k : Nd) (lo hi : Int) (lazy : Bool)
  | grp (k : Nd) (num : Nat)
instance : Inhabited Nd := ⟨.bol⟩
mutual
def Nd.size : Nd → Nat
  | .cls _ _ => 1
  | .bol => 1
  | .eol => 1
  | .seq k => 1 + sizes k
  | .alt k => 1 + sizes k
  | .rep k _ _ _ => 1 + k.size
  | .grp k _ => 1 + k.size
def sizes : List Nd → Nat
  | [] => 0
  | h :: t => h.size + sizes t
end
theorem sizes_append (a b : List Nd) : sizes (a ++ b) = sizes a + sizes b := by
  induction a with
  | nil => simp [sizes]
  | cons h t ih => simp only [List.cons_append, sizes, ih]; omega
theorem size_mem {k : List Nd} {x : Nd} (h : x ∈ k) : x.size ≤ sizes k := by
  induction k with
  | nil => cases h
  | cons a t ih =>
    rcases List.mem_cons.1 h with rfl | h
    · simp only [sizes]; omega
    · have := ih h; simp only [sizes]; omega
/-- What stands in a pattern: numbers of groups up to G, counts up to 100. -/
inductive NdOk (G : Nat) : Nd → Prop
  | cls {neg sp} : NdOk G (.cls neg sp)
  | bol : NdOk G .bol
  | eol : NdOk G .eol
  | seq {k} : (∀ x ∈ k, NdOk G x) → NdOk G (.seq k)
  | alt {k} : k ≠ [] → (∀ x ∈ k, NdOk G x) → NdOk G (.alt k)
  | rep {k lo hi lazy} : NdOk G k → 0 ≤ lo → lo ≤ 100 → hi ≤ 100 → (hi < 0 ∨ lo ≤ hi) → NdOk G (.rep k lo hi lazy)
  | grp {k num} : NdOk G k → 1 ≤ num → num ≤ G → NdOk G (.grp k num)
theorem NdOk.mono {G G' : Nat} (h : G ≤ G') : ∀ {t : Nd}, NdOk G t → NdOk G' t
  | _, .cls => .cls
  | _, .bol => .bol
  | _, .eol => .eol
  | _, .seq hk => .seq fun x hx => (hk x hx).mono h
  | _, .alt hn hk => .alt hn fun x hx => (hk x hx).mono h
  | _, .rep hk a b c d => .rep (hk.mono h) a b c d
  | _, .grp hk a b => .grp (hk.mono h) a (by omega)
/-! ### Reading -/
inductive PR (α : Type) where
  | ok (t : α) (at_ g : Nat)
  | err (e : Int) (at_ : Nat)
def nx (l : List Int) (i : Nat) : Int := l.getD i (-1)
theorem nx_in {l : List Int} {i : Nat} (h : i < l.length) : nx l i = l.getD i 0 := by
  unfold nx
  rw [List.getD_eq_getElem?_getD, List.getD_eq_getElem?_getD, List.getElem?_eq_getElem h]; rfl
theorem nx_out {l : List Int} {i : Nat} (h : l.length ≤ i) : nx l i = -1 := by
  unfold nx
  rw [List.getD_eq_getElem?_getD, List.getElem?_eq_none h]; rfl
/-- A number: what it says (none: there is none, or it is too great), and where it ends. -/
def numGo (l : List Int) : Nat → Nat → Int → Bool → Option Int × Nat
  | 0, i, _, _ => (none, i)
  | f + 1, i, n, some_ => if 48 ≤ nx l i ∧ nx l i ≤ 57 then (if 100 < 10 * n + (nx l i - 48) then (none, i) else numGo l f (i + 1) (10 * n + (nx l i - 48)) true) else (if some_ then some n else none, i)
def numF (l : List Int) (i : Nat) : Option Int × Nat := numGo l (l.length + 1 - i) i 0 false
def closeT (l : List Int) (lo hi : Int) (i : Nat) : PR (Int × Int) := if nx l i = 125 then .ok (lo, hi) (i + 1) 0 else .err 90 i
def timesF (l : List Int) (i : Nat) : PR (Int × Int) :=
  match numF l i with
  | (none, j) => .err 90 j
  | (some lo, j) =>
    if nx l j = 44 then
      if j + 1 < l.length ∧ nx l (j + 1) ≠ 125 then
        match numF l (j + 1) with
        | (none, k) => .err 90 k
        | (some hi, k) => if hi < lo then .err 90 k else closeT l lo hi k
      else closeT l lo (-1) (j + 1)
    else closeT l lo lo j
def namedF (c : Int) : Option (List (Int × Int)) :=
  if c = 100 then some [(48, 57)] else if c = 119 then some [(48, 57), (65, 90), (95, 95), (97, 122)] else if c = 115 then some [(9, 10), (32, 32)] else if c = 110 then some [(10, 10)] else if c = 116 then some [(9, 9)]
  else if (97 ≤ c ∧ c ≤ 122) ∨ (65 ≤ c ∧ c ≤ 90) ∨ (48 ≤ c ∧ c ≤ 57) then none else some [(c, c)]
def escF (l : List Int) (i : Nat) : PR (List (Int × Int)) :=
  if i < l.length then (match namedF (nx l i) with | none => .err 90 i | some s => .ok s (i + 1) 0) else .err 90 i
/-- May a range stand here: something, -, and no closing bracket? -/
def rangeB (l : List Int) (i : Nat) : Prop := i + 1 < l.length ∧ nx l i = 45 ∧ nx l (i + 1) ≠ 93
instance (l : List Int) (i : Nat) : Decidable (rangeB l i) := by unfold rangeB; infer_instance
def setGo (l : List Int) (neg : Bool) : Nat → Nat → List (Int × Int) → PR Nd
  | 0, i, _ => .err 0 i
  | f + 1, i, acc =>
    if nx l i = 93 then (if acc = [] then .err 90 i else .ok (.cls neg acc) (i + 1) 0)
    else if ¬ i < l.length ∨ nx l i = 91 then .err 90 i
    else if nx l i = 92 then (match escF l (i + 1) with | .err e j => .err e j | .ok s j _ => setGo l neg f j (acc ++ s))
    else if rangeB l (i + 1) then (if nx l (i + 2) < nx l i ∨ nx l (i + 2) = 92 ∨ nx l (i + 2) = 91 then .err 90 (i + 2) else setGo l neg f (i + 3) (acc ++ [(nx l i, nx l (i + 2))]))
    else setGo l neg f (i + 1) (acc ++ [(nx l i, nx l i)])
def setF (l : List Int) (i : Nat) : PR Nd := if nx l i = 94 then setGo l true (l.length + 1 - i) (i + 1) [] else setGo l false (l.length + 1 - i) i []
def isRepB (c : Int) : Prop := c = 42 ∨ c = 43 ∨ c = 63 ∨ c = 123
instance (c : Int) : Decidable (isRepB c) := by unfold isRepB; infer_instance
def badB (c : Int) : Prop := c = 42 ∨ c = 43 ∨ c = 63 ∨ c = 123 ∨ c = 125 ∨ c = 93
instance (c : Int) : Decidable (badB c) := by unfold badB; infer_instance
section
variable (l : List Int)
/-- One part; E reads what stands in parentheses. -/
def partF (E : Nat → Nat → PR Nd) (i g : Nat) : PR Nd :=
  if nx l i = 46 then .ok (.cls true [(10, 10)]) (i + 1) g else if nx l i = 94 then .ok .bol (i + 1) g else if nx l i = 36 then .ok .eol (i + 1) g
  else if nx l i = 91 then (match setF l (i + 1) with | .err e j => .err e j | .ok t j _ => .ok t j g)
  else if nx l i = 92 then (match escF l (i + 1) with | .err e j => .err e j | .ok s j _ => .ok (.cls false s) j g)
  else if nx l i = 40 then (match E (i + 1) (g + 1) with | .err e j => .err e j | .ok n j g' => if nx l j = 41 then .ok (.grp n (g + 1)) (j + 1) g' else .err 90 j)
  else if badB (nx l i) then .err 90 i
  else .ok (.cls false [(nx l i, nx l i)]) (i + 1) g
/-- Behind a count: is it lazy, and does none follow? -/
def lazyF (n : Nd) (lo hi : Int) (i g : Nat) : PR Nd :=
  if nx l i = 63 then (if isRepB (nx l (i + 1)) then .err 90 (i + 1) else .ok (.rep n lo hi true) (i + 1) g)
  else (if isRepB (nx l i) then .err 90 i else .ok (.rep n lo hi false) i g)
def countedF (P : Nat → Nat → PR Nd) (i g : Nat) : PR Nd :=
  match P i g with
  | .err e j => .err e j
  | .ok n j g =>
    if nx l j = 42 then lazyF l n 0 (-1) (j + 1) g else if nx l j = 43 then lazyF l n 1 (-1) (j + 1) g else if nx l j = 63 then lazyF l n 0 1 (j + 1) g
    else if nx l j = 123 then (match timesF l (j + 1) with | .err e k => .err e k | .ok r k _ => lazyF l n r.1 r.2 k g)
    else .ok n j g
def rowGo (P : Nat → Nat → PR Nd) : Nat → Nat → Nat → List Nd → PR Nd
  | 0, i, _, _ => .err 0 i
  | f + 1, i, g, acc => if i < l.length ∧ nx l i ≠ 124 ∧ nx l i ≠ 41 then (match countedF l P i g with | .err e j => .err e j | .ok n j g' => rowGo P f j g' (acc ++ [n])) else .ok (.seq acc) i g
def rowF (P : Nat → Nat → PR Nd) (i g : Nat) : PR Nd := rowGo l P (l.length + 1 - i) i g []
def altGo (P : Nat → Nat → PR Nd) : Nat → Nat → Nat → List Nd → PR Nd
  | 0, i, _, _ => .err 0 i
  | f + 1, i, g, acc => if nx l i = 124 then (match rowF l P (i + 1) g with | .err e j => .err e j | .ok n j g' => altGo P f j g' (acc ++ [n])) else .ok (.alt acc) i g
def eitherF (P : Nat → Nat → PR Nd) (deep i g : Nat) : PR Nd :=
  if 20 < deep then .err 4 i else match rowF l P i g with | .err e j => .err e j | .ok n j g' => altGo l P (l.length + 1 - j) j g' [n]
end
/-- So deep parentheses are read. -/
def pPart (l : List Int) : Nat → Nat → Nat → Nat → PR Nd
  | 0, _, i, _ => .err 0 i
  | n + 1, deep, i, g => partF l (fun i g => eitherF l (pPart l n (deep + 1)) (deep + 1) i g) i g
/-- A pattern's root, how many groups it has; or where it can't go on. -/
def parseF (l : List Int) : PR Nd :=
  match eitherF l (pPart l (l.length + 1) 0) 0 0 0 with
  | .err e j => .err e j
  | .ok n j g => if j < l.length then .err 90 j else .ok n j g
/-! ### How far reading goes, and what it makes -/
structure Adv (l : List Int) (i g j g' : Nat) (t : Nd) : Prop where
  lt : i < j
  le : j ≤ l.length
  sz : t.size ≤ 2 * (j - i)
  g0 : g ≤ g'
  g1 : g' ≤ g + (j - i)
  ok : NdOk g' t
theorem nx_some {l : List Int} {i : Nat} {c : Int} (h : nx l i = c) (hc : c ≠ -1) : i < l.length := by
  rcases Nat.lt_or_ge i l.length with h1 | h1
  · exact h1
  · exact absurd ((nx_out h1).symm.trans h) (fun e => hc e.symm)
theorem nx_ge {l : List Int} {i : Nat} {c : Int} (h : c ≤ nx l i) (hc : 0 ≤ c) : i < l.length := by
  rcases Nat.lt_or_ge i l.length with h1 | h1
  · exact h1
  · rw [nx_out h1] at h; omega
theorem numGo_adv (l : List Int) : ∀ (f i : Nat) (n : Int) (b : Bool), i ≤ l.length → 0 ≤ n → n ≤ 100 → i ≤ (numGo l f i n b).2 ∧ (numGo l f i n b).2 ≤ l.length ∧ ∀ v, (numGo l f i n b).1 = some v → 0 ≤ v ∧ v ≤ 100 ∧ (b = false → i < (numGo l f i n b).2)
  | 0, i, n, b, hi, h0, h1 => ⟨Nat.le_refl _, hi, fun v hv => by cases hv⟩
  | f + 1, i, n, b, hi, h0, h1 => by
    rw [numGo]
    split
    · rename_i h
      have hlt := nx_ge h.1 (by decide)
      split
      · exact ⟨Nat.le_refl _, hi, fun v hv => by cases hv⟩
      · rename_i h2
        obtain ⟨a, b', c⟩ := numGo_adv l f (i + 1) (10 * n + (nx l i - 48)) true (by omega) (by omega) (by omega)
        exact ⟨by omega, b', fun v hv => ⟨(c v hv).1, (c v hv).2.1, fun _ => by omega⟩⟩
    · refine ⟨Nat.le_refl _, hi, fun v hv => ?_⟩
      cases b with
      | true => simp only [if_true] at hv; injection hv with hv; subst hv; exact ⟨h0, h1, fun h => by cases h⟩
      | false => simp at hv
theorem numF_adv {l : List Int} {i j : Nat} {o : Option Int} (hi : i ≤ l.length) (h : numF l i = (o, j)) : i ≤ j ∧ j ≤ l.length ∧ ∀ v, o = some v → 0 ≤ v ∧ v ≤ 100 ∧ i < j := by
  obtain ⟨a, b, c⟩ := numGo_adv l (l.length + 1 - i) i 0 false hi (by omega) (by omega)
  unfold numF at h
  rw [h] at a b c
  exact ⟨a, b, fun v hv => ⟨(c v hv).1, (c v hv).2.1, (c v hv).2.2 rfl⟩⟩
theorem timesF_adv {l : List Int} {i j g : Nat} {r : Int × Int} (hi : i ≤ l.length) (h : timesF l i = .ok r j g) : i < j ∧ j ≤ l.length ∧ 0 ≤ r.1 ∧ r.1 ≤ 100 ∧ r.2 ≤ 100 ∧ (r.2 < 0 ∨ r.1 ≤ r.2) := by
  unfold timesF at h
  have cl : ∀ {lo hi k}, k ≤ l.length → i ≤ k → 0 ≤ lo → lo ≤ 100 → hi ≤ 100 → (hi < 0 ∨ lo ≤ hi) → closeT l lo hi k = .ok r j g → i < j ∧ j ≤ l.length ∧ 0 ≤ r.1 ∧ r.1 ≤ 100 ∧ r.2 ≤ 100 ∧ (r.2 < 0 ∨ r.1 ≤ r.2) := by
    intro lo hi k hk hik a b c d h
    unfold closeT at h
    split at h
    · rename_i h1
      have := nx_some h1 (by decide)
      injection h with h2 h3 h4
      subst h2; subst h3
      exact ⟨by omega, by omega, a, b, c, d⟩
    · cases h
  cases h1 : numF l i with
  | mk o k =>
    obtain ⟨a, b, c⟩ := numF_adv hi h1
    rw [h1] at h
    cases o with
    | none => cases h
    | some lo =>
      obtain ⟨c1, c2, c3⟩ := c lo rfl
      simp only at h
      split at h
      · rename_i h2
        have hk := nx_some h2 (by decide)
        split at h
        · cases h3 : numF l (k + 1) with
          | mk o2 k2 =>
            obtain ⟨a', b', c'⟩ := numF_adv (by omega) h3
            rw [h3] at h
            cases o2 with
            | none => cases h
            | some hi2 =>
              obtain ⟨d1, d2, d3⟩ := c' hi2 rfl
              simp only at h
              split at h
              · cases h
              · exact cl b' (by omega) c1 c2 d2 (by omega) h
        · exact cl (by omega) (by omega) c1 c2 (by omega) (by omega) h
      · exact cl b (by omega) c1 c2 c2 (by omega) h
theorem escF_adv {l : List Int} {i j g : Nat} {s : List (Int × Int)} (h : escF l i = .ok s j g) : j = i + 1 ∧ i < l.length ∧ namedF (nx l i) = some s := by
  unfold escF at h
  split at h
  · rename_i h1
    cases h2 : namedF (nx l i) with
    | none => rw [h2] at h; cases h
    | some s' => rw [h2] at h; injection h with a b c; subst a; subst b; exact ⟨rfl, h1, rfl⟩
  · cases h
theorem setGo_adv (l : List Int) (neg : Bool) : ∀ (f i : Nat) (acc : List (Int × Int)) {t : Nd} {j g : Nat}, i ≤ l.length → setGo l neg f i acc = .ok t j g → i < j ∧ j ≤ l.length ∧ ∃ sp, t = .cls neg sp
  | 0, i, acc, t, j, g, hi, h => by cases h
  | f + 1, i, acc, t, j, g, hi, h => by
    rw [setGo] at h
    split at h
    · rename_i h1
      have := nx_some h1 (by decide)
      split at h
      · cases h
      · injection h with a b c; subst a; subst b; exact ⟨by omega, by omega, _, rfl⟩
    · split at h
      · cases h
      · rename_i h1
        have hlt : i < l.length := by omega
        split at h
        · cases h2 : escF l (i + 1) with
          | err e k => rw [h2] at h; cases h
          | ok s k g' =>
            rw [h2] at h
            obtain ⟨rfl, b, _⟩ := escF_adv h2
            obtain ⟨x, y, z⟩ := setGo_adv l neg f _ _ (by omega) h
            exact ⟨by omega, y, z⟩
        · split at h
          · rename_i h3
            split at h
            · cases h
            · have := h3.1
              obtain ⟨x, y, z⟩ := setGo_adv l neg f _ _ (by omega) h
              exact ⟨by omega, y, z⟩
          · obtain ⟨x, y, z⟩ := setGo_adv l neg f _ _ (by omega) h
            exact ⟨by omega, y, z⟩
theorem setF_adv {l : List Int} {i j g : Nat} {t : Nd} (hi : i ≤ l.length) (h : setF l i = .ok t j g) : i < j ∧ j ≤ l.length ∧ ∃ neg sp, t = .cls neg sp := by
  unfold setF at h
  split at h
  · rename_i h1
    have := nx_some h1 (by decide)
    obtain ⟨a, b, c, d⟩ := setGo_adv l true _ _ _ (by omega) h
    exact ⟨by omega, b, _, c, d⟩
  · obtain ⟨a, b, c, d⟩ := setGo_adv l false _ _ _ hi h
    exact ⟨by omega, b, _, c, d⟩
section
variable {l : List Int}
/-- What a reader of parts is held to. -/
def AdvP (l : List Int) (P : Nat → Nat → PR Nd) : Prop := ∀ i g t j g', i < l.length → P i g = .ok t j g' → Adv l i g j g' t
theorem lazyF_adv {n t : Nd} {lo hi : Int} {i0 g0 i g j g' : Nat} (h0 : i0 < i) (hl : i ≤ l.length) (hs : n.size + 1 ≤ 2 * (i - i0)) (hg : g0 ≤ g) (hg1 : g ≤ g0 + (i - i0)) (hn : NdOk g n) (a : 0 ≤ lo) (b : lo ≤ 100) (c : hi ≤ 100) (d : hi < 0 ∨ lo ≤ hi) (h : lazyF l n lo hi i g = .ok t j g') : Adv l i0 g0 j g' t := by
  unfold lazyF at h
  split at h
  · rename_i h1
    have := nx_some h1 (by decide)
    split at h
    · cases h
    · injection h with x y z; subst x; subst y; subst z
      exact ⟨by omega, by omega, by simp only [Nd.size]; omega, hg, by omega, .rep hn a b c d⟩
  · split at h
    · cases h
    · injection h with x y z; subst x; subst y; subst z
      exact ⟨h0, hl, by simp only [Nd.size]; omega, hg, hg1, .rep hn a b c d⟩
theorem countedF_adv {P : Nat → Nat → PR Nd} (hP : AdvP l P) {i g j g' : Nat} {t : Nd} (hi : i < l.length) (h : countedF l P i g = .ok t j g') : Adv l i g j g' t := by
  unfold countedF at h
  cases h1 : P i g with
  | err e k => rw [h1] at h; cases h
  | ok n k g1 =>
    have A := hP i g n k g1 hi h1
    rw [h1] at h
    simp only at h
    have a1 := A.lt; have a2 := A.le; have a3 := A.sz; have a4 := A.g0; have a5 := A.g1
    have key : ∀ {lo hi c}, nx l k = c → c ≠ -1 → 0 ≤ lo → lo ≤ 100 → hi ≤ 100 → (hi < 0 ∨ lo ≤ hi) → lazyF l n lo hi (k + 1) g1 = .ok t j g' → Adv l i g j g' t := fun e1 e2 x1 x2 x3 x4 e3 => by
      have := nx_some e1 e2
      exact lazyF_adv (by omega) (by omega) (by omega) a4 (by omega) A.ok x1 x2 x3 x4 e3
    split at h
    · rename_i e; exact key e (by decide) (by omega) (by omega) (by omega) (by omega) h
    · split at h
      · rename_i e; exact key e (by decide) (by omega) (by omega) (by omega) (by omega) h
      · split at h
        · rename_i e; exact key e (by decide) (by omega) (by omega) (by omega) (by omega) h
        · split at h
          · rename_i e
            have := nx_some e (by decide)
            cases h2 : timesF l (k + 1) with
            | err e k => rw [h2] at h; cases h
            | ok r k2 g2 =>
              rw [h2] at h
              obtain ⟨b1, b2, b3, b4, b5, b6⟩ := timesF_adv (by omega) h2
              exact lazyF_adv (by omega) (by omega) (by omega) a4 (by omega) A.ok b3 b4 b5 b6 h
          · injection h with x y z; subst x; subst y; subst z; exact A
structure AdvR (l : List Int) (i g j g' : Nat) (s : Nat) (k : List Nd) : Prop where
  le0 : i ≤ j
  le : j ≤ l.length
  sz : sizes k ≤ s + 2 * (j - i)
  g0 : g ≤ g'
  g1 : g' ≤ g + (j - i)
  ok : ∀ x ∈ k, NdOk g' x
theorem rowGo_adv {P : Nat → Nat → PR Nd} (hP : AdvP l P) : ∀ (f i g : Nat) (acc : List Nd) {t : Nd} {j g' : Nat}, i ≤ l.length → (∀ x ∈ acc, NdOk g x) → rowGo l P f i g acc = .ok t j g' → ∃ k, t = .seq k ∧ AdvR l i g j g' (sizes acc) k
  | 0, i, g, acc, t, j, g', hi, ho, h => by cases h
  | f + 1, i, g, acc, t, j, g', hi, ho, h => by
    rw [rowGo] at h
    split at h
    · rename_i h0
      cases h1 : countedF l P i g with
      | err e k => rw [h1] at h; cases h
      | ok n k g1 =>
        rw [h1] at h
        have A := countedF_adv hP h0.1 h1
        have a1 := A.lt; have a2 := A.le; have a3 := A.sz; have a4 := A.g0; have a5 := A.g1
        obtain ⟨ks, e, B⟩ := rowGo_adv hP f k g1 (acc ++ [n]) a2 (fun x hx => by
          rcases List.mem_append.1 hx with hx | hx
          · exact (ho x hx).mono a4
          · rw [List.mem_singleton.1 hx]; exact A.ok) h
        have b1 := B.le0; have b2 := B.le; have b3 := B.sz; have b4 := B.g0; have b5 := B.g1
        rw [sizes_append] at b3
        have e1 : sizes [n] = n.size := by simp [sizes]
        exact ⟨ks, e, by omega, b2, by omega, by omega, by omega, B.ok⟩
    · injection h with x y z; subst x; subst y; subst z
      exact ⟨acc, rfl, Nat.le_refl _, hi, by omega, Nat.le_refl _, by omega, ho⟩
theorem rowF_adv {P : Nat → Nat → PR Nd} (hP : AdvP l P) {i g j g' : Nat} {t : Nd} (hi : i ≤ l.length) (h : rowF l P i g = .ok t j g') : i ≤ j ∧ j ≤ l.length ∧ t.size ≤ 1 + 2 * (j - i) ∧ g ≤ g' ∧ g' ≤ g + (j - i) ∧ NdOk g' t := by
  obtain ⟨k, rfl, A⟩ := rowGo_adv hP _ _ _ _ hi (fun x hx => by cases hx) h
  have := A.sz
  simp only [sizes] at this
  exact ⟨A.le0, A.le, by simp only [Nd.size]; omega, A.g0, A.g1, .seq A.ok⟩
theorem altGo_adv {P : Nat → Nat → PR Nd} (hP : AdvP l P) : ∀ (f i g : Nat) (acc : List Nd) {t : Nd} {j g' : Nat}, i ≤ l.length → acc ≠ [] → (∀ x ∈ acc, NdOk g x) → altGo l P f i g acc = .ok t j g' → ∃ k, t = .alt k ∧ k ≠ [] ∧ AdvR l i g j g' (sizes acc) k
  | 0, i, g, acc, t, j, g', hi, hne, ho, h => by cases h
  | f + 1, i, g, acc, t, j, g', hi, hne, ho, h => by
    rw [altGo] at h
    split at h
    · rename_i h0
      have hlt := nx_some h0 (by decide)
      cases h1 : rowF l P (i + 1) g with
      | err e k => rw [h1] at h; cases h
      | ok n k g1 =>
        rw [h1] at h
        obtain ⟨a1, a2, a3, a4, a5, a6⟩ := rowF_adv hP (by omega) h1
        obtain ⟨ks, e, hk, B⟩ := altGo_adv hP f k g1 (acc ++ [n]) a2 (by simp) (fun x hx => by
          rcases List.mem_append.1 hx with hx | hx
          · exact (ho x hx).mono a4
          · rw [List.mem_singleton.1 hx]; exact a6) h
        have b1 := B.le0; have b2 := B.le; have b3 := B.sz; have b4 := B.g0; have b5 := B.g1
        rw [sizes_append] at b3
        have e1 : sizes [n] = n.size := by simp [sizes]
        exact ⟨ks, e, hk, by omega, b2, by omega, by omega, by omega, B.ok⟩
    · injection h with x y z; subst x; subst y; subst z
      exact ⟨acc, rfl, hne, Nat.le_refl _, hi, by omega, Nat.le_refl _, by omega, ho⟩
theorem eitherF_adv {P : Nat → Nat → PR Nd} (hP : AdvP l P) {deep i g j g' : Nat} {t : Nd} (hi : i ≤ l.length) (h : eitherF l P deep i g = .ok t j g') : i ≤ j ∧ j ≤ l.length ∧ t.size ≤ 2 + 2 * (j - i) ∧ g ≤ g' ∧ g' ≤ g + (j - i) ∧ NdOk g' t := by
  unfold eitherF at h
  split at h
  · cases h
  · cases h1 : rowF l P i g with
    | err e k => rw [h1] at h; cases h
    | ok n k g1 =>
      rw [h1] at h
      obtain ⟨a1, a2, a3, a4, a5, a6⟩ := rowF_adv hP hi h1
      obtain ⟨ks, rfl, hk, B⟩ := altGo_adv hP _ _ _ [n] a2 (by simp) (fun x hx => by rw [List.mem_singleton.1 hx]; exact a6) h
      have b1 := B.le0; have b2 := B.le; have b3 := B.sz; have b4 := B.g0; have b5 := B.g1
      have e1 : sizes [n] = n.size := by simp [sizes]
      exact ⟨by omega, b2, by simp only [Nd.size]; omega, by omega, by omega, .alt hk B.ok⟩
theorem partF_adv {E : Nat → Nat → PR Nd} (hE : ∀ i g t j g', i ≤ l.length → E i g = .ok t j g' → i ≤ j ∧ j ≤ l.length ∧ t.size ≤ 2 + 2 * (j - i) ∧ g ≤ g' ∧ g' ≤ g + (j - i) ∧ NdOk g' t) : AdvP l (partF l E) := by
  intro i g t j g' hi h
  unfold partF at h
  have one : ∀ {u : Nd}, u.size = 1 → NdOk g u → PR.ok u (i + 1) g = .ok t j g' → Adv l i g j g' t := fun e1 e2 e3 => by
    injection e3 with x y z; subst x; subst y; subst z
    exact ⟨by omega, by omega, by omega, Nat.le_refl _, by omega, e2⟩
  split at h
  · exact one rfl .cls h
  · split at h
    · exact one rfl .bol h
    · split at h
      · exact one rfl .eol h
      · split at h
        · cases h1 : setF l (i + 1) with
          | err e k => rw [h1] at h; cases h
          | ok u k g1 =>
            rw [h1] at h
            obtain ⟨a, b, neg, sp, rfl⟩ := setF_adv (by omega) h1
            injection h with x y z; subst x; subst y; subst z
            exact ⟨by omega, b, by simp only [Nd.size]; omega, Nat.le_refl _, by omega, .cls⟩
        · split at h
          · cases h1 : escF l (i + 1) with
            | err e k => rw [h1] at h; cases h
            | ok u k g1 =>
              rw [h1] at h
              obtain ⟨rfl, b, _⟩ := escF_adv h1
              injection h with x y z; subst x; subst y; subst z
              exact ⟨by omega, by omega, by simp only [Nd.size]; omega, Nat.le_refl _, by omega, .cls⟩
          · split at h
            · cases h1 : E (i + 1) (g + 1) with
              | err e k => rw [h1] at h; cases h
              | ok u k g1 =>
                rw [h1] at h
                obtain ⟨a1, a2, a3, a4, a5, a6⟩ := hE _ _ _ _ _ (by omega) h1
                simp only at h
                split at h
                · rename_i h2
                  have := nx_some h2 (by decide)
                  injection h with x y z; subst x; subst y; subst z
                  exact ⟨by omega, by omega, by simp only [Nd.size]; omega, by omega, by omega, .grp a6 (by omega) (by omega)⟩
                · cases h
            · split at h
              · cases h
              · exact one rfl .cls h
theorem pPart_adv : ∀ (n deep : Nat), AdvP l (pPart l n deep)
  | 0, deep => fun i g t j g' hi h => by cases h
  | n + 1, deep => partF_adv (fun i g t j g' hi h => eitherF_adv (pPart_adv n (deep + 1)) hi h)
end
theorem parseF_ok {l : List Int} {t : Nd} {j g : Nat} (h : parseF l = .ok t j g) : j = l.length ∧ t.size ≤ 2 + 2 * l.length ∧ g ≤ l.length ∧ NdOk g t := by
  unfold parseF at h
  cases h1 : eitherF l (pPart l (l.length + 1) 0) 0 0 0 with
  | err e k => rw [h1] at h; cases h
  | ok n k g1 =>
    rw [h1] at h
    simp only at h
    obtain ⟨a1, a2, a3, a4, a5, a6⟩ := eitherF_adv (pPart_adv _ _) (Nat.zero_le _) h1
    split at h
    · cases h
    · injection h with x y z; subst x; subst y; subst z
      exact ⟨by omega, by omega, by omega, a6⟩
end Go.SK

set_option linter.unusedVariables false
set_option linter.unusedSimpArgs false
set_option maxRecDepth 100000
namespace Go.SK
open Go
/-- A step: 0 to eat, 1 to go on here or there, 2 to save, 3 a line's beginning, 4 its end, 5 the end. -/
structure StP where
  k : Int
  neg : Bool
  set : List (Int × Int)
  x : Nat
  y : Nat
  deriving DecidableEq
instance : Inhabited StP := ⟨⟨0, false, [], 0, 0⟩⟩
abbrev stB (x y : Nat) : StP := ⟨1, false, [], x, y⟩
mutual
/-- How many steps a part has. -/
def clen : Nd → Nat
  | .cls _ _ => 1
  | .bol => 1
  | .eol => 1
  | .seq k => clens k
  | .alt k => clens k + 2 * (k.length - 1)
  | .rep k lo hi _ => lo.toNat * clen k + (if hi < 0 then clen k + 2 else (hi.toNat - lo.toNat) * (clen k + 1))
  | .grp k _ => clen k + 2
def clens : List Nd → Nat
  | [] => 0
  | t :: r => clen t + clens r
end
/-- So many times the same, one behind the other. -/
def timesC (f : Nat → List StP) (c : Nat) : Nat → Nat → List StP
  | 0, _ => []
  | n + 1, b => f b ++ timesC f c n (b + c)
def fork (here there : Nat) (lazy : Bool) : StP := if lazy then stB there here else stB here there
/-- So many times, each as one likes; e: behind all of them. -/
def mayC (f : Nat → List StP) (c e : Nat) (lazy : Bool) : Nat → Nat → List StP
  | 0, _ => []
  | n + 1, b => fork (b + 1) e lazy :: (f (b + 1) ++ mayC f c e lazy n (b + 1 + c))
mutual
/-- The steps of a part that begins at b. -/
def pcN : Nd → Nat → List StP
  | .cls neg sp, b => [⟨0, neg, sp, b + 1, 0⟩]
  | .bol, b => [⟨3, false, [], b + 1, 0⟩]
  | .eol, b => [⟨4, false, [], b + 1, 0⟩]
  | .seq k, b => pcS k b
  | .alt k, b => pcA k b
  | .rep k lo hi lazy, b => timesC (pcN k) (clen k) lo.toNat b ++
      (if hi < 0 then fork (b + lo.toNat * clen k + 1) (b + lo.toNat * clen k + clen k + 2) lazy :: (pcN k (b + lo.toNat * clen k + 1) ++ [stB (b + lo.toNat * clen k) (b + lo.toNat * clen k)])
       else mayC (pcN k) (clen k) (b + lo.toNat * clen k + (hi.toNat - lo.toNat) * (clen k + 1)) lazy (hi.toNat - lo.toNat) (b + lo.toNat * clen k))
  | .grp k num, b => ⟨2, false, [], b + 1, 2 * num⟩ :: (pcN k (b + 1) ++ [⟨2, false, [], b + clen k + 2, 2 * num + 1⟩])
def pcS : List Nd → Nat → List StP
  | [], _ => []
  | t :: r, b => pcN t b ++ pcS r (b + clen t)
def pcA : List Nd → Nat → List StP
  | [], _ => []
  | t :: r, b => if r.isEmpty then pcN t b else
      stB (b + 1) (b + clen t + 2) :: (pcN t (b + 1) ++ (stB (b + clen t + 2 + clens r + 2 * (r.length - 1)) (b + clen t + 2 + clens r + 2 * (r.length - 1)) :: pcA r (b + clen t + 2)))
end
theorem timesC_len {f : Nat → List StP} {c : Nat} (h : ∀ b, (f b).length = c) : ∀ n b, (timesC f c n b).length = n * c
  | 0, b => by simp [timesC]
  | n + 1, b => by rw [timesC, List.length_append, h, timesC_len h n, Nat.succ_mul]; omega
theorem mayC_len {f : Nat → List StP} {c e : Nat} {lazy : Bool} (h : ∀ b, (f b).length = c) : ∀ n b, (mayC f c e lazy n b).length = n * (c + 1)
  | 0, b => by simp [mayC]
  | n + 1, b => by rw [mayC, List.length_cons, List.length_append, h, mayC_len h n, Nat.succ_mul]; omega
mutual
theorem pcN_len : ∀ (t : Nd) (b : Nat), (pcN t b).length = clen t
  | .cls _ _, b => rfl
  | .bol, b => rfl
  | .eol, b => rfl
  | .seq k, b => pcS_len k b
  | .alt k, b => pcA_len k b
  | .rep k lo hi lazy, b => by
    have ih := pcN_len k
    rw [pcN, clen, List.length_append, timesC_len ih]
    split
    · rw [List.length_cons, List.length_append, ih, List.length_singleton]
    · rw [mayC_len ih]
  | .grp k num, b => by rw [pcN, clen, List.length_cons, List.length_append, pcN_len k, List.length_singleton]
theorem pcS_len : ∀ (k : List Nd) (b : Nat), (pcS k b).length = clens k
  | [], b => rfl
  | t :: r, b => by rw [pcS, clens, List.length_append, pcN_len t, pcS_len r]
theorem pcA_len : ∀ (k : List Nd) (b : Nat), (pcA k b).length = clens k + 2 * (k.length - 1)
  | [], b => rfl
  | t :: r, b => by
    rw [pcA, clens]
    cases r with
    | nil => simp [pcN_len t, clens]
    | cons u r =>
      rw [if_neg (by simp), List.length_cons, List.length_append, List.length_cons, pcN_len t, pcA_len (u :: r)]
      simp only [List.length_cons]; omega
end
/-- Where a step may lead: within the program, slots within what is saved. -/
structure StOk (lo hi G : Nat) (s : StP) : Prop where
  k : s.k = 0 ∨ s.k = 1 ∨ s.k = 2 ∨ s.k = 3 ∨ s.k = 4
  x : s.x ≤ hi
  y : s.k = 1 → s.y ≤ hi
  sl : s.k = 2 → 2 ≤ s.y ∧ s.y < 2 * G + 2
theorem StOk.mono {lo hi hi' G : Nat} {s : StP} (h : StOk lo hi G s) (hh : hi ≤ hi') : StOk lo hi' G s := ⟨h.k, Nat.le_trans h.x hh, fun e => Nat.le_trans (h.y e) hh, h.sl⟩
theorem stB_ok {lo hi G x y : Nat} (hx : x ≤ hi) (hy : y ≤ hi) : StOk lo hi G (stB x y) := ⟨.inr (.inl rfl), hx, fun _ => hy, fun h => absurd (h : (_ : Int) = _) (of_decide_eq_false rfl)⟩
theorem fork_ok {lo hi G x y : Nat} {lazy : Bool} (hx : x ≤ hi) (hy : y ≤ hi) : StOk lo hi G (fork x y lazy) := by unfold fork; split; exact stB_ok hy hx; exact stB_ok hx hy
theorem timesC_ok {f : Nat → List StP} {c G hi : Nat} (h : ∀ b, ∀ s ∈ f b, StOk 0 (b + c) G s) : ∀ n b, b + n * c ≤ hi → ∀ s ∈ timesC f c n b, StOk 0 hi G s
  | 0, b, hh, s, hs => by cases hs
  | n + 1, b, hh, s, hs => by
    rw [Nat.succ_mul] at hh
    rw [timesC] at hs
    rcases List.mem_append.1 hs with hs | hs
    · exact (h b s hs).mono (by omega)
    · exact timesC_ok h n (b + c) (by omega) s hs
theorem mayC_ok {f : Nat → List StP} {c G hi e : Nat} {lazy : Bool} (he : e ≤ hi) (h : ∀ b, ∀ s ∈ f b, StOk 0 (b + c) G s) : ∀ n b, b + n * (c + 1) ≤ hi → ∀ s ∈ mayC f c e lazy n b, StOk 0 hi G s
  | 0, b, hh, s, hs => by cases hs
  | n + 1, b, hh, s, hs => by
    rw [Nat.succ_mul] at hh
    rw [mayC] at hs
    rcases List.mem_cons.1 hs with rfl | hs
    · exact fork_ok (by omega) he
    · rcases List.mem_append.1 hs with hs | hs
      · exact (h _ s hs).mono (by omega)
      · exact mayC_ok he h n _ (by omega) s hs
mutual
theorem pcN_ok {G : Nat} : ∀ (t : Nd) (b : Nat), NdOk G t → ∀ s ∈ pcN t b, StOk 0 (b + clen t) G s
  | .cls _ _, b, h, s, hs => by
    rw [pcN, List.mem_singleton] at hs; subst hs
    exact ⟨.inl rfl, Nat.le_refl _, fun h => absurd (h : (_ : Int) = _) (of_decide_eq_false rfl), fun h => absurd (h : (_ : Int) = _) (of_decide_eq_false rfl)⟩
  | .bol, b, h, s, hs => by
    rw [pcN, List.mem_singleton] at hs; subst hs
    exact ⟨.inr (.inr (.inr (.inl rfl))), Nat.le_refl _, fun h => absurd (h : (_ : Int) = _) (of_decide_eq_false rfl), fun h => absurd (h : (_ : Int) = _) (of_decide_eq_false rfl)⟩
  | .eol, b, h, s, hs => by
    rw [pcN, List.mem_singleton] at hs; subst hs
    exact ⟨.inr (.inr (.inr (.inr rfl))), Nat.le_refl _, fun h => absurd (h : (_ : Int) = _) (of_decide_eq_false rfl), fun h => absurd (h : (_ : Int) = _) (of_decide_eq_false rfl)⟩
  | .seq k, b, .seq hk, s, hs => pcS_ok k b hk s hs
  | .alt k, b, .alt _ hk, s, hs => pcA_ok k b hk s hs
  | .rep k lo hi lazy, b, .rep hk _ _ _ _, s, hs => by
    have ih := fun b => pcN_ok k b hk
    have hc : clen (.rep k lo hi lazy) = lo.toNat * clen k + (if hi < 0 then clen k + 2 else (hi.toNat - lo.toNat) * (clen k + 1)) := by rw [clen]
    rw [pcN] at hs
    rw [hc]
    rcases List.mem_append.1 hs with hs | hs
    · exact timesC_ok ih _ _ (by omega) s hs
    · split at hs
      · rename_i h0
        rw [if_pos h0]
        rcases List.mem_cons.1 hs with rfl | hs
        · exact fork_ok (by omega) (by omega)
        · rcases List.mem_append.1 hs with hs | hs
          · exact (ih _ s hs).mono (by omega)
          · rw [List.mem_singleton.1 hs]; exact stB_ok (by omega) (by omega)
      · rename_i h0
        rw [if_neg h0]
        exact mayC_ok (by omega) ih _ _ (by omega) s hs
  | .grp k num, b, .grp hk h1 h2, s, hs => by
    have hc : clen (.grp k num) = clen k + 2 := by rw [clen]
    rw [pcN] at hs
    rw [hc]
    rcases List.mem_cons.1 hs with rfl | hs
    · exact ⟨.inr (.inr (.inl rfl)), by show b + 1 ≤ _; omega, fun h => absurd (h : (_ : Int) = _) (of_decide_eq_false rfl), fun _ => by show 2 ≤ 2 * num ∧ 2 * num < _; omega⟩
    · rcases List.mem_append.1 hs with hs | hs
      · exact (pcN_ok k _ hk s hs).mono (by omega)
      · rw [List.mem_singleton.1 hs]
        exact ⟨.inr (.inr (.inl rfl)), by show b + clen k + 2 ≤ _; omega, fun h => absurd (h : (_ : Int) = _) (of_decide_eq_false rfl), fun _ => by show 2 ≤ 2 * num + 1 ∧ 2 * num + 1 < _; omega⟩
theorem pcS_ok {G : Nat} : ∀ (k : List Nd) (b : Nat), (∀ x ∈ k, NdOk G x) → ∀ s ∈ pcS k b, StOk 0 (b + clens k) G s
  | [], b, h, s, hs => by cases hs
  | t :: r, b, h, s, hs => by
    have hc : clens (t :: r) = clen t + clens r := by rw [clens]
    rw [pcS] at hs
    rw [hc]
    rcases List.mem_append.1 hs with hs | hs
    · exact (pcN_ok t _ (h t (.head _)) s hs).mono (by omega)
    · exact (pcS_ok r _ (fun x hx => h x (.tail _ hx)) s hs).mono (by omega)
theorem pcA_ok {G : Nat} : ∀ (k : List Nd) (b : Nat), (∀ x ∈ k, NdOk G x) → ∀ s ∈ pcA k b, StOk 0 (b + (clens k + 2 * (k.length - 1))) G s
  | [], b, h, s, hs => by cases hs
  | t :: r, b, h, s, hs => by
    have hc : clens (t :: r) = clen t + clens r := by rw [clens]
    rw [pcA] at hs
    rw [hc]
    cases r with
    | nil =>
      rw [if_pos (by rfl)] at hs
      exact (pcN_ok t _ (h t (.head _)) s hs).mono (by omega)
    | cons u r =>
      rw [if_neg (by simp)] at hs
      have hl : (u :: r).length = r.length + 1 := rfl
      have hl2 : (t :: u :: r).length = r.length + 2 := rfl
      rw [hl] at hs
      rw [hl2]
      rcases List.mem_cons.1 hs with rfl | hs
      · exact stB_ok (by omega) (by omega)
      · rcases List.mem_append.1 hs with hs | hs
        · exact (pcN_ok t _ (h t (.head _)) s hs).mono (by omega)
        · rcases List.mem_cons.1 hs with rfl | hs
          · exact stB_ok (by omega) (by omega)
          · exact (pcA_ok (u :: r) _ (fun x hx => h x (.tail _ hx)) s hs).mono (by omega)
end
/-- All steps of a pattern, and the end. -/
def progF (t : Nd) : List StP := pcN t 0 ++ [⟨5, false, [], 0, 0⟩]
theorem progF_len (t : Nd) : (progF t).length = clen t + 1 := by unfold progF; rw [List.length_append, pcN_len]; rfl
structure PgOk (pg : List StP) (G : Nat) : Prop where
  pos : 0 < pg.length
  x : ∀ (i : Nat) (s : StP), pg[i]? = some s → s.k ≠ 5 → s.x < pg.length
  y : ∀ (i : Nat) (s : StP), pg[i]? = some s → s.k = 1 → s.y < pg.length
  sl : ∀ (i : Nat) (s : StP), pg[i]? = some s → s.k = 2 → 2 ≤ s.y ∧ s.y < 2 * G + 2
  k : ∀ (i : Nat) (s : StP), pg[i]? = some s → s.k = 0 ∨ s.k = 1 ∨ s.k = 2 ∨ s.k = 3 ∨ s.k = 4 ∨ s.k = 5
theorem progF_ok {t : Nd} {G : Nat} (h : NdOk G t) : PgOk (progF t) G := by
  have hl := progF_len t
  have key : ∀ i s, (progF t)[i]? = some s → StOk 0 (clen t) G s ∨ s = ⟨5, false, [], 0, 0⟩ := fun i s hs => by
    have hm := List.mem_of_getElem? hs
    unfold progF at hm
    rcases List.mem_append.1 hm with hm | hm
    · have := pcN_ok t 0 h s hm; rw [Nat.zero_add] at this; exact .inl this
    · exact .inr (List.mem_singleton.1 hm)
  refine ⟨by omega, fun i s hs h5 => ?_, fun i s hs h1 => ?_, fun i s hs h1 => ?_, fun i s hs => ?_⟩ <;> rcases key i s hs with h2 | rfl
  · have := h2.x; omega
  · exact absurd rfl h5
  · have := h2.y h1; omega
  · cases h1
  · exact h2.sl h1
  · cases h1
  · rcases h2.k with h | h | h | h | h <;> simp [h]
  · simp
/-! ### Steps counted, no more than 3000 -/
def cap (n : Int) : Int := if n < 3000 then n else 3000
theorem cap_le (n : Int) : cap n ≤ 3000 ∧ cap n ≤ n := by unfold cap; split <;> omega
mutual
def stepsF : Nd → Int
  | .cls _ _ => 1
  | .bol => 1
  | .eol => 1
  | .seq k => cap (stepsL k 0)
  | .alt k => cap (stepsL k 0 + 2 * ((k.length : Int) - 1))
  | .rep k lo hi _ => cap (lo * cap (0 + stepsF k) + (if hi < 0 then cap (0 + stepsF k) + 2 else (hi - lo) * (cap (0 + stepsF k) + 1)))
  | .grp k _ => cap (cap (0 + stepsF k) + 2)
def stepsL : List Nd → Int → Int
  | [], n => n
  | t :: r, n => stepsL r (cap (n + stepsF t))
end
theorem cap_add (a b : Int) (ha : 0 ≤ a) (hb : 0 ≤ b) : cap (cap a + cap b) = cap (a + b) := by unfold cap; repeat' split <;> omega
theorem cap_cap (a : Int) : cap (cap a) = cap a := by unfold cap; repeat' split <;> omega
theorem cap_lt (a : Int) : a < 3000 → cap a = a := fun h => if_pos h
theorem cap_mul (a b : Int) (ha : 0 ≤ a) (hb : 0 ≤ b) (c : Int) (hc : 0 ≤ c) : cap (a * cap b + c) = cap (a * b + c) := by
  by_cases h : b < 3000
  · rw [cap_lt b h]
  · have e : cap b = 3000 := if_neg h
    rw [e]
    rcases Int.lt_or_le 0 a with h1 | h1
    · have h2 : (3000 : Int) ≤ a * 3000 := by have := Int.mul_le_mul_of_nonneg_right (show 1 ≤ a by omega) (show (0 : Int) ≤ 3000 by omega); omega
      have h3 : a * 3000 ≤ a * b := Int.mul_le_mul_of_nonneg_left (by omega) ha
      unfold cap
      rw [if_neg (by omega), if_neg (by omega)]
    · obtain rfl : a = 0 := by omega
      simp
mutual
theorem stepsF_is {G : Nat} : ∀ (t : Nd), NdOk G t → stepsF t = cap (clen t)
  | .cls _ _, _ => rfl
  | .bol, _ => rfl
  | .eol, _ => rfl
  | .seq k, .seq hk => by
    have := stepsL_is k 0 (by omega) hk
    rw [stepsF, clen, this, Int.zero_add]
  | .alt k, .alt hn hk => by
    have h1 := stepsL_is' k 0 (by omega) hk
    have hp := List.length_pos_iff.2 hn
    rw [stepsF, clen, ← cap_add _ _ h1.2 (by omega), h1.1, Int.zero_add, cap_add _ _ (by omega) (by omega)]
    congr 1; omega
  | .rep k lo hi lazy, .rep hk h0 h1 h2 h3 => by
    have ih := stepsF_is k hk
    obtain ⟨a, rfl⟩ : ∃ a : Nat, lo = a := ⟨lo.toNat, by omega⟩
    rw [stepsF, clen, Int.zero_add, ih, cap_cap, Int.toNat_natCast]
    have hcn := cap_le (clen k)
    have hc0 : 0 ≤ cap (clen k) := by unfold cap; split <;> omega
    split
    · rw [cap_mul _ _ (by omega) (by omega) _ (by omega), ← Int.natCast_mul]
      have h4 := cap_add ((a * clen k : Nat) + 2 : Int) (clen k) (by omega) (by omega)
      have h5 : cap ((a * clen k : Nat) + (cap (clen k) + 2)) = cap (((a * clen k : Nat) + 2 : Int) + clen k) := by
        rw [← h4]
        have h6 := cap_add ((a * clen k : Nat) + 2 : Int) (cap (clen k)) (by omega) hc0
        rw [cap_cap] at h6
        rw [h6]; congr 1; omega
      rw [h5]; congr 1; push_cast; omega
    · rename_i h4
      obtain ⟨d, hd⟩ : ∃ d : Nat, hi = (a : Int) + d := ⟨(hi - a).toNat, by omega⟩
      subst hd
      have e1 : ((a : Int) + d).toNat - a = d := by omega
      have e2 : (a : Int) + d - a = d := by omega
      rw [e1, e2]
      have hm : ((d : Int) * (cap (clen k) + 1)) = (d : Int) * cap (clen k) + d := by rw [Int.mul_add, Int.mul_one]
      have hdm : 0 ≤ (d : Int) * cap (clen k) := Int.mul_nonneg (by omega) hc0
      rw [hm, cap_mul _ _ (by omega) (by omega) _ (by omega), Int.add_comm, Int.add_assoc, cap_mul _ _ (by omega) (by omega) _ (by have := Int.mul_nonneg (show (0 : Int) ≤ a by omega) (show (0 : Int) ≤ clen k by omega); omega)]
      congr 1
      push_cast
      rw [Int.mul_add, Int.mul_one]; omega
  | .grp k num, .grp hk _ _ => by
    have ih := stepsF_is k hk
    rw [stepsF, clen, Int.zero_add, ih, cap_cap]
    have := cap_add (clen k) 2 (by omega) (by omega)
    have e : cap (2 : Int) = 2 := rfl
    rw [e] at this
    rw [this]; congr 1
theorem stepsL_is {G : Nat} : ∀ (k : List Nd) (n : Int), 0 ≤ n → (∀ x ∈ k, NdOk G x) → cap (stepsL k n) = cap (n + clens k)
  | [], n, hn, _ => by rw [stepsL, clens]; congr 1; omega
  | t :: r, n, hn, hk => by
    have h1 := stepsF_is t (hk t (.head _))
    have h0 : 0 ≤ n + cap (clen t) := by unfold cap; split <;> omega
    have h2 : 0 ≤ cap (n + stepsF t) := by rw [h1]; unfold cap; split <;> (try split) <;> omega
    have h3 := stepsL_is r (cap (n + stepsF t)) h2 (fun x hx => hk x (.tail _ hx))
    rw [stepsL, clens, h3, h1]
    have h4 := cap_add n (cap (clen t)) hn (by unfold cap; split <;> omega)
    have h5 := cap_add n (clen t) hn (by omega)
    rw [cap_cap] at h4
    have h6 : cap (n + cap (clen t)) = cap (n + clen t) := by rw [← h4, h5]
    rw [h6]
    have h7 := cap_add (cap (n + clen t)) (clens r) (by unfold cap; split <;> omega) (by omega)
    have h8 := cap_add (n + clen t) (clens r) (by omega) (by omega)
    rw [cap_cap] at h7
    rw [← h7, h8]; congr 1; push_cast; omega
theorem stepsL_is' {G : Nat} : ∀ (k : List Nd) (n : Int), 0 ≤ n → (∀ x ∈ k, NdOk G x) → cap (stepsL k n) = cap (n + clens k) ∧ 0 ≤ stepsL k n
  | [], n, hn, _ => ⟨by rw [stepsL, clens]; congr 1; omega, by rw [stepsL]; exact hn⟩
  | t :: r, n, hn, hk => by
    have h1 := stepsF_is t (hk t (.head _))
    have h2 : 0 ≤ cap (n + stepsF t) := by rw [h1]; unfold cap; split <;> (try split) <;> omega
    refine ⟨stepsL_is (t :: r) n hn hk, ?_⟩
    rw [stepsL]
    exact (stepsL_is' r _ h2 (fun x hx => hk x (.tail _ hx))).2
end
theorem steps_long {G : Nat} {t : Nd} (h : NdOk G t) : 2000 < stepsF t ↔ 2000 < clen t := by
  rw [stepsF_is t h]; unfold cap; split <;> omega
end Go.SK

set_option linter.unusedVariables false
set_option linter.unusedSimpArgs false
set_option maxRecDepth 100000
namespace Go.SK
open Go
def inS (set : List (Int × Int)) (c : Int) : Bool := set.any fun x => decide (x.1 ≤ c ∧ c ≤ x.2)
def holdsP (s : StP) (c : Int) : Bool := inS s.set c != s.neg
abbrev Th := Nat × List Int
abbrev Wd := Nat → List Bool
section
variable (pg : List StP) (tx : List Int)
def atBol (p : Nat) : Prop := p = 0 ∨ tx.getD (p - 1) 0 = 10
def atEol (p : Nat) : Prop := p = tx.length ∨ tx.getD p 0 = 10
instance (p : Nat) : Decidable (atBol tx p) := by unfold atBol; infer_instance
instance (p : Nat) : Decidable (atEol tx p) := by unfold atEol; infer_instance
abbrev stp (a : Nat) : StP := pg.getD a default
/-- Does a step eat the code point at a place? -/
def eats (a p : Nat) : Prop := p < tx.length ∧ holdsP (stp pg a) (tx.getD p 0) = true
instance (a p : Nat) : Decidable (eats pg tx a p) := by unfold eats; infer_instance
/-- The threads to which one leads without eating, in order. -/
def folF (p : Nat) : Nat → List Bool → Nat → List Int → List Th × List Bool
  | 0, S, _, _ => ([], S)
  | f + 1, S, a, sv =>
    if S.getD a true = true then ([], S)
    else if (stp pg a).k = 1 then
      if (stp pg a).y = (stp pg a).x then folF p f (S.set a true) (stp pg a).x sv
      else ((folF p f (S.set a true) (stp pg a).x sv).1 ++ (folF p f (folF p f (S.set a true) (stp pg a).x sv).2 (stp pg a).y sv).1, (folF p f (folF p f (S.set a true) (stp pg a).x sv).2 (stp pg a).y sv).2)
    else if (stp pg a).k = 2 then folF p f (S.set a true) (stp pg a).x (sv.set (stp pg a).y p)
    else if (stp pg a).k = 3 then (if atBol tx p then folF p f (S.set a true) (stp pg a).x sv else ([], S.set a true))
    else if (stp pg a).k = 4 then (if atEol tx p then folF p f (S.set a true) (stp pg a).x sv else ([], S.set a true))
    else ([(a, sv)], S.set a true)
def updW (W : Wd) (p : Nat) (S : List Bool) : Wd := fun q => if q = p then S else W q
def markW (W : Wd) (a p : Nat) : Wd := updW W p ((W p).set a true)
/-- The first way, one path after the other. -/
def wayF : Nat → Wd → Nat → Nat → List Int → Option (List Int) × Wd
  | 0, W, _, _, _ => (none, W)
  | f + 1, W, a, p, sv =>
    if (W p).getD a true = true then (none, W)
    else if (stp pg a).k = 5 then (some (sv.set 1 p), markW W a p)
    else if (stp pg a).k = 0 then (if eats pg tx a p then wayF f (markW W a p) (stp pg a).x (p + 1) sv else (none, markW W a p))
    else if (stp pg a).k = 3 then (if atBol tx p then wayF f (markW W a p) (stp pg a).x p sv else (none, markW W a p))
    else if (stp pg a).k = 4 then (if atEol tx p then wayF f (markW W a p) (stp pg a).x p sv else (none, markW W a p))
    else if (stp pg a).k = 1 then
      (match wayF f (markW W a p) (stp pg a).x p sv with
       | (some r, W2) => (some r, W2)
       | (none, W2) => wayF f W2 (stp pg a).y p sv)
    else wayF f (markW W a p) (stp pg a).x p (sv.set (stp pg a).y p)
/-- Threads gone through one after the other, K: what comes behind. -/
def scan (F : Nat) (K : Wd → List Th → Option (List Int) × Wd) (p : Nat) : Wd → List Th → Option (List Int) × Wd
  | W, [] => (none, W)
  | W, t :: ts =>
    if (stp pg t.1).k = 5 then (some (t.2.set 1 p), W)
    else if eats pg tx t.1 p then
      (match K (updW W (p + 1) (folF pg tx (p + 1) F (W (p + 1)) (stp pg t.1).x t.2).2) (folF pg tx (p + 1) F (W (p + 1)) (stp pg t.1).x t.2).1 with
       | (some v, W') => (some v, W')
       | (none, W') => scan F K p W' ts)
    else scan F K p W ts
def procs (F : Nat) : Nat → Nat → Wd → List Th → Option (List Int) × Wd
  | 0, _, W, _ => (none, W)
  | d + 1, p, W, ts => scan pg tx F (procs F d (p + 1)) p W ts
/-- All threads at one place of the text: the next ones, what was met there, and what was found. -/
def inner (F p : Nat) : List Th → List Th → List Bool → List Th × List Bool × Option (List Int)
  | [], nx, S => (nx, S, none)
  | t :: ts, nx, S =>
    if (stp pg t.1).k = 5 then (nx, S, some (t.2.set 1 p))
    else if eats pg tx t.1 p then inner F p ts (nx ++ (folF pg tx (p + 1) F S (stp pg t.1).x t.2).1) (folF pg tx (p + 1) F S (stp pg t.1).x t.2).2
    else inner F p ts nx S
def freshS : List Bool := List.replicate pg.length false
/-- All threads at once, from one place of the text to the next one. -/
def bfs (F : Nat) : Nat → Nat → List Th → Option (List Int) → Option (List Int)
  | 0, _, _, fd => fd
  | d + 1, p, ts, fd => if ts = [] then fd else bfs F d (p + 1) (inner pg tx F p ts [] (freshS pg)).1 ((inner pg tx F p ts [] (freshS pg)).2.2 <|> fd)
end
section
variable {pg : List StP} {tx : List Int}
/-! ### What was met -/
theorem count_set {S : List Bool} {a : Nat} (h : ¬ S.getD a true = true) : (S.set a true).count false + 1 = S.count false := by
  have ha : a < S.length := by
    rcases Nat.lt_or_ge a S.length with h1 | h1
    · exact h1
    · exact absurd (by rw [List.getD_eq_getElem?_getD, List.getElem?_eq_none h1]; rfl) h
  have hf : S[a] = false := by
    rw [List.getD_eq_getElem?_getD, List.getElem?_eq_getElem ha] at h
    simpa using h
  have hd : S = S.take a ++ false :: S.drop (a + 1) := by
    have := List.take_append_drop a S
    rw [List.drop_eq_getElem_cons ha, hf] at this
    exact this.symm
  have hs : S.set a true = S.take a ++ true :: S.drop (a + 1) := by rw [List.set_eq_take_append_cons_drop, if_pos ha]
  rw [hs]
  conv => rhs; rw [hd]
  simp only [List.count_append, List.count_cons]
  simp
  omega
theorem getD_set_self {S : List Bool} {a : Nat} : (S.set a true).getD a true = true := by
  rw [List.getD_eq_getElem?_getD]
  rcases Nat.lt_or_ge a S.length with h1 | h1
  · rw [List.getElem?_set_self h1]; rfl
  · rw [List.getElem?_eq_none (by rw [List.length_set]; exact h1)]; rfl
theorem getD_set_keep {S : List Bool} {a b : Nat} (h : S.getD b true = true) : (S.set a true).getD b true = true := by
  by_cases c : a = b
  · subst c; exact getD_set_self
  · rw [List.getD_eq_getElem?_getD, List.getElem?_set_ne c, ← List.getD_eq_getElem?_getD]; exact h
structure FolK (S S' : List Bool) : Prop where
  len : S'.length = S.length
  cnt : S'.count false ≤ S.count false
  keep : ∀ b, S.getD b true = true → S'.getD b true = true
theorem FolK.refl (S : List Bool) : FolK S S := ⟨rfl, Nat.le_refl _, fun _ h => h⟩
theorem FolK.trans {S S1 S2 : List Bool} (h : FolK S S1) (k : FolK S1 S2) : FolK S S2 := ⟨k.len.trans h.len, Nat.le_trans k.cnt h.cnt, fun b hb => k.keep b (h.keep b hb)⟩
theorem FolK.mark {S : List Bool} {a : Nat} : FolK S (S.set a true) := by
  refine ⟨List.length_set, ?_, fun b h => getD_set_keep h⟩
  by_cases h : S.getD a true = true
  · have : S.set a true = S := by
      rcases Nat.lt_or_ge a S.length with h1 | h1
      · rw [List.getD_eq_getElem?_getD, List.getElem?_eq_getElem h1] at h
        have h2 : S[a] = true := h
        rw [← h2]; exact List.set_getElem_self h1
      · exact List.set_eq_of_length_le h1
    rw [this]; exact Nat.le_refl _
  · have := count_set h; omega
theorem fol_keep (p : Nat) : ∀ (f : Nat) (S : List Bool) (a : Nat) (sv : List Int), FolK S (folF pg tx p f S a sv).2
  | 0, S, a, sv => FolK.refl S
  | f + 1, S, a, sv => by
    rw [folF]
    split
    · exact FolK.refl S
    · have h1 : FolK S (S.set a true) := FolK.mark
      split
      · split
        · exact h1.trans (fol_keep p f _ _ _)
        · exact (h1.trans (fol_keep p f _ _ _)).trans (fol_keep p f _ _ _)
      · split
        · exact h1.trans (fol_keep p f _ _ _)
        · split
          · split
            · exact h1.trans (fol_keep p f _ _ _)
            · exact h1
          · split
            · split
              · exact h1.trans (fol_keep p f _ _ _)
              · exact h1
            · exact h1
theorem fol_marks (p f : Nat) (S : List Bool) (a : Nat) (sv : List Int) : (folF pg tx p (f + 1) S a sv).2.getD a true = true := by
  rw [folF]
  split
  · rename_i h; exact h
  · have h1 : (S.set a true).getD a true = true := getD_set_self
    split
    · split
      · exact (fol_keep p f _ _ _).keep a h1
      · exact (fol_keep p f _ _ _).keep a ((fol_keep p f _ _ _).keep a h1)
    · split
      · exact (fol_keep p f _ _ _).keep a h1
      · split
        · split
          · exact (fol_keep p f _ _ _).keep a h1
          · exact h1
        · split
          · split
            · exact (fol_keep p f _ _ _).keep a h1
            · exact h1
          · exact h1
/-- More than enough is as good as enough. -/
theorem fol_fuel (p : Nat) : ∀ (f f' : Nat) (S : List Bool) (a : Nat) (sv : List Int), S.count false < f → S.count false < f' → folF pg tx p f S a sv = folF pg tx p f' S a sv
  | 0, f', S, a, sv, h, h' => by omega
  | f + 1, 0, S, a, sv, h, h' => by omega
  | f + 1, f' + 1, S, a, sv, h, h' => by
    rw [folF, folF]
    split
    · rfl
    · rename_i h0
      have hc := count_set h0
      have e1 : ∀ b sv, folF pg tx p f (S.set a true) b sv = folF pg tx p f' (S.set a true) b sv := fun b sv => fol_fuel p f f' _ b sv (by omega) (by omega)
      have hk := (fol_keep (pg := pg) (tx := tx) p f' (S.set a true) (stp pg a).x sv).cnt
      simp only [e1]
      rw [fol_fuel p f f' (folF pg tx p f' (S.set a true) (stp pg a).x sv).2 (stp pg a).y sv (by omega) (by omega)]
/-! ### One path after the other -/
theorem updW_self (W : Wd) (p : Nat) : updW W p (W p) = W := by
  funext q; unfold updW
  by_cases h : q = p
  · rw [if_pos h, h]
  · rw [if_neg h]
theorem updW_at (W : Wd) (p : Nat) (S : List Bool) : updW W p S p = S := if_pos rfl
theorem updW_ne (W : Wd) {p q : Nat} (S : List Bool) (h : q ≠ p) : updW W p S q = W q := if_neg h
theorem updW_updW (W : Wd) (p : Nat) (S S' : List Bool) : updW (updW W p S) p S' = updW W p S' := by funext q; unfold updW; split <;> rfl
theorem updW_comm (W : Wd) {p q : Nat} (S S' : List Bool) (h : p ≠ q) : updW (updW W p S) q S' = updW (updW W q S') p S := by
  funext r; unfold updW
  by_cases c1 : r = q <;> by_cases c2 : r = p
  · subst c1; exact absurd c2.symm h
  · simp [c1, c2]; intro h'; exact absurd h'.symm h
  · simp [c1, c2]; intro h'; exact absurd h' h
  · simp [c1, c2]
/-- Levels up to one's own are left alone. -/
def Indep (q : Nat) (K : Wd → List Th → Option (List Int) × Wd) : Prop := ∀ W S ts, (K (updW W q S) ts).1 = (K W ts).1 ∧ (K (updW W q S) ts).2 = updW (K W ts).2 q S
theorem scan_indep {F q p : Nat} {K : Wd → List Th → Option (List Int) × Wd} (hq : q ≤ p) (hK : Indep q K) : Indep q (scan pg tx F K p) := by
  intro W S ts
  induction ts generalizing W with
  | nil => exact ⟨rfl, rfl⟩
  | cons t ts ih =>
    rw [scan, scan]
    split
    · exact ⟨rfl, rfl⟩
    · split
      · rw [updW_ne W S (show p + 1 ≠ q by omega), updW_comm W S _ (show q ≠ p + 1 by omega)]
        obtain ⟨h1, h2⟩ := hK (updW W (p + 1) (folF pg tx (p + 1) F (W (p + 1)) (stp pg t.1).x t.2).2) S (folF pg tx (p + 1) F (W (p + 1)) (stp pg t.1).x t.2).1
        generalize K (updW W (p + 1) (folF pg tx (p + 1) F (W (p + 1)) (stp pg t.1).x t.2).2) (folF pg tx (p + 1) F (W (p + 1)) (stp pg t.1).x t.2).1 = r at *
        generalize K (updW (updW W (p + 1) (folF pg tx (p + 1) F (W (p + 1)) (stp pg t.1).x t.2).2) q S) (folF pg tx (p + 1) F (W (p + 1)) (stp pg t.1).x t.2).1 = r' at *
        obtain ⟨o, V⟩ := r
        obtain ⟨o', V'⟩ := r'
        simp only at h1 h2
        subst h1; subst h2
        cases o' with
        | some v => exact ⟨rfl, rfl⟩
        | none => exact ih V
      · exact ih W
theorem procs_indep {F : Nat} : ∀ (d p q : Nat), q ≤ p → Indep q (procs pg tx F d p)
  | 0, p, q, hq => fun W S ts => ⟨rfl, rfl⟩
  | d + 1, p, q, hq => scan_indep hq (procs_indep d (p + 1) q (by omega))
theorem procs_level {F d p q : Nat} (hq : q ≤ p) (W : Wd) (ts : List Th) : (procs pg tx F d p W ts).2 q = W q := by
  have h := (procs_indep (pg := pg) (tx := tx) (F := F) d p q hq W (W q) ts).2
  rw [updW_self] at h
  rw [h, updW_at]
theorem scan_append {F p : Nat} {K : Wd → List Th → Option (List Int) × Wd} : ∀ (a b : List Th) (W : Wd), scan pg tx F K p W (a ++ b) = match scan pg tx F K p W a with
      | (some v, W') => (some v, W')
      | (none, W') => scan pg tx F K p W' b
  | [], b, W => rfl
  | t :: a, b, W => by
    rw [List.cons_append, scan, scan]
    split
    · rfl
    · split
      · generalize K (updW W (p + 1) (folF pg tx (p + 1) F (W (p + 1)) (stp pg t.1).x t.2).2) (folF pg tx (p + 1) F (W (p + 1)) (stp pg t.1).x t.2).1 = r
        obtain ⟨o, V⟩ := r
        cases o with
        | some v => rfl
        | none => exact scan_append a b V
      · exact scan_append a b W
theorem procs_append {F d p : Nat} (a b : List Th) (W : Wd) : procs pg tx F d p W (a ++ b) = match procs pg tx F d p W a with
      | (some v, W') => (some v, W')
      | (none, W') => procs pg tx F d p W' b := by
  cases d with
  | zero => rfl
  | succ d => exact scan_append a b W
/-! ### How much is not met yet -/
def sumTo (f : Nat → Nat) : Nat → Nat
  | 0 => 0
  | n + 1 => sumTo f n + f n
theorem sumTo_le {f g : Nat → Nat} : ∀ n, (∀ p, p < n → f p ≤ g p) → sumTo f n ≤ sumTo g n
  | 0, _ => Nat.le_refl _
  | n + 1, h => by have := sumTo_le n (fun p hp => h p (by omega)); have := h n (by omega); simp only [sumTo]; omega
theorem sumTo_lt {f g : Nat → Nat} : ∀ n, (∀ p, p < n → f p ≤ g p) → (∃ p, p < n ∧ f p < g p) → sumTo f n < sumTo g n
  | 0, _, ⟨p, hp, _⟩ => by omega
  | n + 1, h, ⟨p, hp, hlt⟩ => by
    have h1 := sumTo_le n (fun p hp => h p (by omega))
    have h2 := h n (by omega)
    simp only [sumTo]
    by_cases c : p = n
    · subst c; omega
    · have := sumTo_lt n (fun p hp => h p (by omega)) ⟨p, by omega, hlt⟩; omega
def cntW (W : Wd) (n : Nat) : Nat := sumTo (fun p => (W p).count false) n
structure WayK (W W' : Wd) : Prop where
  at_ : ∀ p, FolK (W p) (W' p)
theorem WayK.refl (W : Wd) : WayK W W := ⟨fun p => FolK.refl _⟩
theorem WayK.trans {W W1 W2 : Wd} (h : WayK W W1) (k : WayK W1 W2) : WayK W W2 := ⟨fun p => (h.at_ p).trans (k.at_ p)⟩
theorem WayK.mark {W : Wd} {a p : Nat} : WayK W (markW W a p) := ⟨fun q => by
  unfold markW updW
  split
  · rename_i h; subst h; exact FolK.mark
  · exact FolK.refl _⟩
theorem WayK.cnt {W W' : Wd} (h : WayK W W') (n : Nat) : cntW W' n ≤ cntW W n := sumTo_le n fun p _ => (h.at_ p).cnt
theorem cnt_mark {W : Wd} {a p n : Nat} (hp : p < n) (h : ¬ (W p).getD a true = true) : cntW (markW W a p) n < cntW W n := by
  refine sumTo_lt n (fun q _ => (WayK.mark.at_ q).cnt) ⟨p, hp, ?_⟩
  have := count_set h
  show ((markW W a p) p).count false < _
  unfold markW; rw [updW_at]; omega
theorem way_keep : ∀ (f : Nat) (W : Wd) (a p : Nat) (sv : List Int), WayK W (wayF pg tx f W a p sv).2
  | 0, W, a, p, sv => WayK.refl W
  | f + 1, W, a, p, sv => by
    rw [wayF]
    have h1 : WayK W (markW W a p) := WayK.mark
    split
    · exact WayK.refl W
    · split
      · exact h1
      · split
        · split
          · exact h1.trans (way_keep f _ _ _ _)
          · exact h1
        · split
          · split
            · exact h1.trans (way_keep f _ _ _ _)
            · exact h1
          · split
            · split
              · exact h1.trans (way_keep f _ _ _ _)
              · exact h1
            · split
              · have h2 := h1.trans (way_keep f (markW W a p) (stp pg a).x p sv)
                generalize wayF pg tx f (markW W a p) (stp pg a).x p sv = r at *
                obtain ⟨o, V⟩ := r
                cases o with
                | some v => exact h2
                | none => exact h2.trans (way_keep f _ _ _ _)
              · exact h1.trans (way_keep f _ _ _ _)
/-- One path after the other is all threads that are met at a place, one after the other. -/
theorem way_procs (hl : ∀ a, (stp pg a).k = 0 ∨ (stp pg a).k = 1 ∨ (stp pg a).k = 2 ∨ (stp pg a).k = 3 ∨ (stp pg a).k = 4 ∨ (stp pg a).k = 5) {F : Nat} : ∀ (f : Nat) (W : Wd) (a p : Nat) (sv : List Int), cntW W (tx.length + 1) < f → (∀ q, (W q).count false < F) → p ≤ tx.length →
    (wayF pg tx f W a p sv).1 = (procs pg tx F (tx.length + 1 - p) p (updW W p (folF pg tx p F (W p) a sv).2) (folF pg tx p F (W p) a sv).1).1 ∧
    ((wayF pg tx f W a p sv).1 = none → (wayF pg tx f W a p sv).2 = (procs pg tx F (tx.length + 1 - p) p (updW W p (folF pg tx p F (W p) a sv).2) (folF pg tx p F (W p) a sv).1).2)
  | 0, W, a, p, sv, hf, hF, hp => by omega
  | f + 1, W, a, p, sv, hf, hF, hp => by
    obtain ⟨F', rfl⟩ : ∃ F', F = F' + 1 := ⟨F - 1, by have := hF 0; omega⟩
    obtain ⟨d, hd⟩ : ∃ d, tx.length + 1 - p = d + 1 := ⟨tx.length - p, by omega⟩
    rw [hd]
    by_cases hv : (W p).getD a true = true
    · rw [wayF, if_pos hv, folF, if_pos hv, updW_self]
      exact ⟨rfl, fun _ => rfl⟩
    · have hcm := cnt_mark (W := W) (a := a) (n := tx.length + 1) (show p < tx.length + 1 by omega) hv
      have hcs := count_set hv
      have hFp := hF p
      have hFm : ∀ q, ((markW W a p) q).count false < F' + 1 := fun q => Nat.lt_of_le_of_lt (WayK.mark.at_ q).cnt (hF q)
      have hmp : (markW W a p) p = (W p).set a true := updW_at _ _ _
      have eF : ∀ b sv, folF pg tx p F' ((W p).set a true) b sv = folF pg tx p (F' + 1) ((W p).set a true) b sv := fun b sv => fol_fuel p _ _ _ _ _ (by omega) (by omega)
      have go : ∀ b sv, (wayF pg tx f (markW W a p) b p sv).1 = (procs pg tx (F' + 1) (d + 1) p (updW W p (folF pg tx p F' ((W p).set a true) b sv).2) (folF pg tx p F' ((W p).set a true) b sv).1).1 ∧
          ((wayF pg tx f (markW W a p) b p sv).1 = none → (wayF pg tx f (markW W a p) b p sv).2 = (procs pg tx (F' + 1) (d + 1) p (updW W p (folF pg tx p F' ((W p).set a true) b sv).2) (folF pg tx p F' ((W p).set a true) b sv).1).2) := fun b sv => by
        have ih := way_procs hl (F := F' + 1) f (markW W a p) b p sv (by omega) hFm hp
        rw [hd, hmp, ← eF] at ih
        have e1 : ∀ S, updW (markW W a p) p S = updW W p S := fun S => updW_updW _ _ _ _
        rw [e1] at ih
        exact ih
      have stop : procs pg tx (F' + 1) (d + 1) p (updW W p ((W p).set a true)) [] = (none, markW W a p) := rfl
      rw [wayF, if_neg hv, folF, if_neg hv]
      rcases hl a with h | h | h | h | h | h
      · -- to eat
        simp only [h, show ((0 : Int) = 5) = False by simp, show ((0 : Int) = 1) = False by simp, show ((0 : Int) = 2) = False by simp, show ((0 : Int) = 3) = False by simp, show ((0 : Int) = 4) = False by simp, if_false, if_true]
        rw [procs, scan, if_neg (show ¬ (stp pg (a, sv).1).k = 5 by show ¬ (stp pg a).k = 5; rw [h]; decide)]
        by_cases he : eats pg tx a p
        · rw [if_pos he, if_pos he]
          have hlt := he.1
          have ih := way_procs hl (F := F' + 1) f (markW W a p) (stp pg a).x (p + 1) sv (by omega) hFm (by omega)
          have hm1 : (markW W a p) (p + 1) = W (p + 1) := updW_ne _ _ (by omega)
          rw [hm1, show tx.length + 1 - (p + 1) = d by omega] at ih
          have e2 : updW W p ((W p).set a true) = markW W a p := rfl
          rw [e2, hm1]
          generalize wayF pg tx f (markW W a p) (stp pg a).x (p + 1) sv = r at *
          generalize procs pg tx (F' + 1) d (p + 1) (updW (markW W a p) (p + 1) (folF pg tx (p + 1) (F' + 1) (W (p + 1)) (stp pg a).x sv).2) (folF pg tx (p + 1) (F' + 1) (W (p + 1)) (stp pg a).x sv).1 = r' at *
          obtain ⟨o, V⟩ := r
          obtain ⟨o', V'⟩ := r'
          obtain ⟨h1, h2⟩ := ih
          simp only at h1 h2
          subst h1
          cases o with
          | some v => exact ⟨rfl, fun h => by cases h⟩
          | none => exact ⟨rfl, fun _ => h2 rfl⟩
        · rw [if_neg he, if_neg he]
          exact ⟨rfl, fun _ => rfl⟩
      · -- here or there
        simp only [h, show ((1 : Int) = 5) = False by simp, show ((1 : Int) = 0) = False by simp, show ((1 : Int) = 3) = False by simp, show ((1 : Int) = 4) = False by simp, if_false, if_true]
        obtain ⟨g1, g2⟩ := go (stp pg a).x sv
        generalize hA : folF pg tx p F' ((W p).set a true) (stp pg a).x sv = A at *
        have hkA := fol_keep (pg := pg) (tx := tx) p F' ((W p).set a true) (stp pg a).x sv
        rw [hA] at hkA
        by_cases hyx : (stp pg a).y = (stp pg a).x
        · rw [if_pos hyx]
          have hlev := procs_level (pg := pg) (tx := tx) (F := F' + 1) (d := d + 1) (Nat.le_refl p) (updW W p A.2) A.1
          rw [updW_at] at hlev
          generalize wayF pg tx f (markW W a p) (stp pg a).x p sv = r at *
          generalize hr' : procs pg tx (F' + 1) (d + 1) p (updW W p A.2) A.1 = r' at *
          obtain ⟨o, V⟩ := r
          obtain ⟨o', V'⟩ := r'
          simp only at g1 g2 hlev
          subst g1
          cases o with
          | some v => exact ⟨rfl, fun h => by cases h⟩
          | none =>
            have h2 := g2 rfl
            subst h2
            have hF1 : F' ≠ 0 := by
              rintro rfl
              have := hcs; omega
            obtain ⟨F2, rfl⟩ : ∃ F2, F' = F2 + 1 := ⟨F' - 1, by omega⟩
            have hm := fol_marks (pg := pg) (tx := tx) p F2 ((W p).set a true) (stp pg a).x sv
            rw [hA, ← hlev] at hm
            have hw : wayF pg tx f V (stp pg a).y p sv = (none, V) := by
              rw [hyx]
              cases f with
              | zero => rfl
              | succ f => rw [wayF, if_pos hm]
            simp only
            rw [hw]
            exact ⟨rfl, fun _ => rfl⟩
        · rw [if_neg hyx]
          generalize hB : folF pg tx p F' A.2 (stp pg a).y sv = B at *
          have hap := procs_append (pg := pg) (tx := tx) (F := F' + 1) (d := d + 1) (p := p) A.1 B.1 (updW W p B.2)
          have hind := procs_indep (pg := pg) (tx := tx) (F := F' + 1) (d + 1) p p (Nat.le_refl _) (updW W p A.2) B.2 A.1
          rw [updW_updW] at hind
          have hlev := procs_level (pg := pg) (tx := tx) (F := F' + 1) (d := d + 1) (Nat.le_refl p) (updW W p A.2) A.1
          rw [updW_at] at hlev
          have hkeep := way_keep (pg := pg) (tx := tx) f (markW W a p) (stp pg a).x p sv
          rw [hap]
          generalize hr : wayF pg tx f (markW W a p) (stp pg a).x p sv = r at *
          generalize procs pg tx (F' + 1) (d + 1) p (updW W p A.2) A.1 = r' at *
          generalize procs pg tx (F' + 1) (d + 1) p (updW W p B.2) A.1 = r2 at *
          obtain ⟨o, V⟩ := r
          obtain ⟨o', V'⟩ := r'
          obtain ⟨o2, V2⟩ := r2
          obtain ⟨i1, i2⟩ := hind
          simp only at g1 g2 hlev i1 i2
          subst g1; subst i1; subst i2
          cases o2 with
          | some v => exact ⟨rfl, fun h => by cases h⟩
          | none =>
            have h2 := g2 rfl
            subst h2
            have hFV : ∀ q, (V q).count false < F' + 1 := fun q => Nat.lt_of_le_of_lt (hkeep.at_ q).cnt (hFm q)
            have hcV := hkeep.cnt (tx.length + 1)
            have ih := way_procs hl (F := F' + 1) f V (stp pg a).y p sv (by simp only at hcV; omega) hFV hp
            have hcA := hkA.cnt
            rw [hd, hlev, ← fol_fuel p F' (F' + 1) A.2 (stp pg a).y sv (by omega) (by omega), hB] at ih
            exact ih
      · simp only [h, show ((2 : Int) = 5) = False by simp, show ((2 : Int) = 0) = False by simp, show ((2 : Int) = 1) = False by simp, show ((2 : Int) = 3) = False by simp, show ((2 : Int) = 4) = False by simp, if_false, if_true]
        exact go _ _
      · simp only [h, show ((3 : Int) = 5) = False by simp, show ((3 : Int) = 0) = False by simp, show ((3 : Int) = 1) = False by simp, show ((3 : Int) = 2) = False by simp, show ((3 : Int) = 4) = False by simp, if_false, if_true]
        by_cases hb : atBol tx p
        · rw [if_pos hb, if_pos hb]; exact go _ _
        · rw [if_neg hb, if_neg hb]; exact ⟨rfl, fun _ => rfl⟩
      · simp only [h, show ((4 : Int) = 5) = False by simp, show ((4 : Int) = 0) = False by simp, show ((4 : Int) = 1) = False by simp, show ((4 : Int) = 2) = False by simp, show ((4 : Int) = 3) = False by simp, if_false, if_true]
        by_cases hb : atEol tx p
        · rw [if_pos hb, if_pos hb]; exact go _ _
        · rw [if_neg hb, if_neg hb]; exact ⟨rfl, fun _ => rfl⟩
      · simp only [h, show ((5 : Int) = 1) = False by simp, show ((5 : Int) = 2) = False by simp, show ((5 : Int) = 3) = False by simp, show ((5 : Int) = 4) = False by simp, if_false, if_true]
        rw [procs, scan, if_pos h]
        exact ⟨rfl, fun h => by cases h⟩
/-! ### All at once -/
theorem inner_acc {F p : Nat} : ∀ (ts nx : List Th) (S : List Bool), inner pg tx F p ts nx S = (nx ++ (inner pg tx F p ts [] S).1, (inner pg tx F p ts [] S).2)
  | [], nx, S => by simp [inner]
  | t :: ts, nx, S => by
    rw [inner, inner]
    split
    · simp
    · split
      · rw [inner_acc ts (nx ++ _), inner_acc ts ([] ++ _)]; simp
      · exact inner_acc ts nx S
theorem scan_inner {F d p : Nat} : ∀ (ts : List Th) (W : Wd), (scan pg tx F (procs pg tx F d (p + 1)) p W ts).1 =
    ((procs pg tx F d (p + 1) (updW W (p + 1) (inner pg tx F p ts [] (W (p + 1))).2.1) (inner pg tx F p ts [] (W (p + 1))).1).1 <|> (inner pg tx F p ts [] (W (p + 1))).2.2)
  | [], W => by
    cases d <;> rfl
  | t :: ts, W => by
    rw [scan, inner]
    split
    · have : (procs pg tx F d (p + 1) (updW W (p + 1) (W (p + 1))) []).1 = none := by cases d <;> rfl
      rw [this]; rfl
    · split
      · generalize hR : folF pg tx (p + 1) F (W (p + 1)) (stp pg t.1).x t.2 = R
        rw [List.nil_append, inner_acc ts R.1 R.2]
        have hap := procs_append (pg := pg) (tx := tx) (F := F) (d := d) (p := p + 1) R.1 (inner pg tx F p ts [] R.2).1 (updW W (p + 1) (inner pg tx F p ts [] R.2).2.1)
        have hind := procs_indep (pg := pg) (tx := tx) (F := F) d (p + 1) (p + 1) (Nat.le_refl _) (updW W (p + 1) R.2) (inner pg tx F p ts [] R.2).2.1 R.1
        rw [updW_updW] at hind
        have hlev := procs_level (pg := pg) (tx := tx) (F := F) (d := d) (Nat.le_refl (p + 1)) (updW W (p + 1) R.2) R.1
        rw [updW_at] at hlev
        simp only
        rw [hap]
        generalize procs pg tx F d (p + 1) (updW W (p + 1) R.2) R.1 = r' at *
        generalize procs pg tx F d (p + 1) (updW W (p + 1) (inner pg tx F p ts [] R.2).2.1) R.1 = r2 at *
        obtain ⟨o', V'⟩ := r'
        obtain ⟨o2, V2⟩ := r2
        obtain ⟨i1, i2⟩ := hind
        simp only at i1 i2 hlev
        subst i1; subst i2
        cases o2 with
        | some v => rfl
        | none =>
          have ih := scan_inner (F := F) (d := d) (p := p) ts V'
          rw [hlev] at ih
          exact ih
      · exact scan_inner ts W
theorem orElse_assoc' {α : Type} (a b c : Option α) : ((a <|> b) <|> c) = (a <|> (b <|> c)) := by cases a <;> rfl
theorem bfs_procs {F : Nat} : ∀ (d p : Nat) (ts : List Th) (fd : Option (List Int)) (W : Wd), (∀ q, p < q → W q = freshS pg) → bfs pg tx F d p ts fd = ((procs pg tx F d p W ts).1 <|> fd)
  | 0, p, ts, fd, W, hW => rfl
  | d + 1, p, ts, fd, W, hW => by
    rw [bfs, procs]
    split
    · rename_i h; subst h; rfl
    · rw [scan_inner, hW (p + 1) (by omega), orElse_assoc']
      exact bfs_procs d (p + 1) _ _ _ (fun q hq => by rw [updW_ne _ _ (by omega)]; exact hW q (by omega))
/-- Both ways to look find the same. -/
theorem way_bfs (hl : ∀ a, (stp pg a).k = 0 ∨ (stp pg a).k = 1 ∨ (stp pg a).k = 2 ∨ (stp pg a).k = 3 ∨ (stp pg a).k = 4 ∨ (stp pg a).k = 5) {f a p : Nat} {sv : List Int} (hf : cntW (fun _ => freshS pg) (tx.length + 1) < f) (hp : p ≤ tx.length) :
    (wayF pg tx f (fun _ => freshS pg) a p sv).1 = bfs pg tx (pg.length + 1) (tx.length + 1 - p) p (folF pg tx p (pg.length + 1) (freshS pg) a sv).1 none := by
  have hc : (freshS pg).count false < pg.length + 1 := by unfold freshS; rw [List.count_replicate_self]; omega
  rw [(way_procs hl (F := pg.length + 1) f (fun _ => freshS pg) a p sv hf (fun _ => hc) hp).1]
  rw [bfs_procs _ _ _ _ (updW (fun _ => freshS pg) p (folF pg tx p (pg.length + 1) (freshS pg) a sv).2) (fun q hq => updW_ne _ _ (by omega))]
  generalize (procs pg tx (pg.length + 1) (tx.length + 1 - p) p (updW (fun _ => freshS pg) p (folF pg tx p (pg.length + 1) (freshS pg) a sv).2) (folF pg tx p (pg.length + 1) (freshS pg) a sv).1).1 = o
  cases o <;> rfl
end
end Go.SK

set_option linter.unusedVariables false
set_option linter.unusedSimpArgs false
set_option maxRecDepth 100000
namespace Go.SK
open Go
/-! ### Steps lead on within their part -/
/-- Both targets of a step lie between. -/
def Within (lo hi : Nat) (s : StP) : Prop := lo ≤ s.x ∧ s.x ≤ hi ∧ (s.k = 1 → lo ≤ s.y ∧ s.y ≤ hi)
theorem Within.mono {lo lo' hi hi' : Nat} {s : StP} (h : Within lo hi s) (h1 : lo' ≤ lo) (h2 : hi ≤ hi') : Within lo' hi' s := ⟨by have := h.1; omega, by have := h.2.1; omega, fun e => by have := h.2.2 e; omega⟩
theorem stB_within {lo hi x y : Nat} (h1 : lo ≤ x) (h2 : x ≤ hi) (h3 : lo ≤ y) (h4 : y ≤ hi) : Within lo hi (stB x y) := ⟨h1, h2, fun _ => ⟨h3, h4⟩⟩
theorem fork_within {lo hi x y : Nat} {lazy : Bool} (h1 : lo ≤ x) (h2 : x ≤ hi) (h3 : lo ≤ y) (h4 : y ≤ hi) : Within lo hi (fork x y lazy) := by unfold fork; split; exact stB_within h3 h4 h1 h2; exact stB_within h1 h2 h3 h4
theorem timesC_within {f : Nat → List StP} {c lo hi : Nat} (h : ∀ b, ∀ s ∈ f b, Within b (b + c) s) : ∀ n b, lo ≤ b → b + n * c ≤ hi → ∀ s ∈ timesC f c n b, Within lo hi s
  | 0, b, hl, hh, s, hs => by cases hs
  | n + 1, b, hl, hh, s, hs => by
    rw [Nat.succ_mul] at hh
    rw [timesC] at hs
    rcases List.mem_append.1 hs with hs | hs
    · exact (h b s hs).mono hl (by omega)
    · exact timesC_within h n (b + c) (by omega) (by omega) s hs
theorem mayC_within {f : Nat → List StP} {c lo hi e : Nat} {lazy : Bool} (he : e ≤ hi) (he0 : lo ≤ e) (h : ∀ b, ∀ s ∈ f b, Within b (b + c) s) : ∀ n b, lo ≤ b → b + n * (c + 1) ≤ hi → ∀ s ∈ mayC f c e lazy n b, Within lo hi s
  | 0, b, hl, hh, s, hs => by cases hs
  | n + 1, b, hl, hh, s, hs => by
    rw [Nat.succ_mul] at hh
    rw [mayC] at hs
    rcases List.mem_cons.1 hs with rfl | hs
    · exact fork_within (by omega) (by omega) he0 he
    · rcases List.mem_append.1 hs with hs | hs
      · exact (h _ s hs).mono (by omega) (by omega)
      · exact mayC_within he he0 h n _ (by omega) (by omega) s hs
mutual
theorem pcN_within : ∀ (t : Nd) (b : Nat), ∀ s ∈ pcN t b, Within b (b + clen t) s
  | .cls _ _, b, s, hs => by
    rw [pcN, List.mem_singleton] at hs; subst hs
    exact ⟨Nat.le_succ _, Nat.le_refl _, fun h => absurd (h : (_ : Int) = _) (of_decide_eq_false rfl)⟩
  | .bol, b, s, hs => by
    rw [pcN, List.mem_singleton] at hs; subst hs
    exact ⟨Nat.le_succ _, Nat.le_refl _, fun h => absurd (h : (_ : Int) = _) (of_decide_eq_false rfl)⟩
  | .eol, b, s, hs => by
    rw [pcN, List.mem_singleton] at hs; subst hs
    exact ⟨Nat.le_succ _, Nat.le_refl _, fun h => absurd (h : (_ : Int) = _) (of_decide_eq_false rfl)⟩
  | .seq k, b, s, hs => by have h := pcS_within k b s hs; rw [clen]; exact h
  | .alt k, b, s, hs => by have h := pcA_within k b s hs; rw [clen]; exact h
  | .rep k lo hi lazy, b, s, hs => by
    have ih := pcN_within k
    have hc : clen (.rep k lo hi lazy) = lo.toNat * clen k + (if hi < 0 then clen k + 2 else (hi.toNat - lo.toNat) * (clen k + 1)) := by rw [clen]
    rw [pcN] at hs
    rw [hc]
    rcases List.mem_append.1 hs with hs | hs
    · exact timesC_within ih _ _ (Nat.le_refl _) (by omega) s hs
    · split at hs
      · rename_i h0
        rw [if_pos h0]
        rcases List.mem_cons.1 hs with rfl | hs
        · exact fork_within (by omega) (by omega) (by omega) (by omega)
        · rcases List.mem_append.1 hs with hs | hs
          · exact (ih _ s hs).mono (by omega) (by omega)
          · rw [List.mem_singleton.1 hs]; exact stB_within (by omega) (by omega) (by omega) (by omega)
      · rename_i h0
        rw [if_neg h0]
        exact mayC_within (by omega) (by omega) ih _ _ (by omega) (by omega) s hs
  | .grp k num, b, s, hs => by
    have hc : clen (.grp k num) = clen k + 2 := by rw [clen]
    rw [pcN] at hs
    rw [hc]
    rcases List.mem_cons.1 hs with rfl | hs
    · exact ⟨Nat.le_succ _, by show b + 1 ≤ _; omega, fun h => absurd (h : (_ : Int) = _) (of_decide_eq_false rfl)⟩
    · rcases List.mem_append.1 hs with hs | hs
      · exact (pcN_within k _ s hs).mono (by omega) (by omega)
      · rw [List.mem_singleton.1 hs]
        exact ⟨by show b ≤ b + clen k + 2; omega, by show b + clen k + 2 ≤ _; omega, fun h => absurd (h : (_ : Int) = _) (of_decide_eq_false rfl)⟩
theorem pcS_within : ∀ (k : List Nd) (b : Nat), ∀ s ∈ pcS k b, Within b (b + clens k) s
  | [], b, s, hs => by cases hs
  | t :: r, b, s, hs => by
    have hc : clens (t :: r) = clen t + clens r := by rw [clens]
    rw [pcS] at hs
    rw [hc]
    rcases List.mem_append.1 hs with hs | hs
    · exact (pcN_within t _ s hs).mono (Nat.le_refl _) (by omega)
    · exact (pcS_within r _ s hs).mono (by omega) (by omega)
theorem pcA_within : ∀ (k : List Nd) (b : Nat), ∀ s ∈ pcA k b, Within b (b + (clens k + 2 * (k.length - 1))) s
  | [], b, s, hs => by cases hs
  | t :: r, b, s, hs => by
    have hc : clens (t :: r) = clen t + clens r := by rw [clens]
    rw [pcA] at hs
    rw [hc]
    cases r with
    | nil =>
      rw [if_pos (by rfl)] at hs
      exact (pcN_within t _ s hs).mono (Nat.le_refl _) (by omega)
    | cons u r =>
      rw [if_neg (by simp)] at hs
      have hl : (u :: r).length = r.length + 1 := rfl
      have hl2 : (t :: u :: r).length = r.length + 2 := rfl
      rw [hl] at hs
      rw [hl2]
      rcases List.mem_cons.1 hs with rfl | hs
      · exact stB_within (by omega) (by omega) (by omega) (by omega)
      · rcases List.mem_append.1 hs with hs | hs
        · exact (pcN_within t _ s hs).mono (by omega) (by omega)
        · rcases List.mem_cons.1 hs with rfl | hs
          · exact stB_within (by omega) (by omega) (by omega) (by omega)
          · exact (pcA_within (u :: r) _ s hs).mono (by omega) (by omega)
end
/-! ### Where a group's stretches lie -/
/-- Of the steps l, that begin at b: where one goes into group n, and that one leaves it by its end alone. -/
structure Seg (n b : Nat) (l : List StP) (R : List (Nat × Nat)) : Prop where
  into : ∀ (j : Nat) (s : StP), l[j]? = some s → s.k = 2 → s.y = 2 * n → ∃ r ∈ R, s.x = r.1 ∧ r.1 < r.2
  rng : ∀ r ∈ R, b ≤ r.1 ∧ r.2 ≤ b + l.length
  stay : ∀ r ∈ R, ∀ (j : Nat) (s : StP), l[j]? = some s → r.1 ≤ b + j → b + j < r.2 → (s.k = 2 ∧ s.y = 2 * n + 1) ∨ (r.1 ≤ s.x ∧ s.x < r.2 ∧ (s.k = 1 → r.1 ≤ s.y ∧ s.y < r.2))
section
variable {n b : Nat}
theorem Seg.nil : Seg n b [] [] := ⟨fun j s h => by simp at h, fun r hr => by simp at hr, fun r hr => by simp at hr⟩
theorem Seg.one {s : StP} (h : ¬ (s.k = 2 ∧ s.y = 2 * n)) : Seg n b [s] [] := ⟨fun j u hu h1 h2 => by
  have := List.mem_of_getElem? hu
  rw [List.mem_singleton.1 this] at h1 h2
  exact absurd ⟨h1, h2⟩ h, fun r hr => by simp at hr, fun r hr => by simp at hr⟩
theorem Seg.append {l1 l2 : List StP} {R1 R2 : List (Nat × Nat)} (h1 : Seg n b l1 R1) (h2 : Seg n (b + l1.length) l2 R2) : Seg n b (l1 ++ l2) (R1 ++ R2) := by
  refine ⟨fun j s hs a c => ?_, fun r hr => ?_, fun r hr j s hs a c => ?_⟩
  · rcases Nat.lt_or_ge j l1.length with d | d
    · rw [List.getElem?_append_left d] at hs
      obtain ⟨r, hr, e⟩ := h1.into j s hs a c
      exact ⟨r, List.mem_append_left _ hr, e⟩
    · rw [List.getElem?_append_right d] at hs
      obtain ⟨r, hr, e⟩ := h2.into _ s hs a c
      exact ⟨r, List.mem_append_right _ hr, e⟩
  · rw [List.length_append]
    rcases List.mem_append.1 hr with hr | hr
    · have := h1.rng r hr; omega
    · have := h2.rng r hr; omega
  · rcases List.mem_append.1 hr with hr | hr
    · have hrg := h1.rng r hr
      rw [List.getElem?_append_left (by omega)] at hs
      exact h1.stay r hr j s hs a c
    · have hrg := h2.rng r hr
      rw [List.getElem?_append_right (by omega)] at hs
      exact h2.stay r hr _ s hs (by omega) (by omega)
/-- One more stretch, of a part whose steps lead on within it, closed by the group's end. -/
theorem Seg.wrap {l : List StP} {R : List (Nat × Nat)} (h : Seg n (b + 1) l R) (hw : ∀ s ∈ l, Within (b + 1) (b + 1 + l.length) s) {s1 s2 : StP} (e1 : s1.x = b + 1) (e3 : s2.k = 2 ∧ s2.y = 2 * n + 1) : Seg n b (s1 :: (l ++ [s2])) ((b + 1, b + l.length + 2) :: R) := by
  refine ⟨fun j s hs a c => ?_, fun r hr => ?_, fun r hr j s hs a c => ?_⟩
  · cases j with
    | zero =>
      rw [List.getElem?_cons_zero] at hs
      injection hs with hs; subst hs
      exact ⟨_, .head _, e1, by show b + 1 < b + l.length + 2; omega⟩
    | succ j =>
      rw [List.getElem?_cons_succ] at hs
      rcases Nat.lt_or_ge j l.length with d | d
      · rw [List.getElem?_append_left d] at hs
        obtain ⟨r, hr, e⟩ := h.into j s hs a c
        exact ⟨r, .tail _ hr, e⟩
      · rw [List.getElem?_append_right d] at hs
        have := List.mem_of_getElem? hs
        rw [List.mem_singleton.1 this, e3.2] at c; omega
  · rw [List.length_cons, List.length_append, List.length_singleton]
    rcases List.mem_cons.1 hr with rfl | hr
    · exact ⟨Nat.le_succ _, by show b + l.length + 2 ≤ _; omega⟩
    · have := h.rng r hr; omega
  · rcases List.mem_cons.1 hr with rfl | hr
    · have a : b + 1 ≤ b + j := a
      have c : b + j < b + l.length + 2 := c
      obtain ⟨j, rfl⟩ : ∃ i, j = i + 1 := ⟨j - 1, by omega⟩
      rw [List.getElem?_cons_succ] at hs
      rcases Nat.lt_or_ge j l.length with d | d
      · rw [List.getElem?_append_left d] at hs
        have hw1 := hw s (List.mem_of_getElem? hs)
        refine .inr ⟨hw1.1, by have := hw1.2.1; show s.x < b + l.length + 2; omega, fun e => ⟨(hw1.2.2 e).1, by have := (hw1.2.2 e).2; show s.y < b + l.length + 2; omega⟩⟩
      · rw [List.getElem?_append_right d] at hs
        have := List.mem_of_getElem? hs
        rw [List.mem_singleton.1 this]; exact .inl e3
    · have hrg := h.rng r hr
      obtain ⟨j, rfl⟩ : ∃ i, j = i + 1 := ⟨j - 1, by omega⟩
      rw [List.getElem?_cons_succ, List.getElem?_append_left (by omega)] at hs
      exact h.stay r hr j s hs (by omega) (by omega)
end
theorem seg_times {n c : Nat} {f : Nat → List StP} (hl : ∀ b, (f b).length = c) (h : ∀ b, ∃ R, Seg n b (f b) R) : ∀ m b, ∃ R, Seg n b (timesC f c m b) R
  | 0, b => ⟨[], Seg.nil⟩
  | m + 1, b => by
    obtain ⟨R1, h1⟩ := h b
    obtain ⟨R2, h2⟩ := seg_times hl h m (b + c)
    exact ⟨R1 ++ R2, by rw [timesC]; exact h1.append (by rw [hl]; exact h2)⟩
theorem fork_no {n x y : Nat} {lazy : Bool} : ¬ ((fork x y lazy).k = 2 ∧ (fork x y lazy).y = 2 * n) := by
  rintro ⟨h, _⟩
  unfold fork at h
  split at h <;> exact absurd (h : (1 : Int) = 2) (of_decide_eq_false rfl)
theorem Seg.cons {n b : Nat} {s : StP} {l : List StP} {R : List (Nat × Nat)} (h : ¬ (s.k = 2 ∧ s.y = 2 * n)) (h2 : Seg n (b + 1) l R) : Seg n b (s :: l) R := by
  have := (Seg.one (b := b) h).append (l2 := l) (R2 := R) h2
  exact this
theorem seg_may {n c e : Nat} {lazy : Bool} {f : Nat → List StP} (hl : ∀ b, (f b).length = c) (h : ∀ b, ∃ R, Seg n b (f b) R) : ∀ m b, ∃ R, Seg n b (mayC f c e lazy m b) R
  | 0, b => ⟨[], Seg.nil⟩
  | m + 1, b => by
    obtain ⟨R1, h1⟩ := h (b + 1)
    obtain ⟨R2, h2⟩ := seg_may (e := e) (lazy := lazy) hl h m (b + 1 + c)
    exact ⟨R1 ++ R2, by rw [mayC]; exact Seg.cons fork_no (h1.append (by rw [hl]; exact h2))⟩
mutual
theorem seg_N (n : Nat) : ∀ (t : Nd) (b : Nat), ∃ R, Seg n b (pcN t b) R
  | .cls _ _, b => ⟨[], Seg.one (fun h => absurd (h.1 : (0 : Int) = 2) (of_decide_eq_false rfl))⟩
  | .bol, b => ⟨[], Seg.one (fun h => absurd (h.1 : (3 : Int) = 2) (of_decide_eq_false rfl))⟩
  | .eol, b => ⟨[], Seg.one (fun h => absurd (h.1 : (4 : Int) = 2) (of_decide_eq_false rfl))⟩
  | .seq k, b => by rw [pcN]; exact seg_S n k b
  | .alt k, b => by rw [pcN]; exact seg_A n k b
  | .rep k lo hi lazy, b => by
    have ih := seg_N n k
    rw [pcN]
    obtain ⟨R1, h1⟩ := seg_times (pcN_len k) ih lo.toNat b
    have hl := timesC_len (pcN_len k) lo.toNat b
    split
    · obtain ⟨R2, h2⟩ := ih (b + lo.toNat * clen k + 1)
      exact ⟨R1 ++ (R2 ++ []), h1.append (by rw [hl]; exact Seg.cons fork_no (h2.append (Seg.one (fun h => absurd (h.1 : (1 : Int) = 2) (of_decide_eq_false rfl)))))⟩
    · obtain ⟨R2, h2⟩ := seg_may (e := b + lo.toNat * clen k + (hi.toNat - lo.toNat) * (clen k + 1)) (lazy := lazy) (pcN_len k) ih (hi.toNat - lo.toNat) (b + lo.toNat * clen k)
      exact ⟨R1 ++ R2, h1.append (by rw [hl]; exact h2)⟩
  | .grp k num, b => by
    obtain ⟨R, h⟩ := seg_N n k (b + 1)
    have hl := pcN_len k (b + 1)
    rw [pcN]
    by_cases c : num = n
    · subst c
      exact ⟨_, h.wrap (fun s hs => by rw [hl]; exact pcN_within k _ s hs) rfl ⟨rfl, rfl⟩⟩
    · exact ⟨R ++ [], Seg.cons (fun e => c (by have := e.2; show num = n; have e2 : 2 * num = 2 * n := this; omega)) (h.append (Seg.one (fun e => by have e2 : 2 * num + 1 = 2 * n := e.2; omega)))⟩
theorem seg_S (n : Nat) : ∀ (k : List Nd) (b : Nat), ∃ R, Seg n b (pcS k b) R
  | [], b => ⟨[], Seg.nil⟩
  | t :: r, b => by
    obtain ⟨R1, h1⟩ := seg_N n t b
    obtain ⟨R2, h2⟩ := seg_S n r (b + clen t)
    exact ⟨R1 ++ R2, by rw [pcS]; exact h1.append (by rw [pcN_len]; exact h2)⟩
theorem seg_A (n : Nat) : ∀ (k : List Nd) (b : Nat), ∃ R, Seg n b (pcA k b) R
  | [], b => ⟨[], Seg.nil⟩
  | t :: r, b => by
    rw [pcA]
    split
    · exact seg_N n t b
    · obtain ⟨R1, h1⟩ := seg_N n t (b + 1)
      obtain ⟨R2, h2⟩ := seg_A n r (b + clen t + 2)
      have no : ∀ x y, ¬ ((stB x y).k = 2 ∧ (stB x y).y = 2 * n) := fun x y h => absurd (h.1 : (1 : Int) = 2) (of_decide_eq_false rfl)
      refine ⟨R1 ++ R2, Seg.cons (no _ _) (h1.append (Seg.cons (no _ _) ?_))⟩
      rw [pcN_len, show b + 1 + clen t + 1 = b + clen t + 2 by omega]; exact h2
end
/-- A program with groups up to G, whose groups are left by their ends. -/
structure PgG (pg : List StP) (G : Nat) : Prop extends PgOk pg G where
  last : ∀ (i : Nat) (s : StP), pg[i]? = some s → (s.k = 5 ↔ i + 1 = pg.length)
  seg : ∀ n, ∃ R, Seg n 0 pg R ∧ ∀ r ∈ R, r.2 < pg.length
theorem progF_g {t : Nd} {G : Nat} (h : NdOk G t) : PgG (progF t) G := by
  refine ⟨progF_ok h, fun i s hs => ?_, fun n => ?_⟩
  · have hl := pcN_len t 0
    have hl2 := progF_len t
    unfold progF at hs
    rcases Nat.lt_or_ge i (pcN t 0).length with c | c
    · rw [List.getElem?_append_left c] at hs
      have := (pcN_ok t 0 h s (List.mem_of_getElem? hs)).k
      constructor
      · intro e; rw [e] at this; simp at this
      · intro e; omega
    · rw [List.getElem?_append_right c] at hs
      have h1 := (List.getElem?_eq_some_iff.1 hs).1
      rw [List.length_singleton] at h1
      have := List.mem_of_getElem? hs
      rw [List.mem_singleton.1 this]
      exact ⟨fun _ => by omega, fun _ => rfl⟩
  · obtain ⟨R, h1⟩ := seg_N n t 0
    have hl := pcN_len t 0
    refine ⟨R ++ [], h1.append (Seg.one (fun e => absurd (e.1 : (5 : Int) = 2) (of_decide_eq_false rfl))), fun r hr => ?_⟩
    rw [List.append_nil] at hr
    have := (h1.rng r hr).2
    rw [progF_len]; omega
end Go.SK

set_option linter.unusedVariables false
set_option linter.unusedSimpArgs false
set_option maxRecDepth 100000
namespace Go.SK
open Go
/-! ### What is saved on the way -/
def okG (n : Nat) (sv : List Int) : Prop := sv.getD (2 * n) 0 < 0 ∨ sv.getD (2 * n + 1) 0 < 0 ∨ sv.getD (2 * n) 0 ≤ sv.getD (2 * n + 1) 0
noncomputable def regs {pg : List StP} {g : Nat} (h : PgG pg g) (n : Nat) : List (Nat × Nat) := Classical.choose (h.seg n)
theorem regs_seg {pg : List StP} {g : Nat} (h : PgG pg g) (n : Nat) : Seg n 0 pg (regs h n) ∧ ∀ r ∈ regs h n, r.2 < pg.length := Classical.choose_spec (h.seg n)
structure ThI {pg : List StP} {g : Nat} (h : PgG pg g) (p0 p a : Nat) (sv : List Int) : Prop where
  at_ : a < pg.length
  len : sv.length = 2 * g + 2
  s0 : sv.getD 0 0 = p0
  val : ∀ v ∈ sv, -1 ≤ v ∧ v ≤ p
  grp : ∀ n, 1 ≤ n → n ≤ g → (∀ r ∈ regs h n, ¬ (r.1 ≤ a ∧ a < r.2)) → okG n sv
theorem getD_set_ne' {l : List Int} {i j : Nat} {v : Int} (h : i ≠ j) : (l.set i v).getD j 0 = l.getD j 0 := by
  rw [List.getD_eq_getElem?_getD, List.getElem?_set_ne h, ← List.getD_eq_getElem?_getD]
theorem getD_set_eq' {l : List Int} {i : Nat} {v : Int} (h : i < l.length) : (l.set i v).getD i 0 = v := by
  rw [List.getD_eq_getElem?_getD, List.getElem?_set_self h]; rfl
theorem getD_mem' {l : List Int} {i : Nat} (h : i < l.length) : l.getD i 0 ∈ l := by rw [List.getD_eq_getElem?_getD, List.getElem?_eq_getElem h]; exact List.getElem_mem h
section
variable {pg : List StP} {g : Nat} {h : PgG pg g} {p0 p a : Nat} {sv : List Int}
theorem stp_get (ha : a < pg.length) : pg[a]? = some (stp pg a) := by
  show _ = some (pg.getD a default)
  rw [List.getD_eq_getElem?_getD, List.getElem?_eq_getElem ha]; rfl
theorem ThI.mono {p' : Nat} (I : ThI h p0 p a sv) (hp : p ≤ p') : ThI h p0 p' a sv := ⟨I.at_, I.len, I.s0, fun v hv => ⟨(I.val v hv).1, by have := (I.val v hv).2; omega⟩, I.grp⟩
/-- On from a step that does not save. -/
theorem ThI.go (I : ThI h p0 p a sv) (h2 : (stp pg a).k ≠ 2) {z : Nat} (hz : z < pg.length) (hzz : z = (stp pg a).x ∨ ((stp pg a).k = 1 ∧ z = (stp pg a).y)) : ThI h p0 p z sv := by
  refine ⟨hz, I.len, I.s0, I.val, fun n h1 hn ho => ?_⟩
  by_cases c : ∃ r ∈ regs h n, r.1 ≤ a ∧ a < r.2
  · obtain ⟨r, hr, ha1, ha2⟩ := c
    rcases (regs_seg h n).1.stay r hr a _ (stp_get I.at_) (by omega) (by omega) with ⟨e, _⟩ | ⟨e1, e2, e3⟩
    · exact absurd e h2
    · exfalso
      refine ho r hr ?_
      rcases hzz with rfl | ⟨k1, rfl⟩
      · exact ⟨e1, e2⟩
      · exact e3 k1
  · exact I.grp n h1 hn (fun r hr hh => c ⟨r, hr, hh⟩)
theorem ThI.x (I : ThI h p0 p a sv) (h2 : (stp pg a).k ≠ 2) (h5 : (stp pg a).k ≠ 5) : ThI h p0 p (stp pg a).x sv := I.go h2 (h.x a _ (stp_get I.at_) h5) (.inl rfl)
theorem ThI.y (I : ThI h p0 p a sv) (h1 : (stp pg a).k = 1) : ThI h p0 p (stp pg a).y sv := I.go (by rw [h1]; decide) (h.y a _ (stp_get I.at_) h1) (.inr ⟨h1, rfl⟩)
/-- On from a step that saves. -/
theorem ThI.save (I : ThI h p0 p a sv) (h2 : (stp pg a).k = 2) : ThI h p0 p (stp pg a).x (sv.set (stp pg a).y p) := by
  have hsl := h.sl a _ (stp_get I.at_) h2
  have hl := I.len
  refine ⟨h.x a _ (stp_get I.at_) (by rw [h2]; decide), by rw [List.length_set]; exact hl, by rw [getD_set_ne' (by omega)]; exact I.s0, fun v hv => ?_, fun n h1 hn ho => ?_⟩
  · rcases List.mem_or_eq_of_mem_set hv with hv | rfl
    · exact I.val v hv
    · omega
  · by_cases e0 : (stp pg a).y = 2 * n
    · obtain ⟨r, hr, e1, e2⟩ := (regs_seg h n).1.into a _ (stp_get I.at_) h2 e0
      exact absurd ⟨by omega, by omega⟩ (ho r hr)
    · by_cases e1 : (stp pg a).y = 2 * n + 1
      · refine .inr (.inr ?_)
        rw [e1, getD_set_eq' (by omega), getD_set_ne' (by omega)]
        exact (I.val _ (getD_mem' (by omega))).2
      · have hg : okG n sv := by
          by_cases c : ∃ r ∈ regs h n, r.1 ≤ a ∧ a < r.2
          · obtain ⟨r, hr, ha1, ha2⟩ := c
            rcases (regs_seg h n).1.stay r hr a _ (stp_get I.at_) (by omega) (by omega) with ⟨_, e⟩ | ⟨d1, d2, _⟩
            · exact absurd e e1
            · exact absurd ⟨d1, d2⟩ (ho r hr)
          · exact I.grp n h1 hn (fun r hr hh => c ⟨r, hr, hh⟩)
        unfold okG at hg ⊢
        rw [getD_set_ne' e0, getD_set_ne' e1]; exact hg
variable {tx : List Int}
theorem fol_inv : ∀ (f : Nat) (S : List Bool) (a : Nat) (sv : List Int), ThI h p0 p a sv → ∀ t ∈ (folF pg tx p f S a sv).1, ThI h p0 p t.1 t.2 ∧ (stp pg t.1).k ≠ 2
  | 0, S, a, sv, I, t, ht => by cases ht
  | f + 1, S, a, sv, I, t, ht => by
    rw [folF] at ht
    split at ht
    · cases ht
    · split at ht
      · rename_i h1
        have Ix := I.x (by rw [h1]; decide) (by rw [h1]; decide)
        split at ht
        · exact fol_inv f _ _ _ Ix t ht
        · rcases List.mem_append.1 ht with ht | ht
          · exact fol_inv f _ _ _ Ix t ht
          · exact fol_inv f _ _ _ (I.y h1) t ht
      · split at ht
        · rename_i h2
          exact fol_inv f _ _ _ (I.save h2) t ht
        · rename_i h2
          split at ht
          · rename_i h3
            split at ht
            · exact fol_inv f _ _ _ (I.x h2 (by rw [h3]; decide)) t ht
            · cases ht
          · split at ht
            · rename_i h3
              split at ht
              · exact fol_inv f _ _ _ (I.x h2 (by rw [h3]; decide)) t ht
              · cases ht
            · rw [List.mem_singleton.1 ht]; exact ⟨I, h2⟩
/-- What is found from a place on. -/
structure Fnd (n g p0 : Nat) (v : List Int) : Prop where
  len : v.length = 2 * g + 2
  s0 : v.getD 0 0 = p0
  s1 : ∃ j : Nat, v.getD 1 0 = j ∧ p0 ≤ j ∧ j ≤ n
  grp : ∀ k, k ≤ g → okG k v
  val : ∀ u ∈ v, -1 ≤ u ∧ u ≤ n
theorem ThI.done (I : ThI h p0 p a sv) (h5 : (stp pg a).k = 5) (hp0 : p0 ≤ p) (hp : p ≤ tx.length) : Fnd tx.length g p0 (sv.set 1 p) := by
  have hl := I.len
  have ha := (h.last a _ (stp_get I.at_)).1 h5
  refine ⟨by rw [List.length_set]; exact hl, by rw [getD_set_ne' (by omega)]; exact I.s0, ⟨p, getD_set_eq' (by omega), hp0, hp⟩, fun k hk => ?_, fun u hu => ?_⟩
  · unfold okG
    by_cases c : k = 0
    · subst c
      refine .inr (.inr ?_)
      rw [getD_set_ne' (by omega), getD_set_eq' (by omega), I.s0]; omega
    · rw [getD_set_ne' (by omega), getD_set_ne' (by omega)]
      exact I.grp k (by omega) hk (fun r hr hh => by have := (regs_seg h k).2 r hr; omega)
  · rcases List.mem_or_eq_of_mem_set hu with hu | rfl
    · have := I.val u hu; omega
    · omega
theorem inner_inv {F : Nat} (hp0 : p0 ≤ p) (hp : p ≤ tx.length) : ∀ (ts nx : List Th) (S : List Bool), (∀ t ∈ ts, ThI h p0 p t.1 t.2 ∧ (stp pg t.1).k ≠ 2) → (∀ t ∈ nx, ThI h p0 (p + 1) t.1 t.2 ∧ (stp pg t.1).k ≠ 2) →
    (∀ t ∈ (inner pg tx F p ts nx S).1, ThI h p0 (p + 1) t.1 t.2 ∧ (stp pg t.1).k ≠ 2) ∧ (∀ v, (inner pg tx F p ts nx S).2.2 = some v → Fnd tx.length g p0 v)
  | [], nx, S, hts, hnx => ⟨hnx, fun v hv => by cases hv⟩
  | t :: ts, nx, S, hts, hnx => by
    obtain ⟨It, c2⟩ := hts t (.head _)
    have Ir := fun u hu => hts u (.tail t hu)
    rw [inner]
    split
    · rename_i h5
      exact ⟨hnx, fun v hv => by injection hv with hv; subst hv; exact It.done h5 hp0 hp⟩
    · rename_i h5
      split
      · rename_i he
        refine inner_inv hp0 hp ts _ _ Ir (fun u hu => ?_)
        rcases List.mem_append.1 hu with hu | hu
        · exact hnx u hu
        · exact fol_inv F S _ t.2 ((It.x c2 h5).mono (by omega)) u hu
      · exact inner_inv hp0 hp ts nx S Ir hnx
theorem bfs_inv {F : Nat} : ∀ (d p : Nat) (ts : List Th) (fd : Option (List Int)), p0 ≤ p → p + d ≤ tx.length + 1 → (∀ t ∈ ts, ThI h p0 p t.1 t.2 ∧ (stp pg t.1).k ≠ 2) → (∀ v, fd = some v → Fnd tx.length g p0 v) →
    ∀ v, bfs pg tx F d p ts fd = some v → Fnd tx.length g p0 v
  | 0, p, ts, fd, hp0, hp, hts, hfd => fun v hv => hfd v hv
  | d + 1, p, ts, fd, hp0, hp, hts, hfd => by
    rw [bfs]
    split
    · exact hfd
    · have hi := inner_inv (tx := tx) (F := F) hp0 (by omega) ts [] (freshS pg) hts (fun _ hu => by cases hu)
      refine bfs_inv d (p + 1) _ _ (by omega) (by omega) hi.1 (fun v hv => ?_)
      cases hx : (inner pg tx F p ts [] (freshS pg)).2.2 with
      | some u => rw [hx] at hv; injection hv with hv; subst hv; exact hi.2 _ hx
      | none => rw [hx] at hv; exact hfd v hv
end
/-! ### From a place on; the first place; all of them -/
def sv0 (g p : Nat) : List Int := (p : Int) :: List.replicate (2 * g + 1) (-1)
theorem sv0_len (g p : Nat) : (sv0 g p).length = 2 * g + 2 := by simp [sv0]
theorem sv0_ok {pg : List StP} {g : Nat} (h : PgG pg g) {p : Nat} : ThI h p p 0 (sv0 g p) := by
  refine ⟨h.pos, sv0_len g p, rfl, ?_, ?_⟩
  · intro v hv
    rcases List.mem_cons.1 hv with rfl | hv
    · omega
    · rw [(List.mem_replicate.1 hv).2]; omega
  · intro n h1 h2 _
    refine .inl ?_
    have : (sv0 g p).getD (2 * n) 0 = -1 := by
      obtain ⟨m, rfl⟩ : ∃ m, n = m + 1 := ⟨n - 1, by omega⟩
      show (List.replicate (2 * g + 1) (-1 : Int)).getD (2 * m + 1) 0 = -1
      rw [List.getD_eq_getElem?_getD, List.getElem?_replicate, if_pos (by omega)]; rfl
    omega
/-- What a pattern finds at a place. -/
def fromF (pg : List StP) (g : Nat) (tx : List Int) (p : Nat) : Option (List Int) := bfs pg tx (pg.length + 1) (tx.length + 1 - p) p (folF pg tx p (pg.length + 1) (freshS pg) 0 (sv0 g p)).1 none
theorem from_ok {pg : List StP} {g : Nat} (h : PgG pg g) {tx : List Int} {p : Nat} (hp : p ≤ tx.length) {v : List Int} (e : fromF pg g tx p = some v) : Fnd tx.length g p v := by
  exact bfs_inv (h := h) (p0 := p) (tx := tx) (F := pg.length + 1) (tx.length + 1 - p) p _ none (Nat.le_refl _) (by omega) (fun t ht => fol_inv _ _ 0 (sv0 g p) (sv0_ok h) t ht) (fun v hv => by cases hv) v e
/-- The first place at which something is found. -/
def findGo (pg : List StP) (g : Nat) (tx : List Int) : Nat → Nat → Option (List Int)
  | 0, _ => none
  | d + 1, p => match fromF pg g tx p with
    | some v => some v
    | none => findGo pg g tx d (p + 1)
def mfindF (pg : List StP) (g : Nat) (tx : List Int) (p : Nat) : Option (List Int) := findGo pg g tx (tx.length + 1 - p) p
theorem findGo_ok {pg : List StP} {g : Nat} (h : PgG pg g) {tx : List Int} : ∀ (d p : Nat), p + d ≤ tx.length + 1 → ∀ v, findGo pg g tx d p = some v → ∃ p' : Nat, p ≤ p' ∧ p' ≤ tx.length ∧ Fnd tx.length g p' v
  | 0, p, hp, v, hv => by cases hv
  | d + 1, p, hp, v, hv => by
    rw [findGo] at hv
    split at hv
    · rename_i u hu
      injection hv with hv
      subst hv
      exact ⟨p, Nat.le_refl _, by omega, from_ok h (by omega) hu⟩
    · obtain ⟨p', h1, h2, h3⟩ := findGo_ok h d (p + 1) (by omega) v hv
      exact ⟨p', by omega, h2, h3⟩
/-- Where to look next. -/
def nxt (v : List Int) : Nat := (v.getD 1 0).toNat + (if v.getD 0 0 = v.getD 1 0 then 1 else 0)
/-- All that is found, none within another one. -/
def allGo (pg : List StP) (g : Nat) (tx : List Int) : Nat → Nat → List (List Int)
  | 0, _ => []
  | d + 1, p => if tx.length < p then [] else match mfindF pg g tx p with
    | none => []
    | some v => v :: allGo pg g tx d (nxt v)
def allF (pg : List StP) (g : Nat) (tx : List Int) : List (List Int) := allGo pg g tx (tx.length + 1) 0
/-- Finds in order, from a place on. -/
inductive Ris (n g : Nat) : Nat → List (List Int) → Prop
  | nil (a : Nat) : a ≤ n → Ris n g a []
  | cons (a i j : Nat) (v : List Int) (l : List (List Int)) : a ≤ i → i ≤ j → j ≤ n → v.length = 2 * g + 2 → v.getD 0 0 = i → v.getD 1 0 = j → Fnd n g i v → Ris n g j l → Ris n g a (v :: l)
theorem Ris.le {n g a b : Nat} {l : List (List Int)} (h : Ris n g b l) (hab : a ≤ b) (hb : b ≤ n) : Ris n g a l := by
  cases h with
  | nil _ h => exact .nil a (by omega)
  | cons _ i j v l h1 h2 h3 h4 h5 h6 h7 h8 => exact .cons a i j v l (by omega) h2 h3 h4 h5 h6 h7 h8
theorem allGo_ris {pg : List StP} {g : Nat} (h : PgG pg g) {tx : List Int} : ∀ (d p a : Nat), a ≤ p → a ≤ tx.length → Ris tx.length g a (allGo pg g tx d p)
  | 0, p, a, h1, h2 => .nil a h2
  | d + 1, p, a, h1, h2 => by
    rw [allGo]
    split
    · exact .nil a h2
    · rename_i hp
      split
      · exact .nil a h2
      · rename_i v hv
        obtain ⟨i, e1, e2, F⟩ := findGo_ok h _ p (by omega) v hv
        obtain ⟨j, e3, e4, e5⟩ := F.s1
        refine .cons a i j v _ (by omega) e4 e5 F.len F.s0 e3 F (allGo_ris h d (nxt v) j ?_ e5)
        unfold nxt; rw [e3]; omega
/-- More turns than that change nothing. -/
theorem allGo_more {pg : List StP} {g : Nat} (h : PgG pg g) {tx : List Int} : ∀ (d d' p : Nat), tx.length + 1 ≤ p + d → tx.length + 1 ≤ p + d' → allGo pg g tx d p = allGo pg g tx d' p
  | 0, 0, p, _, _ => rfl
  | 0, d' + 1, p, h1, h2 => by rw [allGo, allGo, if_pos (by omega)]
  | d + 1, 0, p, h1, h2 => by rw [allGo, allGo, if_pos (by omega)]
  | d + 1, d' + 1, p, h1, h2 => by
    rw [allGo, allGo]
    by_cases c : tx.length < p
    · rw [if_pos c, if_pos c]
    · rw [if_neg c, if_neg c]
      cases hv : mfindF pg g tx p with
      | none => rfl
      | some v =>
        obtain ⟨i, e1, e2, F⟩ := findGo_ok h _ p (by omega) v hv
        obtain ⟨j, e3, e4, e5⟩ := F.s1
        have hn : p + 1 ≤ nxt v := by
          unfold nxt; rw [e3, F.s0]
          split <;> omega
        show v :: _ = v :: _
        rw [allGo_more h d d' (nxt v) (by omega) (by omega)]
theorem allF_ris {pg : List StP} {g : Nat} (h : PgG pg g) {tx : List Int} : Ris tx.length g 0 (allF pg g tx) := allGo_ris h _ 0 0 (Nat.le_refl _) (Nat.zero_le _)
end Go.SK

set_option linter.unusedVariables false
set_option linter.unusedSimpArgs false
set_option maxRecDepth 100000
namespace Go.SK
open Go
/-- What a group has of a text. -/
def grpT (tx f : List Int) (k : Nat) : List Int := if 2 * k + 1 < f.length ∧ 0 ≤ f.getD (2 * k) 0 ∧ 0 ≤ f.getD (2 * k + 1) 0 then (tx.drop (f.getD (2 * k) 0).toNat).take ((f.getD (2 * k + 1) 0).toNat - (f.getD (2 * k) 0).toNat) else []
/-- $0 to $9 are the whole and groups, $$ is $. -/
def fillGo (tx f : List Int) : List Int → List Int
  | [] => []
  | [c] => [c]
  | c :: d :: r => if c = 36 then (if d = 36 then 36 :: fillGo tx f r else if 48 ≤ d ∧ d ≤ 57 then grpT tx f (d - 48).toNat ++ fillGo tx f r else c :: d :: fillGo tx f r) else c :: fillGo tx f (d :: r)
theorem grpT_len (tx f : List Int) (k : Nat) : (grpT tx f k).length ≤ tx.length := by
  unfold grpT
  split
  · rw [List.length_take, List.length_drop]; omega
  · exact Nat.zero_le _
theorem fillGo_len (tx f : List Int) : ∀ (w : List Int), (fillGo tx f w).length ≤ w.length * (tx.length + 1)
  | [] => by simp [fillGo]
  | [c] => by simp [fillGo]
  | c :: d :: r => by
    have h1 := fillGo_len tx f r
    have h2 := fillGo_len tx f (d :: r)
    have h3 := grpT_len tx f (d - 48).toNat
    simp only [List.length_cons, Nat.succ_mul] at h2 ⊢
    rw [fillGo]
    split
    · split
      · simp only [List.length_cons]; omega
      · split
        · rw [List.length_append]; omega
        · simp only [List.length_cons]; omega
    · simp only [List.length_cons]; omega
theorem fill_end {tx f w : List Int} {i : Nat} (h : i + 1 = w.length) : fillGo tx f (w.drop i) = [w.getD i 0] := by
  rw [List.drop_eq_getElem_cons (by omega), List.drop_of_length_le (by omega), fillGo, List.getD_eq_getElem?_getD, List.getElem?_eq_getElem (by omega)]; rfl
theorem fill_two {tx f w : List Int} {i : Nat} (h : i + 1 < w.length) : fillGo tx f (w.drop i) = if w.getD i 0 = 36 then (if w.getD (i + 1) 0 = 36 then 36 :: fillGo tx f (w.drop (i + 2)) else if 48 ≤ w.getD (i + 1) 0 ∧ w.getD (i + 1) 0 ≤ 57 then grpT tx f (w.getD (i + 1) 0 - 48).toNat ++ fillGo tx f (w.drop (i + 2)) else w.getD i 0 :: w.getD (i + 1) 0 :: fillGo tx f (w.drop (i + 2))) else w.getD i 0 :: fillGo tx f (w.drop (i + 1)) := by
  have e : ∀ k, k < w.length → w.getD k 0 = w[k]! := fun k hk => by rw [List.getD_eq_getElem?_getD, List.getElem?_eq_getElem hk]; simp [hk]
  have e1 : w.drop (i + 1) = w.getD (i + 1) 0 :: w.drop (i + 2) := by
    rw [List.drop_eq_getElem_cons h, List.getD_eq_getElem?_getD, List.getElem?_eq_getElem h]; rfl
  have e0 : w.drop i = w.getD i 0 :: w.drop (i + 1) := by
    rw [List.drop_eq_getElem_cons (show i < w.length by omega), List.getD_eq_getElem?_getD, List.getElem?_eq_getElem (show i < w.length by omega)]; rfl
  rw [e0, e1, fillGo]
end Go.SK

set_option linter.unusedVariables false
set_option linter.unusedSimpArgs false
set_option maxRecDepth 100000
namespace Go.SK
open Go
/-- The parts, one find behind the other; none: too much is put. -/
def mswGo (tx w : List Int) : List (List Int) → Int → Nat → Option (List Part)
  | [], a, n => some [keepP ((tx.length : Int) - a)]
  | f :: r, a, n => if 1048576 < n + (fillGo tx f w).length then none else (mswGo tx w r (f.getD 1 0) (n + (fillGo tx f w).length)).map fun x => keepP (f.getD 0 0 - a) :: ⟨2, ((fillGo tx f w).length : Int), enc (fillGo tx f w)⟩ :: dropP (f.getD 1 0 - f.getD 0 0) :: x
theorem msw_nil (tx w : List Int) (a : Int) (n : Nat) : mswGo tx w [] a n = some [keepP ((tx.length : Int) - a)] := rfl
theorem msw_big {tx w f : List Int} {r : List (List Int)} {a : Int} {n : Nat} (h : 1048576 < n + (fillGo tx f w).length) : mswGo tx w (f :: r) a n = none := if_pos h
theorem msw_on {tx w f : List Int} {r : List (List Int)} {a : Int} {n : Nat} (h : ¬ 1048576 < n + (fillGo tx f w).length) : mswGo tx w (f :: r) a n = (mswGo tx w r (f.getD 1 0) (n + (fillGo tx f w).length)).map fun x => keepP (f.getD 0 0 - a) :: ⟨2, ((fillGo tx f w).length : Int), enc (fillGo tx f w)⟩ :: dropP (f.getD 1 0 - f.getD 0 0) :: x := if_neg h
theorem grpT_mem {tx f : List Int} {k : Nat} {x : Int} (h : x ∈ grpT tx f k) : x ∈ tx := by
  unfold grpT at h
  split at h
  · exact List.mem_of_mem_drop (List.mem_of_mem_take h)
  · cases h
/-- What is put are code points of the text and of what stands for it, and signs. -/
theorem fillGo_mem {tx f : List Int} {P : Int → Prop} (hP : P 36) (ht : ∀ x ∈ tx, P x) : ∀ (w : List Int), (∀ x ∈ w, P x) → ∀ x ∈ fillGo tx f w, P x
  | [], hw, x, hx => by simp [fillGo] at hx
  | [c], hw, x, hx => by simp [fillGo] at hx; subst hx; exact hw _ (.head _)
  | c :: d :: r, hw, x, hx => by
    have h1 := fillGo_mem (f := f) hP ht r (fun y hy => hw y (.tail _ (.tail _ hy)))
    have h2 := fillGo_mem (f := f) hP ht (d :: r) (fun y hy => hw y (.tail _ hy))
    rw [fillGo] at hx
    split at hx
    · split at hx
      · rcases List.mem_cons.1 hx with rfl | hx
        · exact hP
        · exact h1 x hx
      · split at hx
        · rcases List.mem_append.1 hx with hx | hx
          · exact ht x (grpT_mem hx)
          · exact h1 x hx
        · rcases List.mem_cons.1 hx with rfl | hx
          · exact hw _ (.head _)
          · rcases List.mem_cons.1 hx with rfl | hx
            · exact hw _ (.tail _ (.head _))
            · exact h1 x hx
    · rcases List.mem_cons.1 hx with rfl | hx
      · exact hw _ (.head _)
      · exact h2 x hx
end Go.SK
