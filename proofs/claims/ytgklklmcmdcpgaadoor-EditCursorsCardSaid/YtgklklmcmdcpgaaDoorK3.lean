/- Regions whose order is open: one walk, in an order of one's own, for all orders. -/
import Derived.Test.YtgklklmcmdcpgaaDoorK2
set_option linter.unusedVariables false
set_option linter.unusedSimpArgs false
namespace Go.SK
open Go Go.RowKit

/-- p: yields whatever the world; t: yields in each world that meets the region's condition (a load, a call that only makes); o: alone may come up now; z: likewise, and may break the condition. -/
inductive Kd where
  | p | t | o | z
  deriving DecidableEq

section
variable {P : Program} {ops : Array Oper} {Q : Exit → Act → World → Prop} {C Sx : World → Prop} {ds : List Nat}

def YQ (P : Program) (ops : Array Oper) (C : World → Prop) (o : Oper) (v : Value) (a : Act) : Prop :=
  (Region.wanted o (yielded ops a.tmps) = true ∧ ∀ w, C w → ((execOp a.eval o).run P w = .ok (.value v) w ∨ ∃ f args, (execOp a.eval o).run P w = .ok (.enter f args) w ∧ Calls P f args w (fun e w' => e = .returned v ∧ Kp NoB w w'))) ∨
  (Region.wanted o (yielded ops a.tmps) = false ∧ v = undef)

theorem YQ.wpOp {i : Nat} {o : Oper} {v : Value} {a : Act} (hi : ops[i]? = some o) (hy : YQ P ops C o v a) {K : Act → World → Prop} {w : World} (hC : C w) (h : ∀ w', Kp NoB w w' → K (a.put o.dst v) w') : wpOp P ops Q i K a w := by
  unfold Go.wpOp
  simp only [hi]
  rcases hy with ⟨hw, hv⟩ | ⟨hw, rfl⟩
  · rw [if_pos hw]
    refine .inl ?_
    unfold Oper.wp
    rcases hv w hC with hr | ⟨f, args, hr, hc⟩
    · rw [hr, Oper.upon_value]; exact h w (Kp.refl _ _)
    · rw [hr, Oper.upon_enter]; exact hc.mono fun e w' ⟨he, hk⟩ => by subst he; exact h w' hk
  · rw [if_neg (by simp [hw])]; exact h w (Kp.refl _ _)

theorem YQ.of_same {o : Oper} {v : Value} {a a' : Act} (hy : YQ P ops C o v a) (he : execOp a'.eval o = execOp a.eval o) (hw : Region.wanted o (yielded ops a'.tmps) = Region.wanted o (yielded ops a.tmps)) : YQ P ops C o v a' := by
  unfold YQ at *
  rw [he, hw]
  exact hy

theorem wpOp_putQ {j : Nat} {oi oj : Oper} {v : Value} (hj : ops[j]? = some oj) (hap : oi.apart ops oj = true)
    (hsi : ∀ cs b, oi.op ≠ .select cs b) (hsj : ∀ cs b, oj.op ≠ .select cs b)
    (hQ : ∀ c a w, Q (.panic c) (a.put oi.dst v) w → Q (.panic c) a w) {K : Act → World → Prop} {a : Act} {w : World}
    (hy : YQ P ops C oi v a) (h : wpOp P ops Q j K (a.put oi.dst v) w) :
    wpOp P ops Q j (fun a' w' => YQ P ops C oi v a' ∧ K (a'.put oi.dst v) w') a w := by
  obtain ⟨h1, h2, h3⟩ := Oper.apart_spec hap
  have keep : ∀ (a : Act), YQ P ops C oi v a → ∀ u, YQ P ops C oi v (a.put oj.dst u) := fun a hy u =>
    hy.of_same (execOp_put oi hsi a oj.dst u h3) (wanted_put oi a oj.dst u h3)
  have keepD : ∀ d, YQ P ops C oi v { a with defers := d :: a.defers } := fun d => hy.of_same rfl rfl
  unfold wpOp at *
  simp only [hj] at *
  rw [wanted_put oj a oi.dst v h1] at h
  split
  · rename_i hw
    simp only [hw, if_true] at h
    rcases h with h | ⟨hasks, hlets⟩
    case inr => exact .inr ⟨by unfold Oper.asks at *; rw [execOp_put oj hsj a oi.dst v h1] at hasks; exact hasks, hlets⟩
    refine .inl ?_
    unfold Oper.wp at *
    rw [execOp_put oj hsj a oi.dst v h1] at h
    generalize (execOp a.eval oj).run P w = r at *
    cases r with
    | ok n w' =>
      cases n <;> simp only [Oper.upon] at h ⊢
      case value u => exact ⟨keep a hy u, by rw [← Act.put_comm a v u h2]; exact h⟩
      case skip => exact ⟨keep a hy _, by rw [← Act.put_comm a v undef h2]; exact h⟩
      case defer d =>
        refine ⟨keep _ (keepD d) _, ?_⟩
        rw [← Act.put_comm _ v undef h2, ← Act.put_defers]
        exact h
      case enter f args =>
        refine Calls.mono h fun e w'' he => ?_
        cases e with
        | returned u => exact ⟨keep a hy u, by rw [← Act.put_comm a v u h2]; exact he⟩
        | panicked c => exact hQ _ _ _ he
        | outgrown => exact he
      case row row args => exact Rows.mono h fun u w'' he => ⟨keep a hy u, by rw [← Act.put_comm a v u h2]; exact he⟩
    | halt x w' =>
      cases x <;> simp only [Oper.upon] at h ⊢
      case panic u => exact hQ _ _ _ h
  · rename_i hw
    simp only [hw] at h
    exact ⟨keep a hy _, by rw [← Act.put_comm a v undef h2]; exact h⟩

/-- Whatever order is picked, whatever is made meanwhile; Sx stays but for the operations of ds. -/
def wpAnyR (P : Program) (ops : Array Oper) (Q : Exit → Act → World → Prop) (Sx : World → Prop) (ds : List Nat) : Nat → Array Bool → Act → World → Prop
  | 0, listed, a, w => ∀ w', Kp NoB w w' → Region.ready .any ops listed = [] ∧ Q .normal a w'
  | fuel + 1, listed, a, w => ∀ w', Kp NoB w w' → (Region.ready .any ops listed = [] → Q .normal a w') ∧
    ∀ i ∈ Region.ready .any ops listed, wpOp P ops Q i (fun a1 w1 => (i ∉ ds → Sx w' → Sx w1) ∧ wpAnyR P ops Q Sx ds fuel (listed.setIfInBounds i true) a1 w1) a w'

theorem wpAnyR.quiet : ∀ {fuel : Nat} {listed : Array Bool} {a : Act} {w w' : World}, wpAnyR P ops Q Sx ds fuel listed a w → Kp NoB w w' → wpAnyR P ops Q Sx ds fuel listed a w'
  | 0, _, _, _, _, h, k => fun w2 k2 => h w2 (k.quiet k2)
  | _ + 1, _, _, _, _, h, k => fun w2 k2 => h w2 (k.quiet k2)
theorem wpAny_of_R : ∀ (fuel : Nat) (listed : Array Bool) (a : Act) (w : World), wpAnyR P ops Q Sx ds fuel listed a w → wpAny P .any ops Q fuel listed a w
  | 0, _, _, w, h => h w (Kp.refl _ _)
  | fuel + 1, _, _, w, h => ⟨(h w (Kp.refl _ _)).1, fun i hi => wpOp_mono (fun a' w' h' => wpAny_of_R fuel _ a' w' h'.2) ((h w (Kp.refl _ _)).2 i hi)⟩

theorem wpAnyR_first {i : Nat} {oi : Oper} {v : Value} (hi : ops[i]? = some oi) (hsel : ∀ (j : Nat) (o : Oper) cs b, ops[j]? = some o → o.op ≠ .select cs b)
    (hQ : ∀ c a w, Q (.panic c) (a.put oi.dst v) w → Q (.panic c) a w) (hCq : ∀ w w', Kp NoB w w' → C w → C w') (X : Array Bool → Prop) (hX : ∀ listed j, X listed → j ∈ Region.ready .any ops listed → j ≠ i → X (listed.setIfInBounds j true))
    (hC : ∀ listed j, X listed → j ∈ Region.ready .any ops listed → j ≠ i → listed.getD i true = false → ∀ w w1, (j ∉ ds → Sx w → Sx w1) → C w → C w1) :
    ∀ (fuel : Nat) (listed : Array Bool) (a : Act) (w : World),
      (∀ j oj, ops[j]? = some oj → j ≠ i → listed.getD j true = false → (∀ e ∈ oj.after, Region.binds .any e = true → e.on ≠ i) → oi.apart ops oj = true) →
      X listed → i ∈ Region.ready .any ops listed → YQ P ops C oi v a → C w →
      wpAnyR P ops Q Sx ds fuel (listed.setIfInBounds i true) (a.put oi.dst v) w → (∀ w', i ∉ ds → Sx w → Kp NoB w w' → Sx w') → (∀ w w', Kp NoB w w' → Sx w → Sx w') → wpAnyR P ops Q Sx ds (fuel + 1) listed a w := by
  intro fuel
  induction fuel with
  | zero =>
    intro listed a w _ _ hr hy hCw H _ hSq w' hk
    refine ⟨fun h => (by rw [h] at hr; cases hr), fun j hj => ?_⟩
    by_cases hji : j = i
    · subst hji; exact hy.wpOp hi (hCq _ _ hk hCw) (fun w2 hk2 => ⟨fun _ h => hSq _ _ hk2 h, H.quiet (hk.quiet hk2)⟩)
    · have := ready_mono hj hji
      rw [(H w (Kp.refl _ _)).1] at this
      cases this
  | succ fuel ih =>
    intro listed a w hfree hXl hr hy hCw H hS1 hSq w' hk
    refine ⟨fun h => (by rw [h] at hr; cases hr), fun j hj => ?_⟩
    by_cases hji : j = i
    · subst hji; exact hy.wpOp hi (hCq _ _ hk hCw) (fun w2 hk2 => ⟨fun _ h => hSq _ _ hk2 h, H.quiet (hk.quiet hk2)⟩)
    · have h1 := (H w' hk).2 j (ready_mono hj hji)
      obtain ⟨hjun, oj, hoj, hall⟩ := mem_ready.1 hj
      have hiun := (mem_ready.1 hr).1
      have hnot : ∀ e ∈ oj.after, Region.binds .any e = true → e.on ≠ i := fun e he hb heq => by
        have h1 := hall e he hb
        rw [heq] at h1
        rcases Nat.lt_or_ge i listed.size with h' | h'
        · simp [h'] at hiun h1; rw [hiun] at h1; cases h1
        · simp [Array.getElem?_eq_none h'] at h1
      have h2 := wpOp_putQ hoj (hfree j oj hoj hji hjun hnot) (fun cs b => hsel i oi cs b hi) (fun cs b => hsel j oj cs b hoj) hQ hy h1
      have hfree' : ∀ k ok, ops[k]? = some ok → k ≠ i → (listed.setIfInBounds j true).getD k true = false →
          (∀ e ∈ ok.after, Region.binds .any e = true → e.on ≠ i) → oi.apart ops ok = true := fun k ok hk hki hun hno => by
        refine hfree k ok hk hki ?_ hno
        by_cases hjk : j = k
        · subst hjk; exact hjun
        · rw [getD_set_ne true hjk] at hun; exact hun
      refine wpOp_mono (fun a' w1 h3 => ⟨h3.2.1, ih (listed.setIfInBounds j true) a' w1 hfree' (hX _ _ hXl hj hji) (ready_mono hr (Ne.symm hji)) h3.1 (hC _ _ hXl hj hji hiun _ _ h3.2.1 (hCq _ _ hk hCw)) ?_ (fun w2 _ h k2 => hSq _ _ k2 h) hSq⟩) h2
      rw [Array.setIfInBounds_comm _ _ hji]
      exact h3.2.2
end

/-! ### The check of an order, by numbers -/
def needsOf (o : Oper) : List Nat := (o.after.toList.filter (fun e => Region.binds .any e)).map (fun e => e.on)
def clashOf (ops : Array Oper) (i : Nat) (oi : Oper) : List Nat := (List.range ops.size).filter fun j => !(Nat.beq j i) && match ops[j]? with
  | some oj => !((needsOf oj).contains i || oi.apart ops oj)
  | none => false
def tbl (ops : Array Oper) : List (List Nat × List Nat) := (List.range ops.size).map fun i => match ops[i]? with
  | some o => (needsOf o, clashOf ops i o)
  | none => ([], [])
def rdyAt (T : List (List Nat × List Nat)) (l : List Bool) (i : Nat) : Bool := !l.getD i true && match T[i]? with
  | some r => r.1.all (fun j => l.getD j false)
  | none => false
def rdyT (T : List (List Nat × List Nat)) (l : List Bool) : List Nat := (List.range T.length).filter (rdyAt T l)
def freT (T : List (List Nat × List Nat)) (l : List Bool) (i : Nat) : Bool := match T[i]? with
  | some r => r.2.all (fun j => l.getD j true)
  | none => false
def cloT (T : List (List Nat × List Nat)) (l : List Bool) : Bool := (List.range T.length).all fun j => !l.getD j false || match T[j]? with
  | some r => r.1.all (fun k => l.getD k false)
  | none => true
/-- What each waits for, as bits: needs of earlier operations alone. -/
def ancs : List (List Nat × List Nat) → List Nat → List Nat
  | [], B => B
  | r :: T, B => ancs T (B ++ [r.1.foldl (fun b n => b ||| (2 ^ n ||| B.getD n 0)) 0])
/-- An order of one's own: where several loud operations may come up, one for each. -/
inductive Od where
  | nil
  | cons (h : Kd × Nat) (t : Od)
  | alt (a b : Od)
def Od.heads : Od → List Nat
  | .nil => []
  | .cons h _ => [h.2]
  | .alt a b => a.heads ++ b.heads
def linOk (T : List (List Nat × List Nat)) (B : List Nat) (ds : List Nat) : Od → Nat → List Bool → Bool → Bool
  | .nil, n, l, f => Nat.beq n 0 && !f && (rdyT T l).isEmpty
  | .cons (k, i) r, n, l, f => Nat.blt 0 n && (match k with
    | .p => !f && (freT T l i && rdyAt T l i)
    | .t => !f && (freT T l i && rdyAt T l i && cloT T l && ds.all fun d => l.getD d true || (Nat.blt d T.length && (B.getD d 0).testBit i))
    | .o => (f || (rdyT T l == [i])) && !ds.contains i
    | .z => (f || (rdyT T l == [i])) && ds.contains i) && linOk T B ds r (n - 1) (l.set i true) false
  | .alt a b, n, l, f => (f || (!(rdyT T l).isEmpty && (rdyT T l).all fun i => (a.heads ++ b.heads).contains i)) && linOk T B ds a n l true && linOk T B ds b n l true
def linChk (ops : Array Oper) (ds : List Nat) (ord : Od) : Bool :=
  Region.noSelect ops && linOk (tbl ops) (ancs (tbl ops) []) ds ord ops.size (List.replicate ops.size false) false

section
variable {ops : Array Oper}
theorem gdA (l : List Bool) (j : Nat) (b : Bool) : l.toArray.getD j b = l.getD j b := by simp [Array.getD_eq_getD_getElem?, List.getD_eq_getElem?_getD]
theorem need_all (o : Oper) (p : Nat → Bool) : o.after.all (fun e => !Region.binds .any e || p e.on) = (needsOf o).all p := by
  unfold needsOf
  rw [← Array.all_toList]
  induction o.after.toList with
  | nil => rfl
  | cons e r ih =>
    rw [List.all_cons, ih, List.filter_cons]
    cases h : Region.binds .any e <;> simp
theorem mem_needs {o : Oper} {j : Nat} : j ∈ needsOf o ↔ ∃ e ∈ o.after, Region.binds .any e = true ∧ e.on = j := by
  unfold needsOf
  simp only [List.mem_map, List.mem_filter, Array.mem_toList_iff]
  constructor
  · rintro ⟨e, ⟨h1, h2⟩, h3⟩; exact ⟨e, h1, h2, h3⟩
  · rintro ⟨e, h1, h2, h3⟩; exact ⟨e, ⟨h1, h2⟩, h3⟩
theorem tbl_length : (tbl ops).length = ops.size := by simp [tbl]
theorem tbl_some {i : Nat} {o : Oper} (h : ops[i]? = some o) : (tbl ops)[i]? = some (needsOf o, clashOf ops i o) := by
  have hi := (Array.getElem?_eq_some_iff.1 h).1
  unfold tbl
  rw [List.getElem?_map, List.getElem?_range hi, Option.map_some, h]
theorem tbl_none {i : Nat} (h : ops[i]? = none) : (tbl ops)[i]? = none := by
  have hi : ops.size ≤ i := Array.getElem?_eq_none_iff.1 h
  exact List.getElem?_eq_none (by rw [tbl_length]; exact hi)
theorem rdyAt_eq (l : List Bool) (i : Nat) : rdyAt (tbl ops) l i = (!l.toArray.getD i true && ((ops[i]?).map (·.after.all fun e => !Region.binds .any e || l.toArray.getD e.on false)).getD false) := by
  unfold rdyAt
  rw [gdA]
  cases h : ops[i]? with
  | none => rw [tbl_none h]; rfl
  | some o =>
    rw [tbl_some h]
    simp only [Option.map_some, Option.getD_some]
    rw [← need_all]
    simp only [gdA]
theorem ready_eq (l : List Bool) : Region.ready .any ops l.toArray = rdyT (tbl ops) l := by
  unfold Region.ready rdyT
  rw [tbl_length]
  refine List.filter_congr (fun i _ => ?_)
  rw [rdyAt_eq]
theorem rdyAt_mem {l : List Bool} {i : Nat} (h : rdyAt (tbl ops) l i = true) : i ∈ Region.ready .any ops l.toArray := by
  rw [ready_eq]
  unfold rdyT
  rw [List.mem_filter, List.mem_range]
  refine ⟨?_, h⟩
  unfold rdyAt at h
  rw [Bool.and_eq_true] at h
  cases hq : (tbl ops)[i]? with
  | none => rw [hq] at h; simp at h
  | some r => exact (List.getElem?_eq_some_iff.1 hq).1
theorem fre_spec {l : List Bool} {i : Nat} {oi : Oper} (hi : ops[i]? = some oi) (h : freT (tbl ops) l i = true) :
    ∀ j oj, ops[j]? = some oj → j ≠ i → l.toArray.getD j true = false → (∀ e ∈ oj.after, Region.binds .any e = true → e.on ≠ i) → oi.apart ops oj = true := by
  intro j oj hj hne hun hno
  unfold freT at h
  rw [tbl_some hi] at h
  simp only [List.all_eq_true] at h
  cases hap : oi.apart ops oj with
  | true => rfl
  | false =>
    have hlt : j < ops.size := (Array.getElem?_eq_some_iff.1 hj).1
    have hm : j ∈ clashOf ops i oi := by
      unfold clashOf
      rw [List.mem_filter, List.mem_range]
      refine ⟨hlt, ?_⟩
      have hb : Nat.beq j i = false := by
        cases hq : Nat.beq j i with
        | true => exact absurd (beq_of hq) hne
        | false => rfl
      have hc : (needsOf oj).contains i = false := by
        cases hq : (needsOf oj).contains i with
        | true =>
          have := mem_needs.1 (by simpa using hq : i ∈ needsOf oj)
          obtain ⟨e, he, hb, ho⟩ := this
          exact absurd ho (hno e he hb)
        | false => rfl
      have hc' : i ∉ needsOf oj := by simpa using hc
      simp [hb, hj, hc', hap]
    have := h j hm
    rw [gdA] at hun
    rw [hun] at this
    cases this
theorem clo_spec {l : List Bool} (h : cloT (tbl ops) l = true) : ∀ j oj, ops[j]? = some oj → l.toArray.getD j false = true → ∀ n ∈ needsOf oj, l.toArray.getD n false = true := by
  intro j oj hj hl n hn
  have hlt : j < ops.size := (Array.getElem?_eq_some_iff.1 hj).1
  have h1 := List.all_eq_true.1 h j (List.mem_range.2 (by rw [tbl_length]; exact hlt))
  rw [gdA] at hl ⊢
  rw [hl, tbl_some hj] at h1
  simp only [Bool.not_true, Bool.false_or, List.all_eq_true] at h1
  exact h1 n hn
/-- What is listed is closed. -/
def Clo (ops : Array Oper) (listed : Array Bool) : Prop := ∀ j oj, ops[j]? = some oj → listed.getD j false = true → ∀ n ∈ needsOf oj, listed.getD n false = true
theorem Clo.set {listed : Array Bool} {i : Nat} (h : Clo ops listed) (hi : i ∈ Region.ready .any ops listed) : Clo ops (listed.setIfInBounds i true) := by
  obtain ⟨_, oi, hoi, hall⟩ := mem_ready.1 hi
  intro j oj hj hl n hn
  by_cases hij : i = j
  · subst hij
    have : oj = oi := Option.some.inj (hj.symm.trans hoi)
    subst this
    obtain ⟨e, he, hb, ho⟩ := mem_needs.1 hn
    rw [← ho]
    exact getD_set_true (hall e he hb)
  · rw [getD_set_ne false hij] at hl
    exact getD_set_true (h j oj hj hl n hn)
theorem anc_get (T : List (List Nat × List Nat)) : ∀ (U B : List Nat) (V : List (List Nat × List Nat)), B.length + V.length = T.length → (∀ d r, T[d]? = some r → B.length ≤ d → V[d - B.length]? = some r) →
    ∀ d, d < B.length → (ancs V B).getD d 0 = B.getD d 0 := by
  intro U B V
  induction V generalizing B with
  | nil => intro _ _ d _; rfl
  | cons r V ih =>
    intro hl hV d hd
    unfold ancs
    rw [ih (B ++ [_]) (by simp at hl ⊢; omega) (fun d r' h1 h2 => by
      simp only [List.length_append, List.length_cons, List.length_nil] at h2 ⊢
      have := hV d r' h1 (by omega)
      rw [show d - B.length = (d - (B.length + (0 + 1))) + 1 by omega] at this
      simpa using this) d (by simp; omega)]
    simp [List.getD_eq_getElem?_getD, List.getElem?_append_left hd]
/-- The bits say so only where it is so. -/
def BitsOk (ops : Array Oper) (B : List Nat) : Prop := ∀ d, d < B.length → ∀ i, (B.getD d 0).testBit i = true → ∀ listed : Array Bool, Clo ops listed → (∀ o, ops[d]? = some o → (∀ n ∈ needsOf o, listed.getD n false = true) → listed.getD i false = true)
theorem foldl_or (B : List Nat) (i : Nat) : ∀ (ns : List Nat) (b : Nat), (ns.foldl (fun b n => b ||| (2 ^ n ||| B.getD n 0)) b).testBit i = true → b.testBit i = true ∨ ∃ n ∈ ns, n = i ∨ (B.getD n 0).testBit i = true
  | [], b, h => .inl h
  | n :: r, b, h => by
    rw [List.foldl_cons] at h
    rcases foldl_or B i r _ h with h1 | ⟨m, hm, h1⟩
    · rw [Nat.testBit_or, Nat.testBit_or, Bool.or_eq_true, Bool.or_eq_true] at h1
      rcases h1 with h1 | h1 | h1
      · exact .inl h1
      · rw [Nat.testBit_two_pow] at h1; exact .inr ⟨n, List.mem_cons_self, .inl (by simpa using h1)⟩
      · exact .inr ⟨n, List.mem_cons_self, .inr h1⟩
    · exact .inr ⟨m, List.mem_cons_of_mem _ hm, h1⟩
theorem bits_ok : ∀ (V : List (List Nat × List Nat)) (B : List Nat), B.length + V.length = (tbl ops).length → (∀ d r, (tbl ops)[d]? = some r → B.length ≤ d → V[d - B.length]? = some r) → BitsOk ops B → BitsOk ops (ancs V B) ∧ (ancs V B).length = (tbl ops).length
  | [], B, hl, _, h => ⟨h, by simpa [ancs] using hl⟩
  | r :: V, B, hl, hV, h => by
    unfold ancs
    refine bits_ok V _ (by simp at hl ⊢; omega) (fun d r' h1 h2 => ?_) ?_
    · simp only [List.length_append, List.length_cons, List.length_nil] at h2 ⊢
      have := hV d r' h1 (by omega)
      rw [show d - B.length = (d - (B.length + (0 + 1))) + 1 by omega] at this
      simpa using this
    · intro d hd i hb listed hc o ho hn
      simp only [List.length_append, List.length_cons, List.length_nil] at hd
      by_cases hlt : d < B.length
      · rw [List.getD_eq_getElem?_getD, List.getElem?_append_left hlt, ← List.getD_eq_getElem?_getD] at hb
        exact h d hlt i hb listed hc o ho hn
      · obtain rfl : d = B.length := by omega
        rw [List.getD_eq_getElem?_getD, List.getElem?_append_right (Nat.le_refl _)] at hb
        simp only [Nat.sub_self, List.getElem?_cons_zero, Option.getD_some] at hb
        have hr := hV B.length _ (tbl_some ho) (Nat.le_refl _)
        simp only [Nat.sub_self, List.getElem?_cons_zero, Option.some.injEq] at hr
        subst hr
        rcases foldl_or B i _ 0 hb with h1 | ⟨n, hm, h1⟩
        · simp at h1
        · rcases h1 with rfl | h1
          · exact hn _ hm
          · have hnl : n < B.length := by
              rcases Nat.lt_or_ge n B.length with h2 | h2
              · exact h2
              · rw [List.getD_eq_getElem?_getD, List.getElem?_eq_none h2] at h1; simp at h1
            have hlisted := hn n hm
            cases hon : ops[n]? with
            | none =>
              have h2 : ops.size ≤ n := Array.getElem?_eq_none_iff.1 hon
              rw [tbl_length] at hl
              simp at hl
              omega
            | some on => exact h n hnl i h1 listed hc on hon (fun m hm' => hc n on hon hlisted m hm')
theorem waits {listed : Array Bool} {d i : Nat} (hc : Clo ops listed) (hb : Nat.blt d (tbl ops).length = true) (h : ((ancs (tbl ops) []).getD d 0).testBit i = true) (hun : listed.getD i true = false) : d ∉ Region.ready .any ops listed := by
  intro hd
  obtain ⟨_, o, ho, hall⟩ := mem_ready.1 hd
  have hbo := bits_ok (ops := ops) (tbl ops) [] (by simp) (fun d r h _ => by simpa using h) (fun d hd => by simp at hd)
  have hlt : d < (tbl ops).length := by simpa [Nat.blt_eq] using hb
  have := hbo.1 d (by rw [hbo.2]; exact hlt) i h listed hc o ho (fun n hn => by
    obtain ⟨e, he, hb, hon⟩ := mem_needs.1 hn
    rw [← hon]; exact hall e he hb)
  rcases Nat.lt_or_ge i listed.size with h' | h'
  · simp [h'] at hun this
    rw [hun] at this
    cases this
  · simp [Array.getElem?_eq_none h'] at hun
end

/-! ### The walk in one order -/
section
variable {P : Program} {ops : Array Oper} {Q : Exit → Act → World → Prop} {Sx : World → Prop} {ds : List Nat}
def wpLin (P : Program) (ops : Array Oper) (Q : Exit → Act → World → Prop) (Sx : World → Prop) : Od → Act → World → Prop
  | .nil, a, w => Q .normal a w
  | .cons (.p, i) r, a, w => ∃ o v, ops[i]? = some o ∧ YQ P ops (fun _ => True) o v a ∧ ∀ w', Kp NoB w w' → wpLin P ops Q Sx r (a.put o.dst v) w'
  | .cons (.t, i) r, a, w => ∃ o v, ops[i]? = some o ∧ YQ P ops Sx o v a ∧ Sx w ∧ ∀ w', Kp NoB w w' → wpLin P ops Q Sx r (a.put o.dst v) w'
  | .cons (.o, i) r, a, w => wpOp P ops Q i (fun a1 w1 => (Sx w → Sx w1) ∧ ∀ w2, Kp NoB w1 w2 → wpLin P ops Q Sx r a1 w2) a w
  | .cons (.z, i) r, a, w => wpOp P ops Q i (fun a1 w1 => ∀ w2, Kp NoB w1 w2 → wpLin P ops Q Sx r a1 w2) a w
  | .alt x y, a, w => wpLin P ops Q Sx x a w ∧ wpLin P ops Q Sx y a w

theorem lin_sound (hsel : Region.noSelect ops = true) (hQ : ∀ c a w, ¬ Q (.panic c) a w) (hS : ∀ w w', Kp NoB w w' → Sx w → Sx w') :
    ∀ (ord : Od) (n : Nat) (l : List Bool) (a : Act) (w : World), (linOk (tbl ops) (ancs (tbl ops) []) ds ord n l false = true → (∀ w', Kp NoB w w' → wpLin P ops Q Sx ord a w') → wpAnyR P ops Q Sx ds n l.toArray a w) ∧
      (linOk (tbl ops) (ancs (tbl ops) []) ds ord n l true = true → (∀ w', Kp NoB w w' → wpLin P ops Q Sx ord a w') → 0 < n ∧ ∀ i ∈ ord.heads, ∀ w', Kp NoB w w' → wpOp P ops Q i (fun a1 w1 => (i ∉ ds → Sx w' → Sx w1) ∧ wpAnyR P ops Q Sx ds (n - 1) (l.toArray.setIfInBounds i true) a1 w1) a w')
  | .nil, n, l, a, w => by
    refine ⟨fun hok h => ?_, fun hok _ => by simp [linOk] at hok⟩
    simp only [linOk, Bool.and_eq_true] at hok
    obtain rfl : n = 0 := beq_of hok.1.1
    intro w' hk
    refine ⟨?_, h w' hk⟩
    rw [ready_eq]
    simpa using hok.2
  | .alt x y, n, l, a, w => by
    have ix := lin_sound hsel hQ hS x n l a w
    have iy := lin_sound hsel hQ hS y n l a w
    have hcore : linOk (tbl ops) (ancs (tbl ops) []) ds x n l true = true → linOk (tbl ops) (ancs (tbl ops) []) ds y n l true = true → (∀ w', Kp NoB w w' → wpLin P ops Q Sx (.alt x y) a w') → 0 < n ∧ ∀ i ∈ x.heads ++ y.heads, ∀ w', Kp NoB w w' → wpOp P ops Q i (fun a1 w1 => (i ∉ ds → Sx w' → Sx w1) ∧ wpAnyR P ops Q Sx ds (n - 1) (l.toArray.setIfInBounds i true) a1 w1) a w' := fun h1 h2 h => by
      obtain ⟨g1, g2⟩ := ix.2 h1 (fun w' k => (h w' k).1)
      obtain ⟨_, g3⟩ := iy.2 h2 (fun w' k => (h w' k).2)
      exact ⟨g1, fun i hi => (List.mem_append.1 hi).elim (g2 i) (g3 i)⟩
    refine ⟨fun hok h => ?_, fun hok h => ?_⟩
    · simp only [linOk, Bool.and_eq_true, Bool.false_or] at hok
      obtain ⟨g1, g2⟩ := hcore hok.1.2 hok.2 h
      obtain ⟨m, rfl⟩ : ∃ m, n = m + 1 := ⟨n - 1, by omega⟩
      intro w' hk
      have hall : ∀ i ∈ Region.ready .any ops l.toArray, i ∈ x.heads ++ y.heads := fun i hi => by
        rw [ready_eq] at hi
        have := List.all_eq_true.1 hok.1.1.2 i hi
        simpa using this
      refine ⟨fun h0 => ?_, fun j hj => g2 j (hall j hj) w' hk⟩
      rw [ready_eq] at h0
      have := hok.1.1.1
      rw [h0] at this
      simp at this
    · simp only [linOk, Bool.and_eq_true] at hok
      exact hcore hok.1.2 hok.2 h
  | .cons (k, i) r, n, l, a, w => by
    have eset : l.toArray.setIfInBounds i true = (l.set i true).toArray := by simp
    have ih := fun a w => (lin_sound hsel hQ hS r (n - 1) (l.set i true) a w).1
    refine ⟨fun hok h => ?_, fun hok h => ?_⟩
    · simp only [linOk, Bool.and_eq_true] at hok
      obtain ⟨⟨h0, h1⟩, h2⟩ := hok
      obtain ⟨m, rfl⟩ : ∃ m, n = m + 1 := ⟨n - 1, by have : 0 < n := by simpa [Nat.blt_eq] using h0
                                                     omega⟩
      simp only [Nat.add_sub_cancel] at h2 ih
      cases k with
      | p =>
        simp only [Bool.and_eq_true] at h1
        obtain ⟨o, v, ho, hy, hc⟩ := h w (Kp.refl _ _)
        have ih := ih (a.put o.dst v) w h2 hc
        rw [← eset] at ih
        exact wpAnyR_first (C := fun _ => True) ho (Region.noSelect_spec hsel) (fun c a w hq => absurd hq (hQ c _ w)) (fun _ _ _ h => h) (fun _ => True) (fun _ _ h _ _ => h) (fun _ _ _ _ _ _ _ _ _ h => h) _ _ _ _ (fre_spec ho h1.2.1) trivial (rdyAt_mem h1.2.2) hy trivial ih (fun w' _ h k => hS _ _ k h) hS
      | t =>
        simp only [Bool.and_eq_true] at h1
        obtain ⟨_, ⟨⟨f1, f2⟩, f3⟩, f4⟩ := h1
        obtain ⟨o, v, ho, hy, hSw, hc⟩ := h w (Kp.refl _ _)
        have ih := ih (a.put o.dst v) w h2 hc
        rw [← eset] at ih
        refine wpAnyR_first (C := Sx) ho (Region.noSelect_spec hsel) (fun c a w hq => absurd hq (hQ c _ w)) hS (fun listed => Clo ops listed ∧ ∀ d ∈ ds, listed.getD d true = false → Nat.blt d (tbl ops).length = true ∧ ((ancs (tbl ops) []).getD d 0).testBit i = true) ?_ ?_ _ _ _ _ (fre_spec ho f1) ⟨clo_spec f3, fun d hd hun => ?_⟩ (rdyAt_mem f2) hy hSw ih (fun w' _ h k => hS _ _ k h) hS
        · rintro listed j ⟨hcl, hd⟩ hj hji
          refine ⟨hcl.set hj, fun d hm hun => hd d hm ?_⟩
          by_cases hjd : j = d
          · subst hjd; exact (mem_ready.1 hj).1
          · rw [getD_set_ne true hjd] at hun; exact hun
        · rintro listed j ⟨hcl, hd⟩ hj hji hiun w w1 hk hw
          refine hk (fun hm => ?_) hw
          obtain ⟨g1, g2⟩ := hd j hm (mem_ready.1 hj).1
          exact waits hcl g1 g2 hiun hj
        · have := List.all_eq_true.1 f4 d hd
          rw [gdA] at hun
          rw [hun] at this
          simpa using this
      | o =>
        simp only [Bool.and_eq_true, Bool.false_or, beq_iff_eq] at h1
        have hr : Region.ready .any ops l.toArray = [i] := by rw [ready_eq]; exact h1.1
        intro w' hk
        refine ⟨fun h0 => (by rw [hr] at h0; cases h0), fun j hj => ?_⟩
        rw [hr] at hj
        obtain rfl : j = i := by simpa using hj
        refine wpOp_mono (fun a1 w1 ⟨g1, g2⟩ => ⟨fun _ => g1, ?_⟩) (h w' hk)
        rw [eset]
        exact ih a1 w1 h2 g2
      | z =>
        simp only [Bool.and_eq_true, Bool.false_or, beq_iff_eq] at h1
        have hr : Region.ready .any ops l.toArray = [i] := by rw [ready_eq]; exact h1.1
        intro w' hk
        refine ⟨fun h0 => (by rw [hr] at h0; cases h0), fun j hj => ?_⟩
        rw [hr] at hj
        obtain rfl : j = i := by simpa using hj
        refine wpOp_mono (fun a1 w1 g2 => ⟨fun hn => absurd (by simpa using h1.2) hn, ?_⟩) (h w' hk)
        rw [eset]
        exact ih a1 w1 h2 g2
    · simp only [linOk, Bool.and_eq_true] at hok
      obtain ⟨⟨h0, h1⟩, h2⟩ := hok
      have hn : 0 < n := by simpa [Nat.blt_eq] using h0
      refine ⟨hn, fun j hj w' hk => ?_⟩
      obtain rfl : j = i := by simpa [Od.heads] using hj
      cases k with
      | p => simp at h1
      | t => simp at h1
      | o =>
        refine wpOp_mono (fun a1 w1 ⟨g1, g2⟩ => ⟨fun _ => g1, ?_⟩) (h w' hk)
        rw [eset]
        exact ih a1 w1 h2 g2
      | z =>
        simp only [Bool.and_eq_true] at h1
        refine wpOp_mono (fun a1 w1 g2 => ⟨fun hn => absurd (by simpa using h1.2) hn, ?_⟩) (h w' hk)
        rw [eset]
        exact ih a1 w1 h2 g2

def noPanic (Q : Exit → Act → World → Prop) : Exit → Act → World → Prop
  | .panic _, _, _ => False
  | e, a, w => Q e a w
end

/-- The judgement on what is left of such a region. -/
def TR (P : Program) (ops : Array Oper) (Q : Exit → Act → World → Prop) (LS : List Res) (ord : Od) (n : Nat) (l : FrL) (S : Nat → Prop) (w0 : World) (L : List Res) : Prop :=
  ∀ a w, Has n l a → Hp S w0 w L → wpLin P ops (noPanic Q) (fun w => Hp S w0 w LS) ord a w

section
variable {P : Program} {Q : Exit → Act → World → Prop} {n : Nat} {l l' : FrL} {S : Nat → Prop} {w0 : World} {L L' LS : List Res} {ops : Array Oper} {ord : Od} {d i : Nat} {op : Op} {ty : TypeId} {pos : String} {af : Array Edge} {dst : Option Tmp} {gd : Option (Nat × Bool)} {x y c : Operand} {v : Value}

theorem TC.draw {id : Nat} {os : List Oper} (ds : List Nat) (ord : Od) (hm : P.follows .mixedOrders = true) (hok : linChk os.toArray ds ord = true) (h : TR P os.toArray Q L ord n l S w0 L) : TC P (.region id os.toArray true) Q n l S w0 L := fun a w ha hp => by
  simp only [linChk, Bool.and_eq_true] at hok
  obtain ⟨h1, h3⟩ := hok
  have hp' : Hp S w0 { w with drawn := w.drawn + 1 } L := hp.quiet (Kp.drawn w _)
  have := lin_sound (P := P) (Q := noPanic Q) (Sx := fun w => Hp S w0 w L) (ds := ds) h1 (fun c a w hq => hq) (fun w w' k h => h.quiet k) ord os.toArray.size (List.replicate os.toArray.size false) a { w with drawn := w.drawn + 1 }
  have this := this.1 h3 (fun w' k => h a w' ha (hp'.quiet k))
  have e1 : (List.replicate os.toArray.size false).toArray = Array.replicate os.toArray.size false := by simp
  rw [e1] at this
  refine Code.wp_mono (Q := noPanic Q) (fun e a w hq => ?_) (wp_region_any hm (wpAny_of_R _ _ _ _ this))
  cases e <;> first | exact hq | exact hq.elim
/-- With less held as the region's condition. -/
theorem TC.drawS {id : Nat} {os : List Oper} (LS : List Res) (ds : List Nat) (ord : Od) (hm : P.follows .mixedOrders = true) (hok : linChk os.toArray ds ord = true) (h : TR P os.toArray Q LS ord n l S w0 L) : TC P (.region id os.toArray true) Q n l S w0 L := fun a w ha hp => by
  simp only [linChk, Bool.and_eq_true] at hok
  obtain ⟨h1, h3⟩ := hok
  have hp' : Hp S w0 { w with drawn := w.drawn + 1 } L := hp.quiet (Kp.drawn w _)
  have := lin_sound (P := P) (Q := noPanic Q) (Sx := fun w => Hp S w0 w LS) (ds := ds) h1 (fun c a w hq => hq) (fun w w' k h => h.quiet k) ord os.toArray.size (List.replicate os.toArray.size false) a { w with drawn := w.drawn + 1 }
  have this := this.1 h3 (fun w' k => h a w' ha (hp'.quiet k))
  have e1 : (List.replicate os.toArray.size false).toArray = Array.replicate os.toArray.size false := by simp
  rw [e1] at this
  refine Code.wp_mono (Q := noPanic Q) (fun e a w hq => ?_) (wp_region_any hm (wpAny_of_R _ _ _ _ this))
  cases e <;> first | exact hq | exact hq.elim

theorem TR.nil (h : TQ Q .normal n l S w0 L) : TR P ops Q LS .nil n l S w0 L := fun a w ha hp => h a w ha hp
theorem TR.alt {x y : Od} (hx : TR P ops Q LS x n l S w0 L) (hy : TR P ops Q LS y n l S w0 L) : TR P ops Q LS (.alt x y) n l S w0 L := fun a w ha hp => ⟨hx a w ha hp, hy a w ha hp⟩
theorem TR.hp (hw : ∀ w, Hp S w0 w L → Hp S w0 w L') (h : TR P ops Q LS ord n l S w0 L') : TR P ops Q LS ord n l S w0 L := fun a w ha hp => h a w ha (hw w hp)

/-- What a guard has come to. -/
def Wt (ops : Array Oper) (l : FrL) (gd : Option (Nat × Bool)) (b : Bool) : Prop := ∀ (n : Nat) (a : Act) (o : Oper), Has n l a → o.guard = gd → Region.wanted o (yielded ops a.tmps) = b
theorem wt0 : Wt ops l none true := fun n a o ha hg => by simp [Region.wanted, hg]
theorem wtT {j dj : Nat} {b : Bool} (hj : (ops[j]?).bind (·.dst) = some dj) (hv : get l dj = some (.bool b)) : Wt ops l (some (j, b)) true := fun n a o ha hg => by
  have hy : yielded ops a.tmps j = some b := by simp [yielded, hj, ha.slot dj _ hv]
  simp [Region.wanted, hg, hy]
theorem wtN {j dj : Nat} {b : Bool} {u : Value} (hj : (ops[j]?).bind (·.dst) = some dj) (hv : get l dj = some u) (hne : u ≠ .bool b) : Wt ops l (some (j, b)) false := fun n a o ha hg => by
  have hy : yielded ops a.tmps j ≠ some b := by
    simp only [yielded, hj, Option.bind_some, ha.slot dj _ hv]
    cases u <;> simp_all
  simpa [Region.wanted, hg] using hy
theorem wtF {j dj : Nat} {b b' : Bool} (hj : (ops[j]?).bind (·.dst) = some dj) (hv : get l dj = some (.bool b')) (hne : (b' == b) = false) : Wt ops l (some (j, b)) false := wtN hj hv (by intro e; injection e with e; subst e; simp at hne)
theorem wtFt {j dj : Nat} (hj : (ops[j]?).bind (·.dst) = some dj) (hv : get l dj = some (.bool true)) : Wt ops l (some (j, false)) false := wtF hj hv rfl
theorem wtFf {j dj : Nat} (hj : (ops[j]?).bind (·.dst) = some dj) (hv : get l dj = some (.bool false)) : Wt ops l (some (j, true)) false := wtF hj hv rfl
theorem wtU {j dj : Nat} {b : Bool} (hj : (ops[j]?).bind (·.dst) = some dj) (hv : get l dj = some undef) : Wt ops l (some (j, b)) false := wtN hj hv (by intro e; cases e)

theorem TR.p (hi : ops[i]? = some ⟨some d, op, ty, pos, af, gd⟩) (hlt : Nat.blt d n = true) (hw : Wt ops l gd true) (ho : OpP P n l ⟨some d, op, ty, pos, af, gd⟩ v) (h : TR P ops Q LS ord n ((d, v) :: l) S w0 L) : TR P ops Q LS (.cons (.p, i) ord) n l S w0 L := fun a w ha hp =>
  ⟨_, v, hi, .inl ⟨hw n a _ ha rfl, fun w _ => .inl (ho a w ha)⟩, fun w' k => h _ w' (ha.put hlt v) (hp.quiet k)⟩
/-- It is not carried out. -/
theorem TR.off (hi : ops[i]? = some ⟨some d, op, ty, pos, af, gd⟩) (hlt : Nat.blt d n = true) (hw : Wt ops l gd false) (h : TR P ops Q LS ord n ((d, undef) :: l) S w0 L) : TR P ops Q LS (.cons (.p, i) ord) n l S w0 L := fun a w ha hp =>
  ⟨_, undef, hi, .inr ⟨hw n a _ ha rfl, rfl⟩, fun w' k => h _ w' (ha.put hlt undef) (hp.quiet k)⟩
theorem TR.offT (hi : ops[i]? = some ⟨some d, op, ty, pos, af, gd⟩) (hlt : Nat.blt d n = true) (hw : Wt ops l gd false) (hs : ∀ w, Hp S w0 w L → Hp S w0 w LS) (h : TR P ops Q LS ord n ((d, undef) :: l) S w0 L) : TR P ops Q LS (.cons (.t, i) ord) n l S w0 L := fun a w ha hp =>
  ⟨_, undef, hi, .inr ⟨hw n a _ ha rfl, rfl⟩, hs w hp, fun w' k => h _ w' (ha.put hlt undef) (hp.quiet k)⟩
theorem TR.offO (hi : ops[i]? = some ⟨some d, op, ty, pos, af, gd⟩) (hlt : Nat.blt d n = true) (hw : Wt ops l gd false) (hs : ∀ w, Hp S w0 w L → Hp S w0 w LS) (h : TR P ops Q LS ord n ((d, undef) :: l) S w0 L) : TR P ops Q LS (.cons (.o, i) ord) n l S w0 L := fun a w ha hp => by
  unfold wpLin wpOp
  simp only [hi]
  rw [if_neg (by rw [hw n a _ ha rfl]; simp)]
  exact ⟨fun _ => hs w hp, fun w2 k => h _ w2 (ha.put hlt undef) (hp.quiet k)⟩
theorem TR.t (hi : ops[i]? = some ⟨some d, op, ty, pos, af, gd⟩) (hlt : Nat.blt d n = true) (hw : Wt ops l gd true) (ho : OpV P n l S w0 LS ⟨some d, op, ty, pos, af, gd⟩ v) (hs : ∀ w, Hp S w0 w L → Hp S w0 w LS) (h : TR P ops Q LS ord n ((d, v) :: l) S w0 L) : TR P ops Q LS (.cons (.t, i) ord) n l S w0 L := fun a w ha hp =>
  ⟨_, v, hi, .inl ⟨hw n a _ ha rfl, fun w hS => .inl (ho a w ha hS)⟩, hs w hp, fun w' k => h _ w' (ha.put hlt v) (hp.quiet k)⟩
theorem TR.tcall {f : FuncId} {as : Array Operand} {ts : Array TypeId} {vs : List Value} (hi : ops[i]? = some ⟨some d, .call { callee := .value (.func f), args := as, argTypes := ts }, ty, pos, af, gd⟩) (hlt : Nat.blt d n = true) (hw : Wt ops l gd true) (he : Enters P f) (has : evOs l as.toList = some vs)
    (hc : ∀ w, Hp S w0 w LS → Calls P f vs.toArray w fun e w' => e = .returned v ∧ Kp NoB w w') (hs : ∀ w, Hp S w0 w L → Hp S w0 w LS) (h : TR P ops Q LS ord n ((d, v) :: l) S w0 L) : TR P ops Q LS (.cons (.t, i) ord) n l S w0 L := fun a w ha hp =>
  ⟨_, v, hi, .inl ⟨hw n a _ ha rfl, fun w hS => .inr ⟨f, _, run_call he ha has, hc w hS⟩⟩, hs w hp, fun w' k => h _ w' (ha.put hlt v) (hp.quiet k)⟩
theorem TR.o {R : Value → List Res → Prop} (hi : ops[i]? = some ⟨some d, op, ty, pos, af, gd⟩) (hlt : Nat.blt d n = true) (hw : Wt ops l gd true) (ho : OpX P n l S w0 L ⟨some d, op, ty, pos, af, gd⟩ R) (hs : ∀ v L', R v L' → ∀ w, Hp S w0 w L' → Hp S w0 w LS) (h : ∀ v L', R v L' → TR P ops Q LS ord n ((d, v) :: l) S w0 L') : TR P ops Q LS (.cons (.o, i) ord) n l S w0 L := fun a w ha hp => by
  unfold wpLin wpOp
  simp only [hi]
  rw [if_pos (hw n a _ ha rfl)]
  exact .inl (ho a w ha hp _ _ fun v w' L' hR hp' => And.intro (fun _ => hs v L' hR w' hp') (fun w2 k => h v L' hR _ w2 (ha.put hlt v) (hp'.quiet k)))
theorem TR.o0 {R : Value → List Res → Prop} (hi : ops[i]? = some ⟨none, op, ty, pos, af, gd⟩) (hw : Wt ops l gd true) (ho : OpX P n l S w0 L ⟨none, op, ty, pos, af, gd⟩ R) (hs : ∀ v L', R v L' → ∀ w, Hp S w0 w L' → Hp S w0 w LS) (h : ∀ v L', R v L' → TR P ops Q LS ord n l S w0 L') : TR P ops Q LS (.cons (.o, i) ord) n l S w0 L := fun a w ha hp => by
  unfold wpLin wpOp
  simp only [hi]
  rw [if_pos (hw n a _ ha rfl)]
  exact .inl (ho a w ha hp _ _ fun v w' L' hR hp' => ⟨fun _ => hs v L' hR w' hp', fun w2 k => h v L' hR _ w2 ha (hp'.quiet k)⟩)
theorem TR.z {R : Value → List Res → Prop} (hi : ops[i]? = some ⟨some d, op, ty, pos, af, gd⟩) (hlt : Nat.blt d n = true) (hw : Wt ops l gd true) (ho : OpX P n l S w0 L ⟨some d, op, ty, pos, af, gd⟩ R) (h : ∀ v L', R v L' → TR P ops Q LS ord n ((d, v) :: l) S w0 L') : TR P ops Q LS (.cons (.z, i) ord) n l S w0 L := fun a w ha hp => by
  unfold wpLin wpOp
  simp only [hi]
  rw [if_pos (hw n a _ ha rfl)]
  exact .inl (ho a w ha hp _ _ fun v w' L' hR hp' w2 k => h v L' hR _ w2 (ha.put hlt v) (hp'.quiet k))
theorem TR.z0 {R : Value → List Res → Prop} (hi : ops[i]? = some ⟨none, op, ty, pos, af, gd⟩) (hw : Wt ops l gd true) (ho : OpX P n l S w0 L ⟨none, op, ty, pos, af, gd⟩ R) (h : ∀ v L', R v L' → TR P ops Q LS ord n l S w0 L') : TR P ops Q LS (.cons (.z, i) ord) n l S w0 L := fun a w ha hp => by
  unfold wpLin wpOp
  simp only [hi]
  rw [if_pos (hw n a _ ha rfl)]
  exact .inl (ho a w ha hp _ _ fun v w' L' hR hp' w2 k => h v L' hR _ w2 ha (hp'.quiet k))
end
end Go.SK
