/- The heap as a list of what is held: a small separation logic over the model's worlds, and frames by the slots that are known. -/
import Derived.WalkKit
import Derived.WalkLawsBesides
import Derived.WalkSpells
import Derived.Maps.AppendAt
import Derived.OrdersHeld
import Derived.Deep.Quiet
import Derived.RegionTactic
import Derived.Laws.BitsLemmas
set_option linter.unusedVariables false
set_option linter.unusedSimpArgs false
namespace Go.SK
open Go Go.RowKit

/-! ### 1. What a call keeps -/
structure Kp (S : Nat → Prop) (w w' : World) : Prop where
  os : w'.os = w.os
  tape : w'.tape = w.tape
  output : w'.output = w.output
  size : w.heap.size ≤ w'.heap.size
  block : ∀ k, k < w.heap.size → ¬ S k → w'.heap[k]? = w.heap[k]?
def NoB : Nat → Prop := fun _ => False
theorem Kp.refl (S : Nat → Prop) (w : World) : Kp S w w := ⟨rfl, rfl, rfl, Nat.le_refl _, fun _ _ _ => rfl⟩
theorem Kp.of_below {w w' : World} (h : Below w.heap.size w w') : Kp NoB w w' := ⟨h.os, h.tape, h.output, h.size, fun k hk _ => h.block k hk⟩
theorem Kp.below {w w' : World} (h : Kp NoB w w') : Below w.heap.size w w' := ⟨h.os, h.tape, h.output, h.size, fun k hk => h.block k hk (fun x => x)⟩
theorem Kp.mono {S S' : Nat → Prop} {w w' : World} (h : Kp S w w') (hs : ∀ g, S g → S' g) : Kp S' w w' := ⟨h.os, h.tape, h.output, h.size, fun k hk hn => h.block k hk (fun x => hn (hs k x))⟩
theorem Kp.then {S S' : Nat → Prop} {w w1 w2 : World} (h : Kp S w w1) (k : Kp S' w1 w2) (hs : ∀ g, S' g → S g ∨ w.heap.size ≤ g) : Kp S w w2 :=
  ⟨k.os.trans h.os, k.tape.trans h.tape, k.output.trans h.output, Nat.le_trans h.size k.size, fun i hi hn => (k.block i (Nat.lt_of_lt_of_le hi h.size) (fun x => by
    rcases hs i x with h1 | h1
    · exact hn h1
    · omega)).trans (h.block i hi hn)⟩
theorem Kp.trans {S : Nat → Prop} {w w1 w2 : World} (h : Kp S w w1) (k : Kp S w1 w2) : Kp S w w2 := h.then k (fun _ x => .inl x)
theorem Kp.quiet {S : Nat → Prop} {w w1 w2 : World} (h : Kp S w w1) (k : Kp NoB w1 w2) : Kp S w w2 := h.then k (fun _ x => x.elim)
theorem Kp.drew (w : World) : Kp NoB w w.drew := ⟨rfl, rfl, rfl, Nat.le_refl _, fun _ _ _ => rfl⟩
theorem Kp.drawn (w : World) (n : Nat) : Kp NoB w { w with drawn := n } := ⟨rfl, rfl, rfl, Nat.le_refl _, fun _ _ _ => rfl⟩
theorem Kp.alloc (w : World) (o : Obj) : Kp NoB w (w.alloc o) := ⟨rfl, rfl, rfl, by simp, fun k hk _ => Below.heap_alloc w o k hk⟩
theorem Kp.iter (w : World) (s : ByteArray) (p : Nat) : Kp NoB w (w.iter s p) := Kp.alloc w _
theorem Kp.setCell (w : World) (p : Addr) (u : Value) : Kp (· = p.block) w (w.setCell p u) := ⟨rfl, rfl, rfl, by simp [World.setCell], fun k hk hn => Below.heap_setCell w p u k hn⟩
theorem Kp.grown {w w' : World} {row : Option Nat} (h : w.grownBy w' row) : Kp (fun g => row = some g) w w' := ⟨h.os, h.tape, h.output, h.size, fun k hk hn => h.block k hk (fun e => hn e.symm)⟩

/-! ### 2. What is held -/
/-- The slice v, of n elements, sz cells each, reads as the cells xs. -/
def RdRow (w : World) (v : Value) (sz n : Nat) (xs : List Value) : Prop :=
  xs.length = n * sz ∧ ∃ A c, v = .slice A n c ∧ n ≤ c ∧ c ≤ maxLen ∧ (0 < n → ∃ ad, A = some ad) ∧ ∀ ad, A = some ad → ∀ j u, xs[j]? = some u → w.cell? (ad.add j) = some u

/-- v, of n elements of type e, sz cells each, is a window of a block that nobody else holds; it reads xs. -/
def WinRow (w : World) (v : Value) (e : TypeId) (sz n : Nat) (xs : List Value) : Prop :=
  xs.length = n * sz ∧ ∃ A c, v = .slice A n c ∧ n ≤ c ∧ c ≤ maxLen ∧ ((A = none ∧ n = 0) ∨ ∃ g off cur, A = some ⟨g, off, none⟩ ∧ w.heap[g]? = some (.cells cur e (0, 0)) ∧ off + n * sz ≤ cur.size ∧ (cur.toList.drop off).take (n * sz) = xs)

inductive Res where
  | blk (g : Nat) (o : Obj)
  | row (v : Value) (e : TypeId) (sz n : Nat) (xs : List Value)
  | rd (v : Value) (sz n : Nat) (xs : List Value)
  | win (v : Value) (e : TypeId) (sz n : Nat) (xs : List Value)
  | ro (K : Nat → Prop) (F : World → Prop) (hF : ∀ w w' : World, (∀ g, K g → w'.heap[g]? = w.heap[g]?) → F w → F w') (hK : ∀ w : World, F w → ∀ g, K g → g < w.heap.size)

def Res.keys : Res → Nat → Prop
  | .blk g _ => fun k => k = g
  | .row v _ _ _ _ => fun k => v.ownBlock = some k
  | .rd v _ _ xs => fun k => v.ownBlock = some k ∧ xs ≠ []
  | .win v _ _ _ _ => fun k => v.ownBlock = some k
  | .ro K _ _ _ => K
def Res.rw : Res → Prop
  | .blk .. => True
  | .row .. => True
  | .rd .. => False
  | .win .. => True
  | .ro .. => False
def Res.holds : Res → World → Prop
  | .blk g o, w => w.heap[g]? = some o
  | .row v e sz n xs, w => w.ownsRow 0 e sz v n xs
  | .rd v sz n xs, w => RdRow w v sz n xs
  | .win v e sz n xs, w => WinRow w v e sz n xs
  | .ro _ F _ _, w => F w

theorem cell_add_block {w w' : World} (ad : Addr) (j : Nat) (h : w'.heap[ad.block]? = w.heap[ad.block]?) : w'.cell? (ad.add j) = w.cell? (ad.add j) := by
  have hb : (ad.add j).block = ad.block := by unfold Addr.add; split <;> rfl
  exact World.cell?_of_block (by rw [hb]; exact h)

theorem own_move {w w1 : World} {base : Nat} {e : TypeId} {size : Nat} {v : Value} {n : Nat} {xs : List Value} (h : w.ownsRow base e size v n xs) (hm : ∀ k, v.ownBlock = some k → w1.heap[k]? = w.heap[k]?) : w1.ownsRow base e size v n xs := by
  obtain ⟨h1, h2⟩ := h
  refine ⟨h1, ?_⟩
  rcases h2 with h2 | ⟨g, cap, cur, rfl, hg, hh, r⟩
  · exact .inl h2
  · exact .inr ⟨g, cap, cur, rfl, hg, (hm g (by simp [Value.ownBlock])).trans hh, r⟩
theorem own_base0 {w : World} {base : Nat} {e : TypeId} {size : Nat} {v : Value} {n : Nat} {xs : List Value} (h : w.ownsRow base e size v n xs) : w.ownsRow 0 e size v n xs := by
  obtain ⟨h1, h2⟩ := h
  refine ⟨h1, ?_⟩
  rcases h2 with h2 | ⟨g, cap, cur, rfl, hg, r⟩
  · exact .inl h2
  · exact .inr ⟨g, cap, cur, rfl, Nat.zero_le _, r⟩

theorem Res.stable : ∀ (r : Res) (w w' : World), (∀ g, r.keys g → w'.heap[g]? = w.heap[g]?) → r.holds w → r.holds w'
  | .blk g o, w, w', h, hh => (h g rfl).trans hh
  | .row v e sz n xs, w, w', h, hh => own_move hh h
  | .rd v sz n xs, w, w', h, ⟨hl, A, c, hv, h1, h2, h3, h4⟩ => ⟨hl, A, c, hv, h1, h2, h3, fun ad hA j u hu => by
      subst hA hv
      rw [cell_add_block ad j (h ad.block ⟨rfl, by rintro rfl; simp at hu⟩)]
      exact h4 ad rfl j u hu⟩
  | .win v e sz n xs, w, w', h, ⟨hl, A, c, hv, h1, h2, h3⟩ => ⟨hl, A, c, hv, h1, h2, by
      rcases h3 with h3 | ⟨g, off, cur, hA, hg, h4⟩
      · exact .inl h3
      · exact .inr ⟨g, off, cur, hA, (h g (by subst hA hv; rfl)).trans hg, h4⟩⟩
  | .ro K F hF hK, w, w', h, hh => hF w w' h hh

theorem Res.bound : ∀ (r : Res) (w : World), r.holds w → ∀ g, r.keys g → g < w.heap.size
  | .blk g o, w, hh, k, hk => by
      cases hk
      rcases Nat.lt_or_ge g w.heap.size with hlt | hge
      · exact hlt
      · simp only [Res.holds] at hh; rw [Array.getElem?_eq_none hge] at hh; cases hh
  | .row v e sz n xs, w, hh, k, hk => (World.ownsRow.lt hh k hk).2
  | .rd v sz n xs, w, ⟨hl, A, c, hv, h1, h2, h3, h4⟩, k, ⟨hk, hx⟩ => by
      subst hv
      obtain ⟨u, xs, rfl⟩ := List.exists_cons_of_ne_nil hx
      cases A with
      | none => simp [Value.ownBlock] at hk
      | some ad =>
        have hc := h4 ad rfl 0 u rfl
        have := World.block_lt_of_cell? w _ hc
        have hb : (ad.add 0).block = ad.block := by unfold Addr.add; split <;> rfl
        rw [hb] at this
        simp only [Value.ownBlock, Option.some.injEq] at hk
        omega
  | .win v e sz n xs, w, ⟨hl, A, c, hv, h1, h2, h3⟩, k, hk => by
      subst hv
      rcases h3 with ⟨rfl, _⟩ | ⟨g, off, cur, rfl, hg, h4⟩
      · simp [Res.keys, Value.ownBlock] at hk
      · simp only [Res.keys, Value.ownBlock, Option.some.injEq] at hk
        subst hk
        rcases Nat.lt_or_ge g w.heap.size with hlt | hge
        · exact hlt
        · rw [Array.getElem?_eq_none hge] at hg; cases hg
  | .ro K F hF hK, w, hh, k, hk => hK w hh k hk

def Res.Ok (r s : Res) : Prop := (r.rw ∨ s.rw) → ∀ g, r.keys g → s.keys g → False
theorem Res.Ok.symm {r s : Res} (h : r.Ok s) : s.Ok r := fun hw g h1 h2 => h hw.symm g h2 h1

structure Hp (S : Nat → Prop) (w0 w : World) (L : List Res) : Prop where
  kp : Kp S w0 w
  at_ : ∀ r ∈ L, r.holds w
  own : ∀ r ∈ L, r.rw → ∀ g, r.keys g → S g ∨ w0.heap.size ≤ g
  nd : L.Pairwise Res.Ok

section
variable {S : Nat → Prop} {w0 w w' : World} {L : List Res} {r r' : Res}

theorem Hp.init (w : World) (L : List Res) (h : ∀ r ∈ L, r.holds w) (hr : ∀ r ∈ L, ¬ r.rw) : Hp NoB w w L :=
  ⟨Kp.refl _ _, h, fun r hm hw => absurd hw (hr r hm), by
    induction L with
    | nil => exact .nil
    | cons a l ih =>
      refine .cons (fun b hb hw => ?_) (ih (fun r hm => h r (.tail _ hm)) (fun r hm => hr r (.tail _ hm)))
      rcases hw with hw | hw
      · exact absurd hw (hr a (.head _))
      · exact absurd hw (hr b (.tail _ hb))⟩
theorem Hp.init0 (w : World) : Hp NoB w w [] := Hp.init w [] (by simp) (by simp)

theorem Hp.quiet (h : Hp S w0 w L) (k : Kp NoB w w') : Hp S w0 w' L :=
  ⟨h.kp.quiet k, fun r hr => r.stable w w' (fun g hg => k.block g (r.bound w (h.at_ r hr) g hg) (fun x => x)) (h.at_ r hr), h.own, h.nd⟩

theorem Hp.new (h : Hp S w0 w L) (k : Kp NoB w w') (hr : r.holds w') (hn : ∀ g, r.keys g → w.heap.size ≤ g) : Hp S w0 w' (r :: L) := by
  have h1 := h.quiet k
  refine ⟨h1.kp, fun s hs => ?_, fun s hs hw g hg => ?_, .cons (fun s hs _ g hg hg' => ?_) h1.nd⟩
  · rcases List.mem_cons.1 hs with rfl | hs
    · exact hr
    · exact h1.at_ s hs
  · rcases List.mem_cons.1 hs with rfl | hs
    · have := hn g hg; have := h.kp.size; exact .inr (by omega)
    · exact h1.own s hs hw g hg
  · have := hn g hg
    have := s.bound w (h.at_ s hs) g hg'
    omega

/-- The head is written (it may have moved to what is new). -/
theorem Hp.upd (h : Hp S w0 w (r :: L)) (hw : r.rw) (k : Kp r.keys w w') (hr : r'.holds w') (hn : ∀ g, r'.keys g → r.keys g ∨ w.heap.size ≤ g) : Hp S w0 w' (r' :: L) := by
  have hnd := List.pairwise_cons.1 h.nd
  refine ⟨h.kp.then k (h.own r (.head _) hw), fun s hs => ?_, fun s hs hw' g hg => ?_, .cons (fun s hs _ g hg hg' => ?_) hnd.2⟩
  · rcases List.mem_cons.1 hs with rfl | hs
    · exact hr
    · exact s.stable w w' (fun g hg => k.block g (s.bound w (h.at_ s (.tail _ hs)) g hg) (fun x => hnd.1 s hs (.inl hw) g x hg)) (h.at_ s (.tail _ hs))
  · rcases List.mem_cons.1 hs with rfl | hs
    · rcases hn g hg with h1 | h1
      · exact h.own r (.head _) hw g h1
      · have := h.kp.size; exact .inr (by omega)
    · exact h.own s (.tail _ hs) hw' g hg
  · rcases hn g hg with h1 | h1
    · exact hnd.1 s hs (.inl hw) g h1 hg'
    · have := s.bound w (h.at_ s (.tail _ hs)) g hg'
      omega

theorem Hp.tail (h : Hp S w0 w (r :: L)) : Hp S w0 w L :=
  ⟨h.kp, fun s hs => h.at_ s (.tail _ hs), fun s hs => h.own s (.tail _ hs), (List.pairwise_cons.1 h.nd).2⟩

theorem Hp.perm {L' : List Res} (h : Hp S w0 w L) (p : L.Perm L') : Hp S w0 w L' :=
  ⟨h.kp, fun s hs => h.at_ s (p.mem_iff.2 hs), fun s hs => h.own s (p.mem_iff.2 hs), (p.pairwise_iff (fun h => h.symm)).1 h.nd⟩

/-- The head said otherwise. -/
theorem Hp.as (h : Hp S w0 w (r :: L)) (hr : r'.holds w) (hw : r'.rw → r.rw) (hn : ∀ g, r'.keys g → r.keys g) : Hp S w0 w (r' :: L) := by
  have hnd := List.pairwise_cons.1 h.nd
  refine ⟨h.kp, fun s hs => ?_, fun s hs hw' g hg => ?_, .cons (fun s hs hw' g hg hg' => hnd.1 s hs (hw'.imp hw id) g (hn g hg) hg') hnd.2⟩
  · rcases List.mem_cons.1 hs with rfl | hs
    · exact hr
    · exact h.at_ s (.tail _ hs)
  · rcases List.mem_cons.1 hs with rfl | hs
    · exact h.own r (.head _) (hw hw') g (hn g hg)
    · exact h.own s (.tail _ hs) hw' g hg
/-- The head in two. -/
theorem Hp.two {r1 r2 : Res} (h : Hp S w0 w (r :: L)) (h1 : r1.holds w) (h2 : r2.holds w) (hw1 : r1.rw → r.rw) (hw2 : r2.rw → r.rw) (hn1 : ∀ g, r1.keys g → r.keys g) (hn2 : ∀ g, r2.keys g → r.keys g) (hok : r1.Ok r2) : Hp S w0 w (r1 :: r2 :: L) := by
  have a1 := h.as h1 hw1 hn1
  have a2 := h.as h2 hw2 hn2
  have n1 := List.pairwise_cons.1 a1.nd
  refine ⟨h.kp, fun s hs => ?_, fun s hs => ?_, .cons (fun s hs => ?_) a2.nd⟩
  · rcases List.mem_cons.1 hs with rfl | hs
    · exact h1
    · exact a2.at_ s hs
  · rcases List.mem_cons.1 hs with rfl | hs
    · exact a1.own _ (.head _)
    · exact a2.own s hs
  · rcases List.mem_cons.1 hs with rfl | hs
    · exact hok
    · exact n1.1 s hs
end

/-! #### The entry at a place taken to the front, or left out -/
theorem Hp.pick1 {S : Nat → Prop} {w0 w : World} {L : List Res} {r0 r1 : Res} (h : Hp S w0 w (r0 :: r1 :: L)) : Hp S w0 w (r1 :: r0 :: L) := h.perm (by
  refine List.Perm.trans ?_ (List.perm_middle (l₁ := [r0]) (a := r1) (l₂ := L))
  exact List.Perm.refl _)
theorem Hp.drop1 {S : Nat → Prop} {w0 w : World} {L : List Res} {r0 r1 : Res} (h : Hp S w0 w (r0 :: r1 :: L)) : Hp S w0 w (r0 :: L) := h.pick1.tail
theorem Hp.pick2 {S : Nat → Prop} {w0 w : World} {L : List Res} {r0 r1 r2 : Res} (h : Hp S w0 w (r0 :: r1 :: r2 :: L)) : Hp S w0 w (r2 :: r0 :: r1 :: L) := h.perm (by
  refine List.Perm.trans ?_ (List.perm_middle (l₁ := [r0, r1]) (a := r2) (l₂ := L))
  exact List.Perm.refl _)
theorem Hp.drop2 {S : Nat → Prop} {w0 w : World} {L : List Res} {r0 r1 r2 : Res} (h : Hp S w0 w (r0 :: r1 :: r2 :: L)) : Hp S w0 w (r0 :: r1 :: L) := h.pick2.tail
theorem Hp.pick3 {S : Nat → Prop} {w0 w : World} {L : List Res} {r0 r1 r2 r3 : Res} (h : Hp S w0 w (r0 :: r1 :: r2 :: r3 :: L)) : Hp S w0 w (r3 :: r0 :: r1 :: r2 :: L) := h.perm (by
  refine List.Perm.trans ?_ (List.perm_middle (l₁ := [r0, r1, r2]) (a := r3) (l₂ := L))
  exact List.Perm.refl _)
theorem Hp.drop3 {S : Nat → Prop} {w0 w : World} {L : List Res} {r0 r1 r2 r3 : Res} (h : Hp S w0 w (r0 :: r1 :: r2 :: r3 :: L)) : Hp S w0 w (r0 :: r1 :: r2 :: L) := h.pick3.tail
theorem Hp.pick4 {S : Nat → Prop} {w0 w : World} {L : List Res} {r0 r1 r2 r3 r4 : Res} (h : Hp S w0 w (r0 :: r1 :: r2 :: r3 :: r4 :: L)) : Hp S w0 w (r4 :: r0 :: r1 :: r2 :: r3 :: L) := h.perm (by
  refine List.Perm.trans ?_ (List.perm_middle (l₁ := [r0, r1, r2, r3]) (a := r4) (l₂ := L))
  exact List.Perm.refl _)
theorem Hp.drop4 {S : Nat → Prop} {w0 w : World} {L : List Res} {r0 r1 r2 r3 r4 : Res} (h : Hp S w0 w (r0 :: r1 :: r2 :: r3 :: r4 :: L)) : Hp S w0 w (r0 :: r1 :: r2 :: r3 :: L) := h.pick4.tail
theorem Hp.pick5 {S : Nat → Prop} {w0 w : World} {L : List Res} {r0 r1 r2 r3 r4 r5 : Res} (h : Hp S w0 w (r0 :: r1 :: r2 :: r3 :: r4 :: r5 :: L)) : Hp S w0 w (r5 :: r0 :: r1 :: r2 :: r3 :: r4 :: L) := h.perm (by
  refine List.Perm.trans ?_ (List.perm_middle (l₁ := [r0, r1, r2, r3, r4]) (a := r5) (l₂ := L))
  exact List.Perm.refl _)
theorem Hp.drop5 {S : Nat → Prop} {w0 w : World} {L : List Res} {r0 r1 r2 r3 r4 r5 : Res} (h : Hp S w0 w (r0 :: r1 :: r2 :: r3 :: r4 :: r5 :: L)) : Hp S w0 w (r0 :: r1 :: r2 :: r3 :: r4 :: L) := h.pick5.tail
theorem Hp.pick6 {S : Nat → Prop} {w0 w : World} {L : List Res} {r0 r1 r2 r3 r4 r5 r6 : Res} (h : Hp S w0 w (r0 :: r1 :: r2 :: r3 :: r4 :: r5 :: r6 :: L)) : Hp S w0 w (r6 :: r0 :: r1 :: r2 :: r3 :: r4 :: r5 :: L) := h.perm (by
  refine List.Perm.trans ?_ (List.perm_middle (l₁ := [r0, r1, r2, r3, r4, r5]) (a := r6) (l₂ := L))
  exact List.Perm.refl _)
theorem Hp.drop6 {S : Nat → Prop} {w0 w : World} {L : List Res} {r0 r1 r2 r3 r4 r5 r6 : Res} (h : Hp S w0 w (r0 :: r1 :: r2 :: r3 :: r4 :: r5 :: r6 :: L)) : Hp S w0 w (r0 :: r1 :: r2 :: r3 :: r4 :: r5 :: L) := h.pick6.tail
theorem Hp.pick7 {S : Nat → Prop} {w0 w : World} {L : List Res} {r0 r1 r2 r3 r4 r5 r6 r7 : Res} (h : Hp S w0 w (r0 :: r1 :: r2 :: r3 :: r4 :: r5 :: r6 :: r7 :: L)) : Hp S w0 w (r7 :: r0 :: r1 :: r2 :: r3 :: r4 :: r5 :: r6 :: L) := h.perm (by
  refine List.Perm.trans ?_ (List.perm_middle (l₁ := [r0, r1, r2, r3, r4, r5, r6]) (a := r7) (l₂ := L))
  exact List.Perm.refl _)
theorem Hp.drop7 {S : Nat → Prop} {w0 w : World} {L : List Res} {r0 r1 r2 r3 r4 r5 r6 r7 : Res} (h : Hp S w0 w (r0 :: r1 :: r2 :: r3 :: r4 :: r5 :: r6 :: r7 :: L)) : Hp S w0 w (r0 :: r1 :: r2 :: r3 :: r4 :: r5 :: r6 :: L) := h.pick7.tail
theorem Hp.pick8 {S : Nat → Prop} {w0 w : World} {L : List Res} {r0 r1 r2 r3 r4 r5 r6 r7 r8 : Res} (h : Hp S w0 w (r0 :: r1 :: r2 :: r3 :: r4 :: r5 :: r6 :: r7 :: r8 :: L)) : Hp S w0 w (r8 :: r0 :: r1 :: r2 :: r3 :: r4 :: r5 :: r6 :: r7 :: L) := h.perm (by
  refine List.Perm.trans ?_ (List.perm_middle (l₁ := [r0, r1, r2, r3, r4, r5, r6, r7]) (a := r8) (l₂ := L))
  exact List.Perm.refl _)
theorem Hp.drop8 {S : Nat → Prop} {w0 w : World} {L : List Res} {r0 r1 r2 r3 r4 r5 r6 r7 r8 : Res} (h : Hp S w0 w (r0 :: r1 :: r2 :: r3 :: r4 :: r5 :: r6 :: r7 :: r8 :: L)) : Hp S w0 w (r0 :: r1 :: r2 :: r3 :: r4 :: r5 :: r6 :: r7 :: L) := h.pick8.tail
theorem Hp.pick9 {S : Nat → Prop} {w0 w : World} {L : List Res} {r0 r1 r2 r3 r4 r5 r6 r7 r8 r9 : Res} (h : Hp S w0 w (r0 :: r1 :: r2 :: r3 :: r4 :: r5 :: r6 :: r7 :: r8 :: r9 :: L)) : Hp S w0 w (r9 :: r0 :: r1 :: r2 :: r3 :: r4 :: r5 :: r6 :: r7 :: r8 :: L) := h.perm (by
  refine List.Perm.trans ?_ (List.perm_middle (l₁ := [r0, r1, r2, r3, r4, r5, r6, r7, r8]) (a := r9) (l₂ := L))
  exact List.Perm.refl _)
theorem Hp.drop9 {S : Nat → Prop} {w0 w : World} {L : List Res} {r0 r1 r2 r3 r4 r5 r6 r7 r8 r9 : Res} (h : Hp S w0 w (r0 :: r1 :: r2 :: r3 :: r4 :: r5 :: r6 :: r7 :: r8 :: r9 :: L)) : Hp S w0 w (r0 :: r1 :: r2 :: r3 :: r4 :: r5 :: r6 :: r7 :: r8 :: L) := h.pick9.tail
/-- A readable slice stays readable. -/
theorem RdRow.quiet {w w' : World} {v : Value} {sz n : Nat} {xs : List Value} (h : RdRow w v sz n xs) (k : Kp NoB w w') : RdRow w' v sz n xs :=
  Res.stable (.rd v sz n xs) w w' (fun g hg => k.block g (Res.bound (.rd v sz n xs) w h g hg) (fun x => x)) h
theorem RdRow.of_own {w : World} {base : Nat} {e : TypeId} {sz : Nat} {v : Value} {n : Nat} {xs : List Value} (h : w.ownsRow base e sz v n xs) : RdRow w v sz n xs := by
  refine ⟨h.1, ?_⟩
  rcases h.2 with ⟨rfl, rfl⟩ | ⟨g, cap, cur, rfl, hg, hh, hn, hm, hs, ht⟩
  · exact ⟨none, 0, rfl, Nat.le_refl _, Nat.zero_le _, by simp, by simp⟩
  · exact ⟨_, cap, rfl, hn, hm, fun _ => ⟨_, rfl⟩, fun ad ha => by cases ha; exact h.cells (g := g) rfl⟩

theorem add_plain (g i j : Nat) : (⟨g, i, none⟩ : Addr).add j = ⟨g, i + j, none⟩ := by unfold Addr.add; split <;> simp_all
theorem WinRow.rd {w : World} {v : Value} {e : TypeId} {sz n : Nat} {xs : List Value} (h : WinRow w v e sz n xs) : RdRow w v sz n xs := by
  obtain ⟨hl, A, c, hv, h1, h2, h3⟩ := h
  refine ⟨hl, A, c, hv, h1, h2, ?_, ?_⟩
  · intro hn
    rcases h3 with ⟨_, h3⟩ | ⟨g, off, cur, hA, _⟩
    · omega
    · exact ⟨_, hA⟩
  · intro ad hA j u hu
    rcases h3 with ⟨h3, _⟩ | ⟨g, off, cur, hA', hg, hs, ht⟩
    · rw [h3] at hA; cases hA
    · rw [hA'] at hA
      cases hA
      rw [add_plain]
      simp only [World.cell?, hg]
      have hlt := (List.getElem?_eq_some_iff.1 hu).1
      rw [← ht, List.getElem?_take, if_pos (by omega), List.getElem?_drop] at hu
      simpa using hu
/-- Reads xs, in any world that holds L. -/
def Rdb (L : List Res) (v : Value) (sz n : Nat) (xs : List Value) : Prop := ∀ (S : Nat → Prop) (w0 w : World), Hp S w0 w L → RdRow w v sz n xs
theorem rdb_rd {L : List Res} {v : Value} {sz n : Nat} {xs : List Value} (h : Res.rd v sz n xs ∈ L) : Rdb L v sz n xs := fun _ _ _ H => H.at_ _ h
theorem rdb_row {L : List Res} {v : Value} {e : TypeId} {sz n : Nat} {xs : List Value} (h : Res.row v e sz n xs ∈ L) : Rdb L v sz n xs := fun _ _ _ H => RdRow.of_own (H.at_ _ h)
theorem rdb_win {L : List Res} {v : Value} {e : TypeId} {sz n : Nat} {xs : List Value} (h : Res.win v e sz n xs ∈ L) : Rdb L v sz n xs := fun _ _ _ H => WinRow.rd (H.at_ _ h)
theorem Rdb.cons {L : List Res} {r : Res} {v : Value} {sz n : Nat} {xs : List Value} (h : Rdb L v sz n xs) : Rdb (r :: L) v sz n xs := fun S w0 w H => h S w0 w H.tail

/-! ### 3. Frames -/
def get : List (Nat × Value) → Nat → Option Value
  | [], _ => none
  | (k, v) :: r, t => bif Nat.beq k t then some v else get r t
structure Has (n : Nat) (l : List (Nat × Value)) (a : Act) : Prop where
  defers : a.defers = []
  size : a.tmps.size = n
  slot : ∀ t v, get l t = some v → a.tmps[t]? = some v
def evO (l : List (Nat × Value)) : Operand → Option Value
  | .tmp t => get l t
  | .const v => some v
  | .global g => some (.pointer (some ⟨g, 0, none⟩))
  | .func f => some (.func (.func f) #[] #[])
def evOs (l : List (Nat × Value)) : List Operand → Option (List Value)
  | [] => some []
  | x :: r => match evO l x, evOs l r with
    | some v, some vs => some (v :: vs)
    | _, _ => none

section
variable {n : Nat} {l l' : List (Nat × Value)} {a : Act}
theorem Has.eval (h : Has n l a) {x : Operand} {v : Value} (hx : evO l x = some v) : a.eval x = v := by
  cases x with
  | tmp t =>
    have := h.slot t v hx
    simp only [Act.eval]
    rw [Array.getD_eq_getD_getElem?, this]
    rfl
  | const u => simp only [evO, Option.some.injEq] at hx; exact hx
  | global g => simp only [evO, Option.some.injEq] at hx; exact hx
  | func f => simp only [evO, Option.some.injEq] at hx; exact hx
theorem Has.evals (h : Has n l a) : ∀ {xs : List Operand} {vs : List Value}, evOs l xs = some vs → xs.map a.eval = vs
  | [], vs, hx => by simp only [evOs, Option.some.injEq] at hx; subst hx; rfl
  | x :: r, vs, hx => by
    simp only [evOs] at hx
    cases h1 : evO l x with
    | none => rw [h1] at hx; cases hx
    | some v =>
      cases h2 : evOs l r with
      | none => rw [h1, h2] at hx; cases hx
      | some us =>
        rw [h1, h2] at hx
        simp only [Option.some.injEq] at hx
        subst hx
        rw [List.map_cons, h.eval h1, Has.evals h h2]
theorem beq_of {k t : Nat} (h : Nat.beq k t = true) : k = t := Nat.eq_of_beq_eq_true h
theorem Has.put (h : Has n l a) {d : Nat} (hd : Nat.blt d n = true) (v : Value) : Has n ((d, v) :: l) (a.put (some d) v) := by
  have hd' : d < n := by simpa [Nat.blt_eq] using hd
  refine ⟨h.defers, by simp [Act.put, h.size], fun t u hu => ?_⟩
  simp only [Act.put]
  rw [Array.getElem?_setIfInBounds]
  unfold get at hu
  cases hb : Nat.beq d t with
  | true =>
    rw [hb] at hu
    have := beq_of hb
    subst this
    simp only [cond_true, Option.some.injEq] at hu
    subst hu
    rw [if_pos rfl, if_pos (by rw [h.size]; exact hd')]
  | false =>
    rw [hb] at hu
    have hne : d ≠ t := fun e => by subst e; simp [Nat.beq_refl] at hb
    rw [if_neg hne]
    exact h.slot t u hu
theorem Has.put_none (h : Has n l a) (v : Value) : Has n l (a.put none v) := h
/-- Every slot of l' is so in l. -/
def AllIn (l : List (Nat × Value)) : List (Nat × Value) → Prop
  | [] => True
  | p :: r => get l p.1 = some p.2 ∧ AllIn l r
theorem AllIn.get : ∀ {l' : List (Nat × Value)}, AllIn l l' → ∀ t v, SK.get l' t = some v → SK.get l t = some v
  | [], _, t, v, hv => by simp [SK.get] at hv
  | (k, u) :: r, ⟨h1, h2⟩, t, v, hv => by
    unfold SK.get at hv
    cases hb : Nat.beq k t with
    | true =>
      rw [hb] at hv
      have := beq_of hb
      subst this
      simp only [cond_true, Option.some.injEq] at hv
      subst hv
      exact h1
    | false => rw [hb] at hv; exact h2.get t v hv
theorem Has.weak (h : Has n l a) (hw : AllIn l l') : Has n l' a := ⟨h.defers, h.size, fun t v hv => h.slot t v (hw.get t v hv)⟩
def initL : Nat → List Value → List (Nat × Value)
  | _, [] => []
  | k, v :: r => (k, v) :: initL (k + 1) r
theorem get_initL : ∀ (vs : List Value) (k t : Nat) (v : Value), get (initL k vs) t = some v → k ≤ t ∧ vs[t - k]? = some v
  | [], k, t, v, h => by simp [initL, get] at h
  | u :: r, k, t, v, h => by
    simp only [initL, get] at h
    cases hb : Nat.beq k t with
    | true =>
      rw [hb] at h
      have := beq_of hb
      subst this
      simp only [cond_true, Option.some.injEq] at h
      subst h
      simp
    | false =>
      rw [hb] at h
      have hne : k ≠ t := fun e => by subst e; simp [Nat.beq_refl] at hb
      obtain ⟨h1, h2⟩ := get_initL r (k + 1) t v h
      refine ⟨by omega, ?_⟩
      rw [show t - k = (t - (k + 1)) + 1 by omega]
      exact h2
theorem Has.init (vs : List Value) (n : Nat) (hn : Nat.ble vs.length n = true) : Has n (initL 0 vs) { tmps := vs.toArray ++ Array.replicate (n - vs.toArray.size) undef, defers := [] } := by
  have hn' : vs.length ≤ n := by simpa using hn
  refine ⟨rfl, by simp; omega, fun t v h => ?_⟩
  obtain ⟨_, h2⟩ := get_initL vs 0 t v h
  simp only [Nat.sub_zero] at h2
  have hlt : t < vs.length := (List.getElem?_eq_some_iff.1 h2).1
  rw [Array.getElem?_append_left (by simpa using hlt)]
  simpa using h2
end
end Go.SK
