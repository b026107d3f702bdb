/- The heap as a list of what is held: a small separation logic over the model's worlds, and frames by the slots that are known. Code and plain regions walked over frames of known slots and a heap of what is held; operations that leave the world alone. Operations that make or write memory; calls. Regions whose order is open: one walk, in an order of one's own, for all orders. -/
import Derived.WalkKit
import Derived.WalkLawsBesides
import Derived.WalkSpells
import Derived.Maps.AppendAt
import Derived.OrdersHeld
import Derived.Deep.Quiet
import Derived.RegionTactic
import Derived.Laws.BitsLemmas
set_option linter.unusedVariables false
set_option linter.unusedSimpArgs false
namespace Go.SK
open Go Go.RowKit

/-! ### 1. What a call keeps -/
structure Kp (S : Nat → Prop) (w w' : World) : Prop where
  os : w'.os = w.os
  tape : w'.tape = w.tape
  output : w'.output = w.output
  size : w.heap.size ≤ w'.heap.size
  block : ∀ k, k < w.heap.size → ¬ S k → w'.heap[k]? = w.heap[k]?
def NoB : Nat → Prop := fun _ => False
theorem Kp.refl (S : Nat → Prop) (w : World) : Kp S w w := ⟨rfl, rfl, rfl, Nat.le_refl _, fun _ _ _ => rfl⟩
theorem Kp.of_below {w w' : World} (h : Below w.heap.size w w') : Kp NoB w w' := ⟨h.os, h.tape, h.output, h.size, fun k hk _ => h.block k hk⟩
theorem Kp.below {w w' : World} (h : Kp NoB w w') : Below w.heap.size w w' := ⟨h.os, h.tape, h.output, h.size, fun k hk => h.block k hk (fun x => x)⟩
theorem Kp.mono {S S' : Nat → Prop} {w w' : World} (h : Kp S w w') (hs : ∀ g, S g → S' g) : Kp S' w w' := ⟨h.os, h.tape, h.output, h.size, fun k hk hn => h.block k hk (fun x => hn (hs k x))⟩
theorem Kp.then {S S' : Nat → Prop} {w w1 w2 : World} (h : Kp S w w1) (k : Kp S' w1 w2) (hs : ∀ g, S' g → S g ∨ w.heap.size ≤ g) : Kp S w w2 :=
  ⟨k.os.trans h.os, k.tape.trans h.tape, k.output.trans h.output, Nat.le_trans h.size k.size, fun i hi hn => (k.block i (Nat.lt_of_lt_of_le hi h.size) (fun x => by
    rcases hs i x with h1 | h1
    · exact hn h1
    · omega)).trans (h.block i hi hn)⟩
theorem Kp.trans {S : Nat → Prop} {w w1 w2 : World} (h : Kp S w w1) (k : Kp S w1 w2) : Kp S w w2 := h.then k (fun _ x => .inl x)
theorem Kp.quiet {S : Nat → Prop} {w w1 w2 : World} (h : Kp S w w1) (k : Kp NoB w1 w2) : Kp S w w2 := h.then k (fun _ x => x.elim)
theorem Kp.drew (w : World) : Kp NoB w w.drew := ⟨rfl, rfl, rfl, Nat.le_refl _, fun _ _ _ => rfl⟩
theorem Kp.drawn (w : World) (n : Nat) : Kp NoB w { w with drawn := n } := ⟨rfl, rfl, rfl, Nat.le_refl _, fun _ _ _ => rfl⟩
theorem Kp.alloc (w : World) (o : Obj) : Kp NoB w (w.alloc o) := ⟨rfl, rfl, rfl, by simp, fun k hk _ => Below.heap_alloc w o k hk⟩
theorem Kp.iter (w : World) (s : ByteArray) (p : Nat) : Kp NoB w (w.iter s p) := Kp.alloc w _
theorem Kp.setCell (w : World) (p : Addr) (u : Value) : Kp (· = p.block) w (w.setCell p u) := ⟨rfl, rfl, rfl, by simp [World.setCell], fun k hk hn => Below.heap_setCell w p u k hn⟩
theorem Kp.grown {w w' : World} {row : Option Nat} (h : w.grownBy w' row) : Kp (fun g => row = some g) w w' := ⟨h.os, h.tape, h.output, h.size, fun k hk hn => h.block k hk (fun e => hn e.symm)⟩

/-! ### 2. What is held -/
/-- The slice v, of n elements, sz cells each, reads as the cells xs. -/
def RdRow (w : World) (v : Value) (sz n : Nat) (xs : List Value) : Prop :=
  xs.length = n * sz ∧ ∃ A c, v = .slice A n c ∧ n ≤ c ∧ c ≤ maxLen ∧ (0 < n → ∃ ad, A = some ad) ∧ ∀ ad, A = some ad → ∀ j u, xs[j]? = some u → w.cell? (ad.add j) = some u

/-- v, of n elements of type e, sz cells each, is a window of a block that nobody else holds; it reads xs. -/
def WinRow (w : World) (v : Value) (e : TypeId) (sz n : Nat) (xs : List Value) : Prop :=
  xs.length = n * sz ∧ ∃ A c, v = .slice A n c ∧ n ≤ c ∧ c ≤ maxLen ∧ ((A = none ∧ n = 0) ∨ ∃ g off cur, A = some ⟨g, off, none⟩ ∧ w.heap[g]? = some (.cells cur e (0, 0)) ∧ off + n * sz ≤ cur.size ∧ (cur.toList.drop off).take (n * sz) = xs)

inductive Res where
  | blk (g : Nat) (o : Obj)
  | row (v : Value) (e : TypeId) (sz n : Nat) (xs : List Value)
  | rd (v : Value) (sz n : Nat) (xs : List Value)
  | win (v : Value) (e : TypeId) (sz n : Nat) (xs : List Value)
  | ro (K : Nat → Prop) (F : World → Prop) (hF : ∀ w w' : World, (∀ g, K g → w'.heap[g]? = w.heap[g]?) → F w → F w') (hK : ∀ w : World, F w → ∀ g, K g → g < w.heap.size)

def Res.keys : Res → Nat → Prop
  | .blk g _ => fun k => k = g
  | .row v _ _ _ _ => fun k => v.ownBlock = some k
  | .rd v _ _ xs => fun k => v.ownBlock = some k ∧ xs ≠ []
  | .win v _ _ _ _ => fun k => v.ownBlock = some k
  | .ro K _ _ _ => K
def Res.rw : Res → Prop
  | .blk .. => True
  | .row .. => True
  | .rd .. => False
  | .win .. => True
  | .ro .. => False
def Res.holds : Res → World → Prop
  | .blk g o, w => w.heap[g]? = some o
  | .row v e sz n xs, w => w.ownsRow 0 e sz v n xs
  | .rd v sz n xs, w => RdRow w v sz n xs
  | .win v e sz n xs, w => WinRow w v e sz n xs
  | .ro _ F _ _, w => F w

theorem cell_add_block {w w' : World} (ad : Addr) (j : Nat) (h : w'.heap[ad.block]? = w.heap[ad.block]?) : w'.cell? (ad.add j) = w.cell? (ad.add j) := by
  have hb : (ad.add j).block = ad.block := by unfold Addr.add; split <;> rfl
  exact World.cell?_of_block (by rw [hb]; exact h)

theorem own_move {w w1 : World} {base : Nat} {e : TypeId} {size : Nat} {v : Value} {n : Nat} {xs : List Value} (h : w.ownsRow base e size v n xs) (hm : ∀ k, v.ownBlock = some k → w1.heap[k]? = w.heap[k]?) : w1.ownsRow base e size v n xs := by
  obtain ⟨h1, h2⟩ := h
  refine ⟨h1, ?_⟩
  rcases h2 with h2 | ⟨g, cap, cur, rfl, hg, hh, r⟩
  · exact .inl h2
  · exact .inr ⟨g, cap, cur, rfl, hg, (hm g (by simp [Value.ownBlock])).trans hh, r⟩
theorem own_base0 {w : World} {base : Nat} {e : TypeId} {size : Nat} {v : Value} {n : Nat} {xs : List Value} (h : w.ownsRow base e size v n xs) : w.ownsRow 0 e size v n xs := by
  obtain ⟨h1, h2⟩ := h
  refine ⟨h1, ?_⟩
  rcases h2 with h2 | ⟨g, cap, cur, rfl, hg, r⟩
  · exact .inl h2
  · exact .inr ⟨g, cap, cur, rfl, Nat.zero_le _, r⟩

theorem Res.stable : ∀ (r : Res) (w w' : World), (∀ g, r.keys g → w'.heap[g]? = w.heap[g]?) → r.holds w → r.holds w'
  | .blk g o, w, w', h, hh => (h g rfl).trans hh
  | .row v e sz n xs, w, w', h, hh => own_move hh h
  | .rd v sz n xs, w, w', h, ⟨hl, A, c, hv, h1, h2, h3, h4⟩ => ⟨hl, A, c, hv, h1, h2, h3, fun ad hA j u hu => by
      subst hA hv
      rw [cell_add_block ad j (h ad.block ⟨rfl, by rintro rfl; simp at hu⟩)]
      exact h4 ad rfl j u hu⟩
  | .win v e sz n xs, w, w', h, ⟨hl, A, c, hv, h1, h2, h3⟩ => ⟨hl, A, c, hv, h1, h2, by
      rcases h3 with h3 | ⟨g, off, cur, hA, hg, h4⟩
      · exact .inl h3
      · exact .inr ⟨g, off, cur, hA, (h g (by subst hA hv; rfl)).trans hg, h4⟩⟩
  | .ro K F hF hK, w, w', h, hh => hF w w' h hh

theorem Res.bound : ∀ (r : Res) (w : World), r.holds w → ∀ g, r.keys g → g < w.heap.size
  | .blk g o, w, hh, k, hk => by
      cases hk
      rcases Nat.lt_or_ge g w.heap.size with hlt | hge
      · exact hlt
      · simp only [Res.holds] at hh; rw [Array.getElem?_eq_none hge] at hh; cases hh
  | .row v e sz n xs, w, hh, k, hk => (World.ownsRow.lt hh k hk).2
  | .rd v sz n xs, w, ⟨hl, A, c, hv, h1, h2, h3, h4⟩, k, ⟨hk, hx⟩ => by
      subst hv
      obtain ⟨u, xs, rfl⟩ := List.exists_cons_of_ne_nil hx
      cases A with
      | none => simp [Value.ownBlock] at hk
      | some ad =>
        have hc := h4 ad rfl 0 u rfl
        have := World.block_lt_of_cell? w _ hc
        have hb : (ad.add 0).block = ad.block := by unfold Addr.add; split <;> rfl
        rw [hb] at this
        simp only [Value.ownBlock, Option.some.injEq] at hk
        omega
  | .win v e sz n xs, w, ⟨hl, A, c, hv, h1, h2, h3⟩, k, hk => by
      subst hv
      rcases h3 with ⟨rfl, _⟩ | ⟨g, off, cur, rfl, hg, h4⟩
      · simp [Res.keys, Value.ownBlock] at hk
      · simp only [Res.keys, Value.ownBlock, Option.some.injEq] at hk
        subst hk
        rcases Nat.lt_or_ge g w.heap.size with hlt | hge
        · exact hlt
        · rw [Array.getElem?_eq_none hge] at hg; cases hg
  | .ro K F hF hK, w, hh, k, hk => hK w hh k hk

def Res.Ok (r s : Res) : Prop := (r.rw ∨ s.rw) → ∀ g, r.keys g → s.keys g → False
theorem Res.Ok.symm {r s : Res} (h : r.Ok s) : s.Ok r := fun hw g h1 h2 => h hw.symm g h2 h1

structure Hp (S : Nat → Prop) (w0 w : World) (L : List Res) : Prop where
  kp : Kp S w0 w
  at_ : ∀ r ∈ L, r.holds w
  own : ∀ r ∈ L, r.rw → ∀ g, r.keys g → S g ∨ w0.heap.size ≤ g
  nd : L.Pairwise Res.Ok

section
variable {S : Nat → Prop} {w0 w w' : World} {L : List Res} {r r' : Res}

theorem Hp.init (w : World) (L : List Res) (h : ∀ r ∈ L, r.holds w) (hr : ∀ r ∈ L, ¬ r.rw) : Hp NoB w w L :=
  ⟨Kp.refl _ _, h, fun r hm hw => absurd hw (hr r hm), by
    induction L with
    | nil => exact .nil
    | cons a l ih =>
      refine .cons (fun b hb hw => ?_) (ih (fun r hm => h r (.tail _ hm)) (fun r hm => hr r (.tail _ hm)))
      rcases hw with hw | hw
      · exact absurd hw (hr a (.head _))
      · exact absurd hw (hr b (.tail _ hb))⟩
theorem Hp.init0 (w : World) : Hp NoB w w [] := Hp.init w [] (by simp) (by simp)

theorem Hp.quiet (h : Hp S w0 w L) (k : Kp NoB w w') : Hp S w0 w' L :=
  ⟨h.kp.quiet k, fun r hr => r.stable w w' (fun g hg => k.block g (r.bound w (h.at_ r hr) g hg) (fun x => x)) (h.at_ r hr), h.own, h.nd⟩

theorem Hp.new (h : Hp S w0 w L) (k : Kp NoB w w') (hr : r.holds w') (hn : ∀ g, r.keys g → w.heap.size ≤ g) : Hp S w0 w' (r :: L) := by
  have h1 := h.quiet k
  refine ⟨h1.kp, fun s hs => ?_, fun s hs hw g hg => ?_, .cons (fun s hs _ g hg hg' => ?_) h1.nd⟩
  · rcases List.mem_cons.1 hs with rfl | hs
    · exact hr
    · exact h1.at_ s hs
  · rcases List.mem_cons.1 hs with rfl | hs
    · have := hn g hg; have := h.kp.size; exact .inr (by omega)
    · exact h1.own s hs hw g hg
  · have := hn g hg
    have := s.bound w (h.at_ s hs) g hg'
    omega

/-- The head is written (it may have moved to what is new). -/
theorem Hp.upd (h : Hp S w0 w (r :: L)) (hw : r.rw) (k : Kp r.keys w w') (hr : r'.holds w') (hn : ∀ g, r'.keys g → r.keys g ∨ w.heap.size ≤ g) : Hp S w0 w' (r' :: L) := by
  have hnd := List.pairwise_cons.1 h.nd
  refine ⟨h.kp.then k (h.own r (.head _) hw), fun s hs => ?_, fun s hs hw' g hg => ?_, .cons (fun s hs _ g hg hg' => ?_) hnd.2⟩
  · rcases List.mem_cons.1 hs with rfl | hs
    · exact hr
    · exact s.stable w w' (fun g hg => k.block g (s.bound w (h.at_ s (.tail _ hs)) g hg) (fun x => hnd.1 s hs (.inl hw) g x hg)) (h.at_ s (.tail _ hs))
  · rcases List.mem_cons.1 hs with rfl | hs
    · rcases hn g hg with h1 | h1
      · exact h.own r (.head _) hw g h1
      · have := h.kp.size; exact .inr (by omega)
    · exact h.own s (.tail _ hs) hw' g hg
  · rcases hn g hg with h1 | h1
    · exact hnd.1 s hs (.inl hw) g h1 hg'
    · have := s.bound w (h.at_ s (.tail _ hs)) g hg'
      omega

theorem Hp.tail (h : Hp S w0 w (r :: L)) : Hp S w0 w L :=
  ⟨h.kp, fun s hs => h.at_ s (.tail _ hs), fun s hs => h.own s (.tail _ hs), (List.pairwise_cons.1 h.nd).2⟩

theorem Hp.perm {L' : List Res} (h : Hp S w0 w L) (p : L.Perm L') : Hp S w0 w L' :=
  ⟨h.kp, fun s hs => h.at_ s (p.mem_iff.2 hs), fun s hs => h.own s (p.mem_iff.2 hs), (p.pairwise_iff (fun h => h.symm)).1 h.nd⟩

/-- The head said otherwise. -/
theorem Hp.as (h : Hp S w0 w (r :: L)) (hr : r'.holds w) (hw : r'.rw → r.rw) (hn : ∀ g, r'.keys g → r.keys g) : Hp S w0 w (r' :: L) := by
  have hnd := List.pairwise_cons.1 h.nd
  refine ⟨h.kp, fun s hs => ?_, fun s hs hw' g hg => ?_, .cons (fun s hs hw' g hg hg' => hnd.1 s hs (hw'.imp hw id) g (hn g hg) hg') hnd.2⟩
  · rcases List.mem_cons.1 hs with rfl | hs
    · exact hr
    · exact h.at_ s (.tail _ hs)
  · rcases List.mem_cons.1 hs with rfl | hs
    · exact h.own r (.head _) (hw hw') g (hn g hg)
    · exact h.own s (.tail _ hs) hw' g hg
/-- The head in two. -/
theorem Hp.two {r1 r2 : Res} (h : Hp S w0 w (r :: L)) (h1 : r1.holds w) (h2 : r2.holds w) (hw1 : r1.rw → r.rw) (hw2 : r2.rw → r.rw) (hn1 : ∀ g, r1.keys g → r.keys g) (hn2 : ∀ g, r2.keys g → r.keys g) (hok : r1.Ok r2) : Hp S w0 w (r1 :: r2 :: L) := by
  have a1 := h.as h1 hw1 hn1
  have a2 := h.as h2 hw2 hn2
  have n1 := List.pairwise_cons.1 a1.nd
  refine ⟨h.kp, fun s hs => ?_, fun s hs => ?_, .cons (fun s hs => ?_) a2.nd⟩
  · rcases List.mem_cons.1 hs with rfl | hs
    · exact h1
    · exact a2.at_ s hs
  · rcases List.mem_cons.1 hs with rfl | hs
    · exact a1.own _ (.head _)
    · exact a2.own s hs
  · rcases List.mem_cons.1 hs with rfl | hs
    · exact hok
    · exact n1.1 s hs
end

/-! #### The entry at a place taken to the front, or left out -/
theorem Hp.pick1 {S : Nat → Prop} {w0 w : World} {L : List Res} {r0 r1 : Res} (h : Hp S w0 w (r0 :: r1 :: L)) : Hp S w0 w (r1 :: r0 :: L) := h.perm (by
  refine List.Perm.trans ?_ (List.perm_middle (l₁ := [r0]) (a := r1) (l₂ := L))
  exact List.Perm.refl _)
theorem Hp.drop1 {S : Nat → Prop} {w0 w : World} {L : List Res} {r0 r1 : Res} (h : Hp S w0 w (r0 :: r1 :: L)) : Hp S w0 w (r0 :: L) := h.pick1.tail
theorem Hp.pick2 {S : Nat → Prop} {w0 w : World} {L : List Res} {r0 r1 r2 : Res} (h : Hp S w0 w (r0 :: r1 :: r2 :: L)) : Hp S w0 w (r2 :: r0 :: r1 :: L) := h.perm (by
  refine List.Perm.trans ?_ (List.perm_middle (l₁ := [r0, r1]) (a := r2) (l₂ := L))
  exact List.Perm.refl _)
theorem Hp.drop2 {S : Nat → Prop} {w0 w : World} {L : List Res} {r0 r1 r2 : Res} (h : Hp S w0 w (r0 :: r1 :: r2 :: L)) : Hp S w0 w (r0 :: r1 :: L) := h.pick2.tail
theorem Hp.pick3 {S : Nat → Prop} {w0 w : World} {L : List Res} {r0 r1 r2 r3 : Res} (h : Hp S w0 w (r0 :: r1 :: r2 :: r3 :: L)) : Hp S w0 w (r3 :: r0 :: r1 :: r2 :: L) := h.perm (by
  refine List.Perm.trans ?_ (List.perm_middle (l₁ := [r0, r1, r2]) (a := r3) (l₂ := L))
  exact List.Perm.refl _)
theorem Hp.drop3 {S : Nat → Prop} {w0 w : World} {L : List Res} {r0 r1 r2 r3 : Res} (h : Hp S w0 w (r0 :: r1 :: r2 :: r3 :: L)) : Hp S w0 w (r0 :: r1 :: r2 :: L) := h.pick3.tail
theorem Hp.pick4 {S : Nat → Prop} {w0 w : World} {L : List Res} {r0 r1 r2 r3 r4 : Res} (h : Hp S w0 w (r0 :: r1 :: r2 :: r3 :: r4 :: L)) : Hp S w0 w (r4 :: r0 :: r1 :: r2 :: r3 :: L) := h.perm (by
  refine List.Perm.trans ?_ (List.perm_middle (l₁ := [r0, r1, r2, r3]) (a := r4) (l₂ := L))
  exact List.Perm.refl _)
theorem Hp.drop4 {S : Nat → Prop} {w0 w : World} {L : List Res} {r0 r1 r2 r3 r4 : Res} (h : Hp S w0 w (r0 :: r1 :: r2 :: r3 :: r4 :: L)) : Hp S w0 w (r0 :: r1 :: r2 :: r3 :: L) := h.pick4.tail
theorem Hp.pick5 {S : Nat → Prop} {w0 w : World} {L : List Res} {r0 r1 r2 r3 r4 r5 : Res} (h : Hp S w0 w (r0 :: r1 :: r2 :: r3 :: r4 :: r5 :: L)) : Hp S w0 w (r5 :: r0 :: r1 :: r2 :: r3 :: r4 :: L) := h.perm (by
  refine List.Perm.trans ?_ (List.perm_middle (l₁ := [r0, r1, r2, r3, r4]) (a := r5) (l₂ := L))
  exact List.Perm.refl _)
theorem Hp.drop5 {S : Nat → Prop} {w0 w : World} {L : List Res} {r0 r1 r2 r3 r4 r5 : Res} (h : Hp S w0 w (r0 :: r1 :: r2 :: r3 :: r4 :: r5 :: L)) : Hp S w0 w (r0 :: r1 :: r2 :: r3 :: r4 :: L) := h.pick5.tail
theorem Hp.pick6 {S : Nat → Prop} {w0 w : World} {L : List Res} {r0 r1 r2 r3 r4 r5 r6 : Res} (h : Hp S w0 w (r0 :: r1 :: r2 :: r3 :: r4 :: r5 :: r6 :: L)) : Hp S w0 w (r6 :: r0 :: r1 :: r2 :: r3 :: r4 :: r5 :: L) := h.perm (by
  refine List.Perm.trans ?_ (List.perm_middle (l₁ := [r0, r1, r2, r3, r4, r5]) (a := r6) (l₂ := L))
  exact List.Perm.refl _)
theorem Hp.drop6 {S : Nat → Prop} {w0 w : World} {L : List Res} {r0 r1 r2 r3 r4 r5 r6 : Res} (h : Hp S w0 w (r0 :: r1 :: r2 :: r3 :: r4 :: r5 :: r6 :: L)) : Hp S w0 w (r0 :: r1 :: r2 :: r3 :: r4 :: r5 :: L) := h.pick6.tail
theorem Hp.pick7 {S : Nat → Prop} {w0 w : World} {L : List Res} {r0 r1 r2 r3 r4 r5 r6 r7 : Res} (h : Hp S w0 w (r0 :: r1 :: r2 :: r3 :: r4 :: r5 :: r6 :: r7 :: L)) : Hp S w0 w (r7 :: r0 :: r1 :: r2 :: r3 :: r4 :: r5 :: r6 :: L) := h.perm (by
  refine List.Perm.trans ?_ (List.perm_middle (l₁ := [r0, r1, r2, r3, r4, r5, r6]) (a := r7) (l₂ := L))
  exact List.Perm.refl _)
theorem Hp.drop7 {S : Nat → Prop} {w0 w : World} {L : List Res} {r0 r1 r2 r3 r4 r5 r6 r7 : Res} (h : Hp S w0 w (r0 :: r1 :: r2 :: r3 :: r4 :: r5 :: r6 :: r7 :: L)) : Hp S w0 w (r0 :: r1 :: r2 :: r3 :: r4 :: r5 :: r6 :: L) := h.pick7.tail
theorem Hp.pick8 {S : Nat → Prop} {w0 w : World} {L : List Res} {r0 r1 r2 r3 r4 r5 r6 r7 r8 : Res} (h : Hp S w0 w (r0 :: r1 :: r2 :: r3 :: r4 :: r5 :: r6 :: r7 :: r8 :: L)) : Hp S w0 w (r8 :: r0 :: r1 :: r2 :: r3 :: r4 :: r5 :: r6 :: r7 :: L) := h.perm (by
  refine List.Perm.trans ?_ (List.perm_middle (l₁ := [r0, r1, r2, r3, r4, r5, r6, r7]) (a := r8) (l₂ := L))
  exact List.Perm.refl _)
theorem Hp.drop8 {S : Nat → Prop} {w0 w : World} {L : List Res} {r0 r1 r2 r3 r4 r5 r6 r7 r8 : Res} (h : Hp S w0 w (r0 :: r1 :: r2 :: r3 :: r4 :: r5 :: r6 :: r7 :: r8 :: L)) : Hp S w0 w (r0 :: r1 :: r2 :: r3 :: r4 :: r5 :: r6 :: r7 :: L) := h.pick8.tail
theorem Hp.pick9 {S : Nat → Prop} {w0 w : World} {L : List Res} {r0 r1 r2 r3 r4 r5 r6 r7 r8 r9 : Res} (h : Hp S w0 w (r0 :: r1 :: r2 :: r3 :: r4 :: r5 :: r6 :: r7 :: r8 :: r9 :: L)) : Hp S w0 w (r9 :: r0 :: r1 :: r2 :: r3 :: r4 :: r5 :: r6 :: r7 :: r8 :: L) := h.perm (by
  refine List.Perm.trans ?_ (List.perm_middle (l₁ := [r0, r1, r2, r3, r4, r5, r6, r7, r8]) (a := r9) (l₂ := L))
  exact List.Perm.refl _)
theorem Hp.drop9 {S : Nat → Prop} {w0 w : World} {L : List Res} {r0 r1 r2 r3 r4 r5 r6 r7 r8 r9 : Res} (h : Hp S w0 w (r0 :: r1 :: r2 :: r3 :: r4 :: r5 :: r6 :: r7 :: r8 :: r9 :: L)) : Hp S w0 w (r0 :: r1 :: r2 :: r3 :: r4 :: r5 :: r6 :: r7 :: r8 :: L) := h.pick9.tail
/-- A readable slice stays readable. -/
theorem RdRow.quiet {w w' : World} {v : Value} {sz n : Nat} {xs : List Value} (h : RdRow w v sz n xs) (k : Kp NoB w w') : RdRow w' v sz n xs :=
  Res.stable (.rd v sz n xs) w w' (fun g hg => k.block g (Res.bound (.rd v sz n xs) w h g hg) (fun x => x)) h
theorem RdRow.of_own {w : World} {base : Nat} {e : TypeId} {sz : Nat} {v : Value} {n : Nat} {xs : List Value} (h : w.ownsRow base e sz v n xs) : RdRow w v sz n xs := by
  refine ⟨h.1, ?_⟩
  rcases h.2 with ⟨rfl, rfl⟩ | ⟨g, cap, cur, rfl, hg, hh, hn, hm, hs, ht⟩
  · exact ⟨none, 0, rfl, Nat.le_refl _, Nat.zero_le _, by simp, by simp⟩
  · exact ⟨_, cap, rfl, hn, hm, fun _ => ⟨_, rfl⟩, fun ad ha => by cases ha; exact h.cells (g := g) rfl⟩

theorem add_plain (g i j : Nat) : (⟨g, i, none⟩ : Addr).add j = ⟨g, i + j, none⟩ := by unfold Addr.add; split <;> simp_all
theorem WinRow.rd {w : World} {v : Value} {e : TypeId} {sz n : Nat} {xs : List Value} (h : WinRow w v e sz n xs) : RdRow w v sz n xs := by
  obtain ⟨hl, A, c, hv, h1, h2, h3⟩ := h
  refine ⟨hl, A, c, hv, h1, h2, ?_, ?_⟩
  · intro hn
    rcases h3 with ⟨_, h3⟩ | ⟨g, off, cur, hA, _⟩
    · omega
    · exact ⟨_, hA⟩
  · intro ad hA j u hu
    rcases h3 with ⟨h3, _⟩ | ⟨g, off, cur, hA', hg, hs, ht⟩
    · rw [h3] at hA; cases hA
    · rw [hA'] at hA
      cases hA
      rw [add_plain]
      simp only [World.cell?, hg]
      have hlt := (List.getElem?_eq_some_iff.1 hu).1
      rw [← ht, List.getElem?_take, if_pos (by omega), List.getElem?_drop] at hu
      simpa using hu
/-- Reads xs, in any world that holds L. -/
def Rdb (L : List Res) (v : Value) (sz n : Nat) (xs : List Value) : Prop := ∀ (S : Nat → Prop) (w0 w : World), Hp S w0 w L → RdRow w v sz n xs
theorem rdb_rd {L : List Res} {v : Value} {sz n : Nat} {xs : List Value} (h : Res.rd v sz n xs ∈ L) : Rdb L v sz n xs := fun _ _ _ H => H.at_ _ h
theorem rdb_row {L : List Res} {v : Value} {e : TypeId} {sz n : Nat} {xs : List Value} (h : Res.row v e sz n xs ∈ L) : Rdb L v sz n xs := fun _ _ _ H => RdRow.of_own (H.at_ _ h)
theorem rdb_win {L : List Res} {v : Value} {e : TypeId} {sz n : Nat} {xs : List Value} (h : Res.win v e sz n xs ∈ L) : Rdb L v sz n xs := fun _ _ _ H => WinRow.rd (H.at_ _ h)
theorem Rdb.cons {L : List Res} {r : Res} {v : Value} {sz n : Nat} {xs : List Value} (h : Rdb L v sz n xs) : Rdb (r :: L) v sz n xs := fun S w0 w H => h S w0 w H.tail

/-! ### 3. Frames -/
def get : List (Nat × Value) → Nat → Option Value
  | [], _ => none
  | (k, v) :: r, t => bif Nat.beq k t then some v else get r t
structure Has (n : Nat) (l : List (Nat × Value)) (a : Act) : Prop where
  defers : a.defers = []
  size : a.tmps.size = n
  slot : ∀ t v, get l t = some v → a.tmps[t]? = some v
def evO (l : List (Nat × Value)) : Operand → Option Value
  | .tmp t => get l t
  | .const v => some v
  | .global g => some (.pointer (some ⟨g, 0, none⟩))
  | .func f => some (.func (.func f) #[] #[])
def evOs (l : List (Nat × Value)) : List Operand → Option (List Value)
  | [] => some []
  | x :: r => match evO l x, evOs l r with
    | some v, some vs => some (v :: vs)
    | _, _ => none

section
variable {n : Nat} {l l' : List (Nat × Value)} {a : Act}
theorem Has.eval (h : Has n l a) {x : Operand} {v : Value} (hx : evO l x = some v) : a.eval x = v := by
  cases x with
  | tmp t =>
    have := h.slot t v hx
    simp only [Act.eval]
    rw [Array.getD_eq_getD_getElem?, this]
    rfl
  | const u => simp only [evO, Option.some.injEq] at hx; exact hx
  | global g => simp only [evO, Option.some.injEq] at hx; exact hx
  | func f => simp only [evO, Option.some.injEq] at hx; exact hx
theorem Has.evals (h : Has n l a) : ∀ {xs : List Operand} {vs : List Value}, evOs l xs = some vs → xs.map a.eval = vs
  | [], vs, hx => by simp only [evOs, Option.some.injEq] at hx; subst hx; rfl
  | x :: r, vs, hx => by
    simp only [evOs] at hx
    cases h1 : evO l x with
    | none => rw [h1] at hx; cases hx
    | some v =>
      cases h2 : evOs l r with
      | none => rw [h1, h2] at hx; cases hx
      | some us =>
        rw [h1, h2] at hx
        simp only [Option.some.injEq] at hx
        subst hx
        rw [List.map_cons, h.eval h1, Has.evals h h2]
theorem beq_of {k t : Nat} (h : Nat.beq k t = true) : k = t := Nat.eq_of_beq_eq_true h
theorem Has.put (h : Has n l a) {d : Nat} (hd : Nat.blt d n = true) (v : Value) : Has n ((d, v) :: l) (a.put (some d) v) := by
  have hd' : d < n := by simpa [Nat.blt_eq] using hd
  refine ⟨h.defers, by simp [Act.put, h.size], fun t u hu => ?_⟩
  simp only [Act.put]
  rw [Array.getElem?_setIfInBounds]
  unfold get at hu
  cases hb : Nat.beq d t with
  | true =>
    rw [hb] at hu
    have := beq_of hb
    subst this
    simp only [cond_true, Option.some.injEq] at hu
    subst hu
    rw [if_pos rfl, if_pos (by rw [h.size]; exact hd')]
  | false =>
    rw [hb] at hu
    have hne : d ≠ t := fun e => by subst e; simp [Nat.beq_refl] at hb
    rw [if_neg hne]
    exact h.slot t u hu
theorem Has.put_none (h : Has n l a) (v : Value) : Has n l (a.put none v) := h
/-- Every slot of l' is so in l. -/
def AllIn (l : List (Nat × Value)) : List (Nat × Value) → Prop
  | [] => True
  | p :: r => get l p.1 = some p.2 ∧ AllIn l r
theorem AllIn.get : ∀ {l' : List (Nat × Value)}, AllIn l l' → ∀ t v, SK.get l' t = some v → SK.get l t = some v
  | [], _, t, v, hv => by simp [SK.get] at hv
  | (k, u) :: r, ⟨h1, h2⟩, t, v, hv => by
    unfold SK.get at hv
    cases hb : Nat.beq k t with
    | true =>
      rw [hb] at hv
      have := beq_of hb
      subst this
      simp only [cond_true, Option.some.injEq] at hv
      subst hv
      exact h1
    | false => rw [hb] at hv; exact h2.get t v hv
theorem Has.weak (h : Has n l a) (hw : AllIn l l') : Has n l' a := ⟨h.defers, h.size, fun t v hv => h.slot t v (hw.get t v hv)⟩
def initL : Nat → List Value → List (Nat × Value)
  | _, [] => []
  | k, v :: r => (k, v) :: initL (k + 1) r
theorem get_initL : ∀ (vs : List Value) (k t : Nat) (v : Value), get (initL k vs) t = some v → k ≤ t ∧ vs[t - k]? = some v
  | [], k, t, v, h => by simp [initL, get] at h
  | u :: r, k, t, v, h => by
    simp only [initL, get] at h
    cases hb : Nat.beq k t with
    | true =>
      rw [hb] at h
      have := beq_of hb
      subst this
      simp only [cond_true, Option.some.injEq] at h
      subst h
      simp
    | false =>
      rw [hb] at h
      have hne : k ≠ t := fun e => by subst e; simp [Nat.beq_refl] at hb
      obtain ⟨h1, h2⟩ := get_initL r (k + 1) t v h
      refine ⟨by omega, ?_⟩
      rw [show t - k = (t - (k + 1)) + 1 by omega]
      exact h2
theorem Has.init (vs : List Value) (n : Nat) (hn : Nat.ble vs.length n = true) : Has n (initL 0 vs) { tmps := vs.toArray ++ Array.replicate (n - vs.toArray.size) undef, defers := [] } := by
  have hn' : vs.length ≤ n := by simpa using hn
  refine ⟨rfl, by simp; omega, fun t v h => ?_⟩
  obtain ⟨_, h2⟩ := get_initL vs 0 t v h
  simp only [Nat.sub_zero] at h2
  have hlt : t < vs.length := (List.getElem?_eq_some_iff.1 h2).1
  rw [Array.getElem?_append_left (by simpa using hlt)]
  simpa using h2
end
end Go.SK

set_option linter.unusedVariables false
set_option linter.unusedSimpArgs false
namespace Go.SK
open Go Go.RowKit
abbrev FrL := List (Nat × Value)

/-! ### Judgements -/
def TC (P : Program) (c : Code) (Q : Exit → Act → World → Prop) (n : Nat) (l : FrL) (S : Nat → Prop) (w0 : World) (L : List Res) : Prop := ∀ a w, Has n l a → Hp S w0 w L → c.wp P Q a w
def TL (P : Program) (ops : Array Oper) (Q : Exit → Act → World → Prop) (rest : List Oper) (n : Nat) (l : FrL) (S : Nat → Prop) (w0 : World) (L : List Res) : Prop := ∀ a w, Has n l a → Hp S w0 w L → wpList P ops Q rest a w
def TQ (Q : Exit → Act → World → Prop) (e : Exit) (n : Nat) (l : FrL) (S : Nat → Prop) (w0 : World) (L : List Res) : Prop := ∀ a w, Has n l a → Hp S w0 w L → Q e a w

section
variable {P : Program} {Q : Exit → Act → World → Prop} {n : Nat} {l l' : FrL} {S : Nat → Prop} {w0 : World} {L L' : List Res}

theorem TC.weak {c : Code} (hw : AllIn l l') (h : TC P c Q n l' S w0 L) : TC P c Q n l S w0 L := fun a w ha hp => h a w (ha.weak hw) hp
theorem TQ.weak {e : Exit} (hw : AllIn l l') (h : TQ Q e n l' S w0 L) : TQ Q e n l S w0 L := fun a w ha hp => h a w (ha.weak hw) hp
theorem TC.hp {c : Code} (hw : ∀ w, Hp S w0 w L → Hp S w0 w L') (h : TC P c Q n l S w0 L') : TC P c Q n l S w0 L := fun a w ha hp => h a w ha (hw w hp)
theorem TL.hp {ops : Array Oper} {rest : List Oper} (hw : ∀ w, Hp S w0 w L → Hp S w0 w L') (h : TL P ops Q rest n l S w0 L') : TL P ops Q rest n l S w0 L := fun a w ha hp => h a w ha (hw w hp)
theorem TQ.hp {e : Exit} (hw : ∀ w, Hp S w0 w L → Hp S w0 w L') (h : TQ Q e n l S w0 L') : TQ Q e n l S w0 L := fun a w ha hp => h a w ha (hw w hp)

theorem TC.seq {x y : Code} (h : TC P x (Exit.then (y.wp P Q) Q) n l S w0 L) : TC P (x.seq y) Q n l S w0 L := fun a w ha hp => wp_seq (h a w ha hp)
theorem TC.skip (h : TQ Q .normal n l S w0 L) : TC P .skip Q n l S w0 L := fun a w ha hp => wp_skip (h a w ha hp)
theorem TC.ret (h : TQ Q .ret n l S w0 L) : TC P .ret Q n l S w0 L := fun a w ha hp => wp_ret (h a w ha hp)
theorem TC.exit {id : Nat} (h : TQ Q (.exit id) n l S w0 L) : TC P (.exit id) Q n l S w0 L := fun a w ha hp => wp_exit (h a w ha hp)
theorem TC.block {id : Nat} {c : Code} (h : TC P c (Exit.inBlock id Q) n l S w0 L) : TC P (.block id c) Q n l S w0 L := fun a w ha hp => wp_block (h a w ha hp)
theorem TC.region {id : Nat} {ops : List Oper} (h : TL P ops.toArray Q ops n l S w0 L) : TC P (.region id ops.toArray false) Q n l S w0 L := fun a w ha hp => wp_region_lit (h a w ha hp)
theorem TC.cond {c : Operand} {x y : Code} {b : Bool} (hc : evO l c = some (.bool b)) (ht : b = true → TC P x Q n l S w0 L) (hf : b = false → TC P y Q n l S w0 L) : TC P (.cond c x y) Q n l S w0 L := fun a w ha hp =>
  wp_cond_split (ha.eval hc) (fun h => ht h a w ha hp) (fun h => hf h a w ha hp)
theorem TC.condT {c : Operand} {x y : Code} (hc : evO l c = some (.bool true)) (ht : TC P x Q n l S w0 L) : TC P (.cond c x y) Q n l S w0 L := TC.cond hc (fun _ => ht) (fun h => by cases h)
theorem TC.condF {c : Operand} {x y : Code} (hc : evO l c = some (.bool false)) (hf : TC P y Q n l S w0 L) : TC P (.cond c x y) Q n l S w0 L := TC.cond hc (fun h => by cases h) (fun _ => hf)
/-- A test, both ways; the slot holds what is known then. -/
theorem TC.condD {t : Nat} {x y : Code} {p : Prop} [Decidable p] (hc : evO l (.tmp t) = some (.bool (decide p))) (ht : p → TC P x Q n ((t, .bool true) :: l) S w0 L) (hf : ¬ p → TC P y Q n ((t, .bool false) :: l) S w0 L) : TC P (.cond (.tmp t) x y) Q n l S w0 L := by
  have gs : ∀ (b : Bool) (a : Act), decide p = b → Has n l a → Has n ((t, .bool b) :: l) a := fun b a hb ha => ⟨ha.defers, ha.size, fun s v hv => by
    unfold get at hv
    cases hq : Nat.beq t s with
    | true =>
      rw [hq] at hv
      have := beq_of hq
      subst this
      simp only [cond_true, Option.some.injEq] at hv
      subst hv
      rw [← hb]
      exact ha.slot t _ hc
    | false => rw [hq] at hv; exact ha.slot s v hv⟩
  refine TC.cond hc (fun h a w ha hp => ht (of_decide_eq_true h) a w (gs true a h ha) hp) (fun h a w ha hp => hf (of_decide_eq_false h) a w (gs false a h ha) hp)

theorem TQ.then {c : Code} (h : TC P c Q n l S w0 L) : TQ (Exit.then (c.wp P Q) Q) .normal n l S w0 L := h
theorem TQ.then_ret {K : Act → World → Prop} (h : TQ Q .ret n l S w0 L) : TQ (Exit.then K Q) .ret n l S w0 L := h
theorem TQ.then_exit {K : Act → World → Prop} {id : Nat} (h : TQ Q (.exit id) n l S w0 L) : TQ (Exit.then K Q) (.exit id) n l S w0 L := h
theorem TQ.block_normal {id : Nat} (h : TQ Q .normal n l S w0 L) : TQ (Exit.inBlock id Q) .normal n l S w0 L := h
theorem TQ.block_ret {id : Nat} (h : TQ Q .ret n l S w0 L) : TQ (Exit.inBlock id Q) .ret n l S w0 L := h
theorem TQ.block_hit {id : Nat} (h : TQ Q .normal n l S w0 L) : TQ (Exit.inBlock id Q) (.exit id) n l S w0 L := fun a w ha hp => by
  simp only [Exit.inBlock, if_true]; exact h a w ha hp
theorem TQ.block_miss {id id' : Nat} (hne : Nat.beq id' id = false) (h : TQ Q (.exit id') n l S w0 L) : TQ (Exit.inBlock id Q) (.exit id') n l S w0 L := fun a w ha hp => by
  have : id' ≠ id := fun e => by subst e; simp [Nat.beq_refl] at hne
  simp only [Exit.inBlock, if_neg this]; exact h a w ha hp

/-- A loop: at each head a state i, of which f tells the slots, H the heap, I what is known; m goes down. -/
def LoopEnd {ι : Type} (f : ι → FrL) (H : ι → List Res) (I : ι → Prop) (m : ι → Nat) (i : ι) (n : Nat) (S : Nat → Prop) (w0 : World) (Q : Exit → Act → World → Prop) : Exit → Act → World → Prop :=
  Exit.then (fun a w => ∃ j, I j ∧ m j < m i ∧ Has n (f j) a ∧ Hp S w0 w (H j)) Q
theorem TC.loop {ι : Type} (f : ι → FrL) (H : ι → List Res) (I : ι → Prop) (m : ι → Nat) (i0 : ι) {c : Code} (h0 : I i0) (hl : AllIn l (f i0)) (hL : ∀ w, Hp S w0 w L → Hp S w0 w (H i0))
    (hr : ∀ i, I i → TC P c (LoopEnd f H I m i n S w0 Q) n (f i) S w0 (H i)) : TC P (.loop c) Q n l S w0 L := by
  intro a w ha hp
  have key : ∀ (k : Nat) (i : ι), m i = k → I i → ∀ (a : Act) (w : World), Has n (f i) a → Hp S w0 w (H i) → (Code.loop c).wp P Q a w := by
    intro k
    induction k using Nat.strongRecOn with
    | _ k ih =>
      intro i hk hI a w ha hp
      refine wp_loop (fun a' w' => ∃ j, I j ∧ Has n (f j) a' ∧ Hp S w0 w' (H j) ∧ m j ≤ m i) (fun a' w' => (Classical.epsilon fun (q : Nat) => ∃ j, I j ∧ Has n (f j) a' ∧ Hp S w0 w' (H j) ∧ m j = q ∧ ∀ q', (∃ j', I j' ∧ Has n (f j') a' ∧ Hp S w0 w' (H j') ∧ m j' = q') → q ≤ q')) ⟨i, hI, ha, hp, Nat.le_refl _⟩ ?_
      intro a1 w1 h1
      -- the least measure among the states that fit
      have hex : ∀ (a1 : Act) (w1 : World), (∃ j, I j ∧ Has n (f j) a1 ∧ Hp S w0 w1 (H j)) → ∃ q, (∃ j, I j ∧ Has n (f j) a1 ∧ Hp S w0 w1 (H j) ∧ m j = q ∧ ∀ q', (∃ j', I j' ∧ Has n (f j') a1 ∧ Hp S w0 w1 (H j') ∧ m j' = q') → q ≤ q') := by
        intro a1 w1 ⟨j, hj1, hj2, hj3⟩
        have : ∀ (k : Nat) (j : ι), m j = k → I j → Has n (f j) a1 → Hp S w0 w1 (H j) → ∃ q, (∃ j, I j ∧ Has n (f j) a1 ∧ Hp S w0 w1 (H j) ∧ m j = q ∧ ∀ q', (∃ j', I j' ∧ Has n (f j') a1 ∧ Hp S w0 w1 (H j') ∧ m j' = q') → q ≤ q') := by
          intro k
          induction k using Nat.strongRecOn with
          | _ k ih2 =>
            intro j hk h1 h2 h3
            by_cases hmin : ∀ q', (∃ j', I j' ∧ Has n (f j') a1 ∧ Hp S w0 w1 (H j') ∧ m j' = q') → m j ≤ q'
            · exact ⟨m j, j, h1, h2, h3, rfl, hmin⟩
            · simp only [Classical.not_forall, not_imp] at hmin
              obtain ⟨q', ⟨j', h1', h2', h3', hq'⟩, hlt⟩ := hmin
              exact ih2 q' (by omega) j' hq' h1' h2' h3'
        exact this (m j) j rfl hj1 hj2 hj3
      obtain ⟨j0, hj0, hj1, hj2, hj3⟩ := h1
      have hsp := Classical.epsilon_spec (hex a1 w1 ⟨j0, hj0, hj1, hj2⟩)
      obtain ⟨j, hI1, ha1, hp1, hq, hmin⟩ := hsp
      refine Code.wp_mono ?_ (hr j hI1 a1 w1 ha1 hp1)
      intro e a2 w2 he
      cases e with
      | normal =>
        obtain ⟨j2, g1, g2, g3, g4⟩ := he
        have hsp2 := Classical.epsilon_spec (hex a2 w2 ⟨j2, g1, g3, g4⟩)
        obtain ⟨j3, k1, k2, k3, k4, k5⟩ := hsp2
        have hle := k5 (m j2) ⟨j2, g1, g3, g4, rfl⟩
        have hle1 := hmin (m j0) ⟨j0, hj0, hj1, hj2, rfl⟩
        exact ⟨⟨j2, g1, g3, g4, by omega⟩, by omega⟩
      | _ => exact he
  exact key (m i0) i0 rfl h0 a w (ha.weak hl) (hL w hp)
/-- The end of a round. -/
theorem TQ.round {ι : Type} {f : ι → FrL} {H : ι → List Res} {I : ι → Prop} {m : ι → Nat} {i : ι} (j : ι) (hj : I j) (hm : m j < m i) (hl : AllIn l (f j)) (hL : ∀ w, Hp S w0 w L → Hp S w0 w (H j)) : TQ (LoopEnd f H I m i n S w0 Q) .normal n l S w0 L :=
  fun a w ha hp => ⟨j, hj, hm, ha.weak hl, hL w hp⟩
theorem TQ.loop_ret {ι : Type} {f : ι → FrL} {H : ι → List Res} {I : ι → Prop} {m : ι → Nat} {i : ι} (h : TQ Q .ret n l S w0 L) : TQ (LoopEnd f H I m i n S w0 Q) .ret n l S w0 L := h
theorem TQ.loop_exit {ι : Type} {f : ι → FrL} {H : ι → List Res} {I : ι → Prop} {m : ι → Nat} {i : ι} {id : Nat} (h : TQ Q (.exit id) n l S w0 L) : TQ (LoopEnd f H I m i n S w0 Q) (.exit id) n l S w0 L := h

/-! ### A call's beginning and end -/
theorem calls_start {f : FuncId} {fn : Func} {c : Code} {vs : List Value} {w : World} {R : Ending → World → Prop} (hf : P.funcs[f]? = some fn) (hb : fn.body = some c) (hn : fn.ntmps = n) (hle : Nat.ble vs.length n = true) (H : Hp S w0 w L)
    (h : TC P c (bodyPost P fn R) n (initL 0 vs) S w0 L) : Calls P f vs.toArray w R := by
  refine calls_of_wp hf hb (h _ w ?_ H)
  rw [hn]
  exact Has.init vs n hle
theorem ret0 {fn : Func} {R : Ending → World → Prop} (hr : fn.results = #[]) (h : ∀ w, Hp S w0 w L → R (.returned (.tuple #[])) w) : TQ (bodyPost P fn R) .ret n l S w0 L := fun a w ha hp =>
  bodyPost_ret (results_none hr _ _ _) ha.defers (h w hp)
theorem end0 {fn : Func} {R : Ending → World → Prop} (hr : fn.results = #[]) (h : ∀ w, Hp S w0 w L → R (.returned (.tuple #[])) w) : TQ (bodyPost P fn R) .normal n l S w0 L := fun a w ha hp =>
  bodyPost_end (results_none hr _ _ _) ha.defers (h w hp)
theorem Has.getD {a : Act} (ha : Has n l a) {t : Nat} {v : Value} (h : get l t = some v) : a.tmps.getD t undef = v := by
  rw [Array.getD_eq_getD_getElem?, ha.slot t v h]; rfl
theorem ret1 {fn : Func} {R : Ending → World → Prop} {t : Nat} {v : Value} (hr : fn.results = #[.tmp t]) (ht : get l t = some v) (h : ∀ w, Hp S w0 w L → R (.returned v) w) : TQ (bodyPost P fn R) .ret n l S w0 L := fun a w ha hp =>
  bodyPost_ret (by rw [results_tmp hr, ha.getD ht]) ha.defers (h w hp)
theorem ret2 {fn : Func} {R : Ending → World → Prop} {t u : Nat} {v x : Value} (hr : fn.results = #[.tmp t, .tmp u]) (ht : get l t = some v) (hu : get l u = some x) (h : ∀ w, Hp S w0 w L → R (.returned (.tuple #[v, x])) w) : TQ (bodyPost P fn R) .ret n l S w0 L := fun a w ha hp =>
  bodyPost_ret (by rw [results_tmp2 hr, ha.getD ht, ha.getD hu]) ha.defers (h w hp)
theorem ret3 {fn : Func} {R : Ending → World → Prop} {t u s : Nat} {v x y : Value} (hr : fn.results = #[.tmp t, .tmp u, .tmp s]) (ht : get l t = some v) (hu : get l u = some x) (hs : get l s = some y) (h : ∀ w, Hp S w0 w L → R (.returned (.tuple #[v, x, y])) w) : TQ (bodyPost P fn R) .ret n l S w0 L := fun a w ha hp =>
  bodyPost_ret (by simp [results, hr, ha.slot t _ ht, ha.slot u _ hu, ha.slot s _ hs]) ha.defers (h w hp)
theorem ret4 {fn : Func} {R : Ending → World → Prop} {t u s r : Nat} {v x y z : Value} (hr : fn.results = #[.tmp t, .tmp u, .tmp s, .tmp r]) (ht : get l t = some v) (hu : get l u = some x) (hs : get l s = some y) (hz : get l r = some z) (h : ∀ w, Hp S w0 w L → R (.returned (.tuple #[v, x, y, z])) w) : TQ (bodyPost P fn R) .ret n l S w0 L := fun a w ha hp =>
  bodyPost_ret (by simp [results, hr, ha.slot t _ ht, ha.slot u _ hu, ha.slot s _ hs, ha.slot r _ hz]) ha.defers (h w hp)

/-! ### Operations that leave the world alone -/
def OpP (P : Program) (n : Nat) (l : FrL) (o : Oper) (v : Value) : Prop := ∀ a w, Has n l a → (execOp a.eval o).run P w = .ok (.value v) w
def OpV (P : Program) (n : Nat) (l : FrL) (S : Nat → Prop) (w0 : World) (L : List Res) (o : Oper) (v : Value) : Prop := ∀ a w, Has n l a → Hp S w0 w L → (execOp a.eval o).run P w = .ok (.value v) w
theorem OpP.toV {o : Oper} {v : Value} (h : OpP P n l o v) : OpV P n l S w0 L o v := fun a w ha _ => h a w ha

variable {ops : Array Oper} {rest : List Oper} {d : Nat} {op : Op} {ty : TypeId} {pos : String} {af : Array Edge} {v : Value}
theorem TL.nil (h : TQ Q .normal n l S w0 L) : TL P ops Q [] n l S w0 L := fun a w ha hp => wpList_nil (h a w ha hp)
theorem TL.opV (hlt : Nat.blt d n = true) (ho : OpV P n l S w0 L ⟨some d, op, ty, pos, af, none⟩ v) (h : TL P ops Q rest n ((d, v) :: l) S w0 L) : TL P ops Q (⟨some d, op, ty, pos, af, none⟩ :: rest) n l S w0 L := fun a w ha hp =>
  wpList_plain rfl fun K hK => by
    unfold Oper.wp
    rw [ho a w ha hp, Oper.upon_value]
    exact hK _ _ (h _ w (ha.put hlt v) hp)
theorem TL.opP (hlt : Nat.blt d n = true) (ho : OpP P n l ⟨some d, op, ty, pos, af, none⟩ v) (h : TL P ops Q rest n ((d, v) :: l) S w0 L) : TL P ops Q (⟨some d, op, ty, pos, af, none⟩ :: rest) n l S w0 L := TL.opV hlt ho.toV h

/-- A guarded operation: its guard has come out as wanted. -/
theorem TL.gT {dst : Option Tmp} {j dj : Nat} {b : Bool} (hj : (ops[j]?).bind (·.dst) = some dj) (hv : get l dj = some (.bool b)) (h : TL P ops Q (⟨dst, op, ty, pos, af, none⟩ :: rest) n l S w0 L) : TL P ops Q (⟨dst, op, ty, pos, af, some (j, b)⟩ :: rest) n l S w0 L := fun a w ha hp => by
  have h1 := h a w ha hp
  have hy : yielded ops a.tmps j = some b := by simp [yielded, hj, ha.slot dj _ hv]
  unfold wpList at h1 ⊢
  rw [if_pos (by simp [Region.wanted])] at h1
  rw [if_pos (by simp [Region.wanted, hy])]
  exact h1
theorem TL.gN {j dj : Nat} {b : Bool} {u : Value} (hlt : Nat.blt d n = true) (hj : (ops[j]?).bind (·.dst) = some dj) (hv : get l dj = some u) (hne : u ≠ .bool b) (h : TL P ops Q rest n ((d, undef) :: l) S w0 L) : TL P ops Q (⟨some d, op, ty, pos, af, some (j, b)⟩ :: rest) n l S w0 L := fun a w ha hp => by
  have h1 := h _ w (ha.put hlt undef) hp
  have hy : yielded ops a.tmps j ≠ some b := by
    simp only [yielded, hj, Option.bind_some, ha.slot dj _ hv]
    cases u <;> simp_all
  unfold wpList
  rw [if_neg (by simpa [Region.wanted] using hy)]
  exact h1
theorem TL.gF {j dj : Nat} {b b' : Bool} (hlt : Nat.blt d n = true) (hj : (ops[j]?).bind (·.dst) = some dj) (hv : get l dj = some (.bool b')) (hne : (b' == b) = false) (h : TL P ops Q rest n ((d, undef) :: l) S w0 L) : TL P ops Q (⟨some d, op, ty, pos, af, some (j, b)⟩ :: rest) n l S w0 L :=
  TL.gN hlt hj hv (by intro e; injection e with e; subst e; simp at hne) h
theorem TL.gFt {j dj : Nat} (hlt : Nat.blt d n = true) (hj : (ops[j]?).bind (·.dst) = some dj) (hv : get l dj = some (.bool true)) (h : TL P ops Q rest n ((d, undef) :: l) S w0 L) : TL P ops Q (⟨some d, op, ty, pos, af, some (j, false)⟩ :: rest) n l S w0 L := TL.gF hlt hj hv rfl h
theorem TL.gFf {j dj : Nat} (hlt : Nat.blt d n = true) (hj : (ops[j]?).bind (·.dst) = some dj) (hv : get l dj = some (.bool false)) (h : TL P ops Q rest n ((d, undef) :: l) S w0 L) : TL P ops Q (⟨some d, op, ty, pos, af, some (j, true)⟩ :: rest) n l S w0 L := TL.gF hlt hj hv rfl h
theorem TL.gU {j dj : Nat} {b : Bool} (hlt : Nat.blt d n = true) (hj : (ops[j]?).bind (·.dst) = some dj) (hv : get l dj = some undef) (h : TL P ops Q rest n ((d, undef) :: l) S w0 L) : TL P ops Q (⟨some d, op, ty, pos, af, some (j, b)⟩ :: rest) n l S w0 L :=
  TL.gN hlt hj hv (by intro e; cases e) h
end

/-! ### Facts on types -/
structure TScal (P : Program) (t : TypeId) : Prop where
  agg : ∀ w, (isAgg t).run P w = .ok false w
  size : ∀ w, (sizeOf t).run P w = .ok 1 w
structure TStruct (P : Program) (t k : Nat) : Prop where
  agg : ∀ w, (isAgg t).run P w = .ok true w
  size : ∀ w, (sizeOf t).run P w = .ok k w
structure TSlice (P : Program) (t e k bytes : Nat) (z : Value) : Prop where
  und : P.underlying t = some (.slice e)
  info : (P.info? e).map (fun i => (i.zero, i.size, i.bytes)) = some (some z, k, bytes)
  zc : z.cells.size = k
def TField (P : Program) (T f off : Nat) : Prop := ∀ (ad : Addr) (w : World), (Instr.fieldAt T (.pointer (some ad)) f).run P w = .ok (.pointer (some (ad.add off))) w
def TZero (P : Program) (t : Nat) (z : Value) : Prop := ∀ w, (zeroValue t).run P w = .ok z w
theorem TSlice.sizeE {P : Program} {t e k bytes : Nat} {z : Value} (h : TSlice P t e k bytes z) (w : World) : (sizeOf e).run P w = .ok k w := by
  obtain ⟨i0, hi, hzz⟩ := Option.map_eq_some_iff.1 h.info
  simp only [Prod.mk.injEq] at hzz
  obtain ⟨_, hz1, _⟩ := hzz
  simp [sizeOf, typeInfo, hi, hz1]

theorem add_of_add (a : Addr) (i j : Nat) : (a.add i).add j = a.add (i + j) := by
  unfold Addr.add
  by_cases hi : i = 0 <;> by_cases hj : j = 0 <;> simp [hi, hj, Nat.add_assoc]
theorem add_lit (g i j : Nat) : (⟨g, i, none⟩ : Addr).add j = ⟨g, i + j, none⟩ := by unfold Addr.add; split <;> simp_all
def Value.adr : Value → Addr
  | .slice (some a) _ _ => a
  | _ => default

section
variable {P : Program} {n : Nat} {l : FrL} {S : Nat → Prop} {w0 : World} {L : List Res} {dst : Option Tmp} {ty : TypeId} {pos : String} {af : Array Edge} {gd : Option (Nat × Bool)} {x y c : Operand} {v u : Value}
theorem op_move (hx : evO l x = some v) : OpP P n l ⟨dst, .move x, ty, pos, af, gd⟩ v := fun a w ha => by simp [execOp, ha.eval hx]
theorem op_assign (hx : evO l x = some v) : OpP P n l ⟨dst, .assign x, ty, pos, af, gd⟩ v := fun a w ha => by simp [execOp, ha.eval hx]
theorem op_pickT (hc : evO l c = some (.bool true)) (hx : evO l x = some v) : OpP P n l ⟨dst, .pick c x y, ty, pos, af, gd⟩ v := fun a w ha => by simp [execOp, ha.eval hx, ha.eval hc, asBool]
theorem op_pickF (hc : evO l c = some (.bool false)) (hy : evO l y = some v) : OpP P n l ⟨dst, .pick c x y, ty, pos, af, gd⟩ v := fun a w ha => by simp [execOp, ha.eval hy, ha.eval hc, asBool]
theorem op_not {b b' : Bool} {t : TypeId} (hx : evO l x = some (.bool b)) (hb : (!b) = b') : OpP P n l ⟨dst, .unOp .not t x, ty, pos, af, gd⟩ (.bool b') := fun a w ha => by subst hb; simp [execOp, ha.eval hx, Op.unary]
theorem op_neg {a : Int} {k : IntKind} {t : TypeId} (hx : evO l x = some (.int k a)) : OpP P n l ⟨dst, .unOp .neg t x, ty, pos, af, gd⟩ (.int k (k.wrap (0 - a))) := fun a w ha => by simp [execOp, ha.eval hx, Op.unary, Op.intArith]
theorem i64_id {r : Int} (h1 : -9223372036854775808 ≤ r) (h2 : r ≤ 9223372036854775807) : IntKind.i64.wrap r = r := by
  rw [IntKind.wrap_i64]
  omega
section
variable {k : IntKind} {a b r : Int} {t t' : TypeId}
theorem op_addK (hx : evO l x = some (.int k a)) (hy : evO l y = some (.int k b)) : OpP P n l ⟨dst, .binOp .add t x y t', ty, pos, af, gd⟩ (.int k (k.wrap (a + b))) := fun a w ha => by simp [execOp, ha.eval hx, ha.eval hy, eqGuard, binOp, Op.intArith]
theorem op_subK (hx : evO l x = some (.int k a)) (hy : evO l y = some (.int k b)) : OpP P n l ⟨dst, .binOp .sub t x y t', ty, pos, af, gd⟩ (.int k (k.wrap (a - b))) := fun a w ha => by simp [execOp, ha.eval hx, ha.eval hy, eqGuard, binOp, Op.intArith]
theorem op_mulK (hx : evO l x = some (.int k a)) (hy : evO l y = some (.int k b)) : OpP P n l ⟨dst, .binOp .mul t x y t', ty, pos, af, gd⟩ (.int k (k.wrap (a * b))) := fun a w ha => by simp [execOp, ha.eval hx, ha.eval hy, eqGuard, binOp, Op.intArith]
theorem op_add (hx : evO l x = some (.int .i64 a)) (hy : evO l y = some (.int .i64 b)) (hr : a + b = r) (h1 : -9223372036854775808 ≤ r) (h2 : r ≤ 9223372036854775807) : OpP P n l ⟨dst, .binOp .add t x y t', ty, pos, af, gd⟩ (.int .i64 r) := by
  have := op_addK (P := P) (n := n) (dst := dst) (ty := ty) (pos := pos) (af := af) (gd := gd) (t := t) (t' := t') hx hy
  rw [hr, i64_id h1 h2] at this; exact this
theorem op_sub (hx : evO l x = some (.int .i64 a)) (hy : evO l y = some (.int .i64 b)) (hr : a - b = r) (h1 : -9223372036854775808 ≤ r) (h2 : r ≤ 9223372036854775807) : OpP P n l ⟨dst, .binOp .sub t x y t', ty, pos, af, gd⟩ (.int .i64 r) := by
  have := op_subK (P := P) (n := n) (dst := dst) (ty := ty) (pos := pos) (af := af) (gd := gd) (t := t) (t' := t') hx hy
  rw [hr, i64_id h1 h2] at this; exact this
theorem op_mul (hx : evO l x = some (.int .i64 a)) (hy : evO l y = some (.int .i64 b)) (hr : a * b = r) (h1 : -9223372036854775808 ≤ r) (h2 : r ≤ 9223372036854775807) : OpP P n l ⟨dst, .binOp .mul t x y t', ty, pos, af, gd⟩ (.int .i64 r) := by
  have := op_mulK (P := P) (n := n) (dst := dst) (ty := ty) (pos := pos) (af := af) (gd := gd) (t := t) (t' := t') hx hy
  rw [hr, i64_id h1 h2] at this; exact this
theorem op_eql (hx : evO l x = some (.int k a)) (hy : evO l y = some (.int k b)) : OpP P n l ⟨dst, .binOp .eql t x y t', ty, pos, af, gd⟩ (.bool (decide (a = b))) := fun a w ha => by simp [execOp, ha.eval hx, ha.eval hy, eqGuard, binOp, Op.intCmp]; rfl
theorem op_neq (hx : evO l x = some (.int k a)) (hy : evO l y = some (.int k b)) : OpP P n l ⟨dst, .binOp .neq t x y t', ty, pos, af, gd⟩ (.bool (decide (a ≠ b))) := fun q w ha => by
  have : (a != b) = decide (a ≠ b) := by by_cases h : a = b <;> simp [h]
  simp [execOp, ha.eval hx, ha.eval hy, eqGuard, binOp, Op.intCmp, this]
theorem op_lss (hx : evO l x = some (.int k a)) (hy : evO l y = some (.int k b)) : OpP P n l ⟨dst, .binOp .lss t x y t', ty, pos, af, gd⟩ (.bool (decide (a < b))) := fun a w ha => by simp [execOp, ha.eval hx, ha.eval hy, eqGuard, binOp, Op.intCmp]
theorem op_leq (hx : evO l x = some (.int k a)) (hy : evO l y = some (.int k b)) : OpP P n l ⟨dst, .binOp .leq t x y t', ty, pos, af, gd⟩ (.bool (decide (a ≤ b))) := fun a w ha => by simp [execOp, ha.eval hx, ha.eval hy, eqGuard, binOp, Op.intCmp]
theorem op_gtr (hx : evO l x = some (.int k a)) (hy : evO l y = some (.int k b)) : OpP P n l ⟨dst, .binOp .gtr t x y t', ty, pos, af, gd⟩ (.bool (decide (b < a))) := fun a w ha => by simp [execOp, ha.eval hx, ha.eval hy, eqGuard, binOp, Op.intCmp]
theorem op_geq (hx : evO l x = some (.int k a)) (hy : evO l y = some (.int k b)) : OpP P n l ⟨dst, .binOp .geq t x y t', ty, pos, af, gd⟩ (.bool (decide (b ≤ a))) := fun a w ha => by simp [execOp, ha.eval hx, ha.eval hy, eqGuard, binOp, Op.intCmp]
theorem op_min {as : Array Operand} {ts : Array TypeId} (has : evOs l as.toList = some [.int k a, .int k b]) : OpP P n l ⟨dst, .call { callee := .builtin .min, args := as, argTypes := ts }, ty, pos, af, gd⟩ (.int k (if b < a then b else a)) := fun q w ha => by
  have := ha.evals has
  have h2 : as.map q.eval = #[.int k a, .int k b] := by apply Array.ext'; simpa using this
  simp [execOp, resolve, h2, invoke, builtin, Builtin.min_, Builtin.min2]
theorem op_max {as : Array Operand} {ts : Array TypeId} (has : evOs l as.toList = some [.int k a, .int k b]) : OpP P n l ⟨dst, .call { callee := .builtin .max, args := as, argTypes := ts }, ty, pos, af, gd⟩ (.int k (if b > a then b else a)) := fun q w ha => by
  have := ha.evals has
  have h2 : as.map q.eval = #[.int k a, .int k b] := by apply Array.ext'; simpa using this
  simp [execOp, resolve, h2, invoke, builtin, Builtin.max_, Builtin.max2]
theorem op_int {src d' : TypeId} {k' : IntKind} (hd : P.underlying d' = some (.int k')) (hs : (P.underlying src).isSome = true) (hx : evO l x = some (.int k a)) : OpP P n l ⟨dst, .convert src d' x, ty, pos, af, gd⟩ (.int k' (k'.wrap a)) := fun q w ha => by
  obtain ⟨u, hu⟩ := Option.isSome_iff_exists.1 hs
  simp [execOp, ha.eval hx, convert, run_underlying hu, run_underlying hd, Conv.intToInt]
end
theorem toList_inj (s t : ByteArray) (h : s.toList = t.toList) : s = t := by
  rw [ByteArray.toList_eq, ByteArray.toList_eq] at h
  cases s; cases t
  simp only at h
  congr 1
  exact Array.ext' h
theorem str_eq (s t : ByteArray) : (s.toList == t.toList) = decide (s = t) := by
  by_cases h : s = t
  · subst h; simp
  · have : s.toList ≠ t.toList := fun e => h (toList_inj s t e)
    simp [h, this]
section
variable {s r : ByteArray} {t t' : TypeId}
theorem op_seql (hx : evO l x = some (.string s)) (hy : evO l y = some (.string r)) : OpP P n l ⟨dst, .binOp .eql t x y t', ty, pos, af, gd⟩ (.bool (decide (s = r))) := fun a w ha => by
  simp [execOp, ha.eval hx, ha.eval hy, eqGuard, binOp_string_eql, str_eq]
theorem op_sneq (hx : evO l x = some (.string s)) (hy : evO l y = some (.string r)) : OpP P n l ⟨dst, .binOp .neq t x y t', ty, pos, af, gd⟩ (.bool (decide (s ≠ r))) := fun a w ha => by
  simp [execOp, ha.eval hx, ha.eval hy, eqGuard, binOp_string_neq, str_eq]
theorem op_sadd (hx : evO l x = some (.string s)) (hy : evO l y = some (.string r)) (hs : s.size + r.size ≤ 9223372036854775807) : OpP P n l ⟨dst, .binOp .add t x y t', ty, pos, af, gd⟩ (.string (s ++ r)) := fun a w ha => by
  simp [execOp, ha.eval hx, ha.eval hy, eqGuard, binOp_string_add, run_string_add_sum w s r hs]
theorem op_slen {as : Array Operand} {ts : Array TypeId} (hts : ts[0]? = some t) (ht : P.underlying t = some .string) (has : evOs l as.toList = some [.string s]) : OpP P n l ⟨dst, .call { callee := .builtin .len, args := as, argTypes := ts }, ty, pos, af, gd⟩ (.int .i64 s.size) := fun q w ha => by
  have := ha.evals has
  have h2 : as.map q.eval = #[.string s] := by apply Array.ext'; simpa using this
  simp [execOp, resolve, h2, invoke, builtin, Builtin.len_, hts, run_underlying ht, goInt]
end
theorem op_len {as : Array Operand} {ts : Array TypeId} {t e : TypeId} {A : Option Addr} {k cap : Nat} (hts : ts[0]? = some t) (ht : P.underlying t = some (.slice e)) (has : evOs l as.toList = some [.slice A k cap]) : OpP P n l ⟨dst, .call { callee := .builtin .len, args := as, argTypes := ts }, ty, pos, af, gd⟩ (.int .i64 k) := fun q w ha => by
  have := ha.evals has
  have h2 : as.map q.eval = #[.slice A k cap] := by apply Array.ext'; simpa using this
  simp [execOp, resolve, h2, invoke, builtin, Builtin.len_, hts, run_underlying ht, goInt]
/-- The length of a slice that is held. -/
theorem op_lenV {as : Array Operand} {ts : Array TypeId} {t e : TypeId} {sz k : Nat} {xs : List Value} (hts : ts[0]? = some t) (ht : P.underlying t = some (.slice e)) (has : evOs l as.toList = some [v]) (hr : Rdb L v sz k xs) : OpV P n l S w0 L ⟨dst, .call { callee := .builtin .len, args := as, argTypes := ts }, ty, pos, af, gd⟩ (.int .i64 k) := fun q w ha hp => by
  obtain ⟨_, A, c, rfl, _⟩ := hr S w0 w hp
  exact op_len hts ht has q w ha
theorem op_extract {vs : Array Value} {i : Nat} (hx : evO l x = some (.tuple vs)) (hi : vs[i]? = some v) : OpP P n l ⟨dst, .extract x i, ty, pos, af, gd⟩ v := fun a w ha => by simp [execOp, ha.eval hx, Instr.extract, hi]
theorem op_nilCheck {ad : Addr} (hx : evO l x = some (.pointer (some ad))) : OpP P n l ⟨dst, .nilCheck x, ty, pos, af, gd⟩ (.pointer (some ad)) := fun a w ha => by simp [execOp, ha.eval hx]
theorem op_field {T f off g i : Nat} (hf : TField P T f off) (hx : evO l x = some (.pointer (some ⟨g, i, none⟩))) : OpP P n l ⟨dst, .fieldAddr T x f, ty, pos, af, gd⟩ (.pointer (some ⟨g, i + off, none⟩)) := fun a w ha => by
  simp [execOp, ha.eval hx, hf _ w, add_lit]
theorem op_fieldA {T f off i : Nat} {ad : Addr} (hf : TField P T f off) (hx : evO l x = some (.pointer (some (ad.add i)))) : OpP P n l ⟨dst, .fieldAddr T x f, ty, pos, af, gd⟩ (.pointer (some (ad.add (i + off)))) := fun a w ha => by
  simp [execOp, ha.eval hx, hf (ad.add i) w, add_of_add]
theorem op_index {t e k bytes : Nat} {z : Value} {m : Nat} {xs : List Value} {i : Int} {ki : IntKind} (ht : TSlice P t e k bytes z) (hx : evO l x = some v) (hr : Rdb L v k m xs) (hy : evO l y = some (.int ki i)) (h0 : 0 ≤ i) (h1 : i < m) :
    OpV P n l S w0 L ⟨dst, .indexAddr t x y, ty, pos, af, gd⟩ (.pointer (some ((Value.adr v).add (i.toNat * k)))) := fun a w ha hp => by
  obtain ⟨hl, A, c, rfl, hn, hm, hA, hc⟩ := hr S w0 w hp
  obtain ⟨ad, rfl⟩ := hA (by omega)
  have hs := ht.sizeE w
  simp [execOp, ha.eval hx, ha.eval hy, Instr.indexAt, asIntOf, run_underlying ht.und, h0, h1, hs, Value.adr]
theorem op_sindex {t : TypeId} {s : ByteArray} {i : Int} {ki : IntKind} {b : UInt8} (ht : P.underlying t = some .string) (hx : evO l x = some (.string s)) (hy : evO l y = some (.int ki i)) (h0 : 0 ≤ i) (hb : s[i.toNat]? = some b) : OpP P n l ⟨dst, .index t x y, ty, pos, af, gd⟩ (.int .u8 b.toNat) := fun a w ha => by
  simp [execOp, ha.eval hx, ha.eval hy, Instr.index, asIntOf, run_underlying ht, h0, hb]
/-- A load out of a block that is held. -/
theorem op_load {t g i : Nat} {cs : Array Value} {T : TypeId} {fz : Nat × Nat} (ht : TScal P t) (hx : evO l x = some (.pointer (some ⟨g, i, none⟩))) (hm : Res.blk g (.cells cs T fz) ∈ L) (hi : cs[i]? = some v) : OpV P n l S w0 L ⟨dst, .load t x, ty, pos, af, gd⟩ v := fun a w ha hp => by
  have hh : w.heap[g]? = some (.cells cs T fz) := hp.at_ _ hm
  have hc : w.cell? ⟨g, i, none⟩ = some v := by simp [World.cell?, hh, hi]
  simp [execOp, ha.eval hx, Instr.loadAt, Instr.sureAddr, loadVar, ht.agg w, load, Sem.run, hc]
/-- The whole of a block that is a struct. -/
theorem op_loadS {t k g : Nat} {cs : Array Value} {T : TypeId} {fz : Nat × Nat} (ht : TStruct P t k) (hx : evO l x = some (.pointer (some ⟨g, 0, none⟩))) (hm : Res.blk g (.cells cs T fz) ∈ L) (hi : cs.size = k) : OpV P n l S w0 L ⟨dst, .load t x, ty, pos, af, gd⟩ (.agg cs) := fun a w ha hp => by
  have hh : w.heap[g]? = some (.cells cs T fz) := hp.at_ _ hm
  have hc : ∀ j v, cs.toList[j]? = some v → w.cell? ((⟨g, 0, none⟩ : Addr).add j) = some v := fun j v hv => by
    rw [add_lit]; simp only [Nat.zero_add]
    simp only [World.cell?, hh]
    simpa using hv
  have := run_loadCells_list (P := P) w ⟨g, 0, none⟩ cs.toList hc
  simp only [Array.length_toList, hi] at this
  simp [execOp, ha.eval hx, Instr.loadAt, Instr.sureAddr, loadVar, ht.agg w, ht.size w, this]
/-- A load out of a slice that is held. -/
theorem op_loadR {t i m : Nat} {sz : Nat} {xs : List Value} {q : Value} (ht : TScal P t) (hx : evO l x = some (.pointer (some ((Value.adr q).add i)))) (hr : Rdb L q sz m xs) (hi : xs[i]? = some v) : OpV P n l S w0 L ⟨dst, .load t x, ty, pos, af, gd⟩ v := fun a w ha hp => by
  obtain ⟨hl, A, c, rfl, hn, hm, hA, hc⟩ := hr S w0 w hp
  have hpos : 0 < m := by
    rcases Nat.eq_zero_or_pos m with h | h
    · subst h
      simp only [Nat.zero_mul] at hl
      have := List.eq_nil_of_length_eq_zero hl
      subst this
      simp at hi
    · exact h
  obtain ⟨ad, rfl⟩ := hA hpos
  have h1 := hc ad rfl i v hi
  simp only [Value.adr] at hx
  simp [execOp, ha.eval hx, Instr.loadAt, Instr.sureAddr, loadVar, ht.agg w, load, Sem.run, h1]
theorem op_loadRS {t k i m : Nat} {sz : Nat} {xs cs : List Value} {q : Value} (ht : TStruct P t k) (hx : evO l x = some (.pointer (some ((Value.adr q).add i)))) (hr : Rdb L q sz m xs) (hk : cs.length = k) (hi : (xs.drop i).take k = cs) (hk0 : 0 < k) : OpV P n l S w0 L ⟨dst, .load t x, ty, pos, af, gd⟩ (.agg cs.toArray) := fun a w ha hp => by
  obtain ⟨hl, A, c, rfl, hn, hm, hA, hc⟩ := hr S w0 w hp
  have hj : ∀ j u, cs[j]? = some u → xs[i + j]? = some u := fun j u hu => by
    have hlt := (List.getElem?_eq_some_iff.1 hu).1
    rw [← hi, List.getElem?_take, if_pos (by omega), List.getElem?_drop] at hu
    exact hu
  have hpos : 0 < m := by
    rcases Nat.eq_zero_or_pos m with h | h
    · subst h
      simp only [Nat.zero_mul] at hl
      have := List.eq_nil_of_length_eq_zero hl
      subst this
      simp at hi
      subst hi
      simp at hk
      omega
    · exact h
  obtain ⟨ad, rfl⟩ := hA hpos
  have := run_loadCells_list (P := P) w (ad.add i) cs (fun j u hu => by rw [add_of_add]; exact hc ad rfl _ u (hj j u hu))
  rw [hk] at this
  simp only [Value.adr] at hx
  simp [execOp, ha.eval hx, Instr.loadAt, Instr.sureAddr, loadVar, ht.agg w, ht.size w, this]
/-- A struct put together: the run told by a closed fact. -/
theorem op_build {T : TypeId} {parts : Array (Nat × Operand)} {ps : Array (Nat × Value)} (hp : parts.toList.map (fun p => (p.1, evO l p.2)) = ps.toList.map (fun p => (p.1, some p.2))) (hb : ∀ w, (Instr.build T ps).run P w = .ok v w) : OpP P n l ⟨dst, .build T parts, ty, pos, af, gd⟩ v := fun a w ha => by
  have h1 : parts.map (fun p => (p.1, a.eval p.2)) = ps := by
    apply Array.ext'
    rw [Array.toList_map]
    generalize parts.toList = pl at hp
    generalize ps.toList = ql at hp
    induction pl generalizing ql with
    | nil => cases ql <;> simp_all
    | cons p r ih =>
      cases ql with
      | nil => simp at hp
      | cons q r' =>
        simp only [List.map_cons, List.cons.injEq, Prod.mk.injEq] at hp ⊢
        exact ⟨by rw [ha.eval hp.1.2]; exact Prod.ext hp.1.1 rfl, ih _ hp.2⟩
  have h2 : (parts.map fun (i, x) => (i, a.eval x)) = ps := h1
  simp only [execOp, h2, Sem.run_bind, hb w, Result.andThen_ok, Sem.run_pure]
end
end Go.SK

set_option linter.unusedVariables false
set_option linter.unusedSimpArgs false
namespace Go.SK
open Go Go.RowKit

def OpX (P : Program) (n : Nat) (l : FrL) (S : Nat → Prop) (w0 : World) (L : List Res) (o : Oper) (R : Value → List Res → Prop) : Prop :=
  ∀ a w, Has n l a → Hp S w0 w L → ∀ (K : Act → World → Prop) (Q : Exit → Act → World → Prop), (∀ v w' L', R v L' → Hp S w0 w' L' → K (a.put o.dst v) w') → o.wp P a w K Q

section
variable {P : Program} {Q : Exit → Act → World → Prop} {n : Nat} {l l' : FrL} {S : Nat → Prop} {w0 : World} {L L' : List Res} {ops : Array Oper} {rest : List Oper} {d : Nat} {op : Op} {ty : TypeId} {pos : String} {af : Array Edge} {dst : Option Tmp} {gd : Option (Nat × Bool)} {x y c : Operand}

theorem TL.opX {R : Value → List Res → Prop} (hlt : Nat.blt d n = true) (ho : OpX P n l S w0 L ⟨some d, op, ty, pos, af, none⟩ R) (h : ∀ v L', R v L' → TL P ops Q rest n ((d, v) :: l) S w0 L') : TL P ops Q (⟨some d, op, ty, pos, af, none⟩ :: rest) n l S w0 L := fun a w ha hp =>
  wpList_plain rfl fun K hK => ho a w ha hp K Q fun v w' L' hR hp' => hK _ _ (h v L' hR _ w' (ha.put hlt v) hp')
theorem TL.opX0 {R : Value → List Res → Prop} (ho : OpX P n l S w0 L ⟨none, op, ty, pos, af, none⟩ R) (h : ∀ v L', R v L' → TL P ops Q rest n l S w0 L') : TL P ops Q (⟨none, op, ty, pos, af, none⟩ :: rest) n l S w0 L := fun a w ha hp =>
  wpList_plain rfl fun K hK => ho a w ha hp K Q fun v w' L' hR hp' => hK _ _ (h v L' hR _ w' ha hp')
theorem OpX.of_run {o : Oper} {R : Value → List Res → Prop} (h : ∀ a w, Has n l a → Hp S w0 w L → ∃ v w' L', (execOp a.eval o).run P w = .ok (.value v) w' ∧ R v L' ∧ Hp S w0 w' L') : OpX P n l S w0 L o R := fun a w ha hp K Q hK => by
  obtain ⟨v, w', L', hr, hR, hp'⟩ := h a w ha hp
  unfold Oper.wp
  rw [hr, Oper.upon_value]
  exact hK v w' L' hR hp'
theorem OpX.of_skip {o : Oper} {R : Value → List Res → Prop} (h : ∀ a w, Has n l a → Hp S w0 w L → ∃ w' L', (execOp a.eval o).run P w = .ok .skip w' ∧ R undef L' ∧ Hp S w0 w' L') : OpX P n l S w0 L o R := fun a w ha hp K Q hK => by
  obtain ⟨w', L', hr, hR, hp'⟩ := h a w ha hp
  unfold Oper.wp
  rw [hr, Oper.upon_skip]
  exact hK undef w' L' hR hp'
theorem OpV.toX {o : Oper} {v : Value} (h : OpV P n l S w0 L o v) : OpX P n l S w0 L o (fun u L' => u = v ∧ L' = L) := .of_run fun a w ha hp => ⟨v, w, L, h a w ha hp, ⟨rfl, rfl⟩, hp⟩

/-! ### Calls -/
def Enters (P : Program) (f : FuncId) : Prop := ∀ (args : Array Value) (w : World), (callFunc f args).run P w = .ok (.enter f args) w
theorem enters_of {f : FuncId} {fn : Func} (hf : P.funcs[f]? = some fn) (hname : (fn.name == "runtime.NumGoroutine") = false) (hb : fn.body.isSome = true) : Enters P f := fun args w => by
  have h1 : fn.name ≠ "runtime.NumGoroutine" := by simpa using hname
  obtain ⟨c, hc⟩ := Option.isSome_iff_exists.1 hb
  simp [callFunc, hf, h1, hc]
theorem run_call {f : FuncId} {as : Array Operand} {ts : Array TypeId} {vs : List Value} {a : Act} {w : World} (he : Enters P f) (ha : Has n l a) (has : evOs l as.toList = some vs) :
    (execOp a.eval ⟨dst, .call { callee := .value (.func f), args := as, argTypes := ts }, ty, pos, af, gd⟩).run P w = .ok (.enter f vs.toArray) w := by
  have h1 := ha.evals has
  have h2 : as.map a.eval = vs.toArray := by apply Array.ext'; simpa using h1
  unfold execOp
  simp [resolve, Deferred.ofValue, invoke, Act.eval, h2, he vs.toArray w]
theorem OpX.call {f : FuncId} {as : Array Operand} {ts : Array TypeId} {vs : List Value} {R : Value → List Res → Prop} (he : Enters P f) (has : evOs l as.toList = some vs)
    (hc : ∀ w, Hp S w0 w L → Calls P f vs.toArray w fun e w' => ∃ v L', e = .returned v ∧ R v L' ∧ Hp S w0 w' L') : OpX P n l S w0 L ⟨dst, .call { callee := .value (.func f), args := as, argTypes := ts }, ty, pos, af, gd⟩ R := fun a w ha hp K Q hK => by
  unfold Oper.wp
  rw [run_call he ha has, Oper.upon_enter]
  refine (hc w hp).mono fun e w' hh => ?_
  obtain ⟨v, L', rfl, hR, hp'⟩ := hh
  exact hK v w' L' hR hp'
/-- A function that hands back v and keeps all that was there. -/
theorem OpX.callq {f : FuncId} {as : Array Operand} {ts : Array TypeId} {vs : List Value} {v : Value} (he : Enters P f) (has : evOs l as.toList = some vs)
    (hc : ∀ w, Hp S w0 w L → Calls P f vs.toArray w fun e w' => e = .returned v ∧ Kp NoB w w') : OpX P n l S w0 L ⟨dst, .call { callee := .value (.func f), args := as, argTypes := ts }, ty, pos, af, gd⟩ (fun u L' => u = v ∧ L' = L) :=
  OpX.call he has fun w hp => (hc w hp).mono fun e w' ⟨h1, h2⟩ => ⟨v, L, h1, ⟨rfl, rfl⟩, hp.quiet h2⟩
theorem TL.callq {f : FuncId} {as : Array Operand} {ts : Array TypeId} {vs : List Value} {v : Value} (hlt : Nat.blt d n = true) (he : Enters P f) (has : evOs l as.toList = some vs)
    (hc : ∀ w, Hp S w0 w L → Calls P f vs.toArray w fun e w' => e = .returned v ∧ Kp NoB w w') (h : TL P ops Q rest n ((d, v) :: l) S w0 L) : TL P ops Q (⟨some d, .call { callee := .value (.func f), args := as, argTypes := ts }, ty, pos, af, none⟩ :: rest) n l S w0 L :=
  TL.opX hlt (OpX.callq he has hc) (by rintro _ _ ⟨rfl, rfl⟩; exact h)

/-! ### New memory -/
theorem OpX.alloc {e : TypeId} {z : Value} {cs : List Value} (hz : TZero P e z) (hc : z.cells = cs.toArray) : OpX P n l S w0 L ⟨dst, .alloc e, ty, pos, af, gd⟩ (fun v L' => ∃ g, v = .pointer (some ⟨g, 0, none⟩) ∧ L' = .blk g (.cells cs.toArray e (0, 0)) :: L) := .of_run fun a w ha hp => by
  refine ⟨_, w.alloc (.cells cs.toArray e), _, ?_, ⟨w.heap.size, rfl, rfl⟩, hp.new (Kp.alloc w _) (heap_alloc_new w _) (fun g hg => by cases hg; exact Nat.le_refl _)⟩
  simp [execOp, Instr.alloc, hz w, newVar, newRow, hc]
theorem TL.alloc {e : TypeId} {z : Value} {cs : List Value} (hlt : Nat.blt d n = true) (hz : TZero P e z) (hc : z.cells = cs.toArray) (h : ∀ g, TL P ops Q rest n ((d, .pointer (some ⟨g, 0, none⟩)) :: l) S w0 (.blk g (.cells cs.toArray e (0, 0)) :: L)) : TL P ops Q (⟨some d, .alloc e, ty, pos, af, none⟩ :: rest) n l S w0 L :=
  TL.opX hlt (OpX.alloc hz hc) (by rintro _ _ ⟨g, rfl, rfl⟩; exact h g)
theorem OpX.box {e : TypeId} {v : Value} {cs : List Value} (hx : evO l x = some v) (hc : v.cells = cs.toArray) : OpX P n l S w0 L ⟨dst, .box e x, ty, pos, af, gd⟩ (fun v L' => ∃ g, v = .pointer (some ⟨g, 0, none⟩) ∧ L' = .blk g (.cells cs.toArray e (0, 0)) :: L) := .of_run fun a w ha hp => by
  refine ⟨_, w.alloc (.cells cs.toArray e), _, ?_, ⟨w.heap.size, rfl, rfl⟩, hp.new (Kp.alloc w _) (heap_alloc_new w _) (fun g hg => by cases hg; exact Nat.le_refl _)⟩
  simp [execOp, ha.eval hx, Instr.box, newVar, newRow, hc]
theorem TL.box {e : TypeId} {v : Value} {cs : List Value} (hlt : Nat.blt d n = true) (hx : evO l x = some v) (hc : v.cells = cs.toArray) (h : ∀ g, TL P ops Q rest n ((d, .pointer (some ⟨g, 0, none⟩)) :: l) S w0 (.blk g (.cells cs.toArray e (0, 0)) :: L)) : TL P ops Q (⟨some d, .box e x, ty, pos, af, none⟩ :: rest) n l S w0 L :=
  TL.opX hlt (OpX.box hx hc) (by rintro _ _ ⟨g, rfl, rfl⟩; exact h g)
/-- A literal '[]T{..}': the run told by a closed fact. -/
theorem OpX.buildSlice {t e : TypeId} {len : Nat} {parts : Array (Nat × Operand)} {ps : Array (Nat × Value)} {cs : List Value} (hp : parts.toList.map (fun p => (p.1, evO l p.2)) = ps.toList.map (fun p => (p.1, some p.2)))
    (hb : ∀ w : World, (Instr.buildSlice t len ps).run P w = .ok (.slice (some ⟨w.heap.size, 0, none⟩) len len) (w.alloc (.cells cs.toArray e))) :
    OpX P n l S w0 L ⟨dst, .buildSlice t len parts, ty, pos, af, gd⟩ (fun v L' => ∃ g, v = .slice (some ⟨g, 0, none⟩) len len ∧ L' = .blk g (.cells cs.toArray e (0, 0)) :: L) := .of_run fun a w ha hp' => by
  have h1 : parts.map (fun p => (p.1, a.eval p.2)) = ps := by
    apply Array.ext'
    rw [Array.toList_map]
    generalize parts.toList = pl at hp
    generalize ps.toList = ql at hp
    induction pl generalizing ql with
    | nil => cases ql <;> simp_all
    | cons p r ih =>
      cases ql with
      | nil => simp at hp
      | cons q r' =>
        simp only [List.map_cons, List.cons.injEq, Prod.mk.injEq] at hp ⊢
        exact ⟨by rw [ha.eval hp.1.2]; exact Prod.ext hp.1.1 rfl, ih _ hp.2⟩
  have h2 : (parts.map fun (i, x) => (i, a.eval x)) = ps := h1
  refine ⟨_, w.alloc (.cells cs.toArray e), _, ?_, ⟨w.heap.size, rfl, rfl⟩, hp'.new (Kp.alloc w _) (heap_alloc_new w _) (fun g hg => by cases hg; exact Nat.le_refl _)⟩
  simp only [execOp, h2, Sem.run_bind, hb w, Result.andThen_ok, Sem.run_pure]
theorem TL.buildSlice {t e : TypeId} {len : Nat} {parts : Array (Nat × Operand)} {ps : Array (Nat × Value)} {cs : List Value} (hlt : Nat.blt d n = true) (hp : parts.toList.map (fun p => (p.1, evO l p.2)) = ps.toList.map (fun p => (p.1, some p.2)))
    (hb : ∀ w : World, (Instr.buildSlice t len ps).run P w = .ok (.slice (some ⟨w.heap.size, 0, none⟩) len len) (w.alloc (.cells cs.toArray e)))
    (h : ∀ g, TL P ops Q rest n ((d, .slice (some ⟨g, 0, none⟩) len len) :: l) S w0 (.blk g (.cells cs.toArray e (0, 0)) :: L)) : TL P ops Q (⟨some d, .buildSlice t len parts, ty, pos, af, none⟩ :: rest) n l S w0 L :=
  TL.opX hlt (OpX.buildSlice hp hb) (by rintro _ _ ⟨g, rfl, rfl⟩; exact h g)
/-- A block as the row that it is. -/
theorem blk_row {S : Nat → Prop} {w0 w : World} {L : List Res} {g m k e : Nat} {cs : List Value} (h : Hp S w0 w (.blk g (.cells cs.toArray e (0, 0)) :: L)) (hl : cs.length = m * k) (hm : m ≤ maxLen) : Hp S w0 w (.row (.slice (some ⟨g, 0, none⟩) m m) e k m cs :: L) := by
  have hh : w.heap[g]? = some (.cells cs.toArray e (0, 0)) := h.at_ _ (.head _)
  refine h.as ⟨hl, .inr ⟨g, m, cs.toArray, rfl, Nat.zero_le _, hh, Nat.le_refl _, hm, by simpa using hl, ?_⟩⟩ (fun _ => trivial) (fun q hq => ?_)
  · rw [← hl]; simp
  · simp only [Res.keys, Value.ownBlock, Option.some.injEq] at hq
    exact hq.symm
theorem row_rd {S : Nat → Prop} {w0 w : World} {L : List Res} {v : Value} {e k m : Nat} {xs : List Value} (h : Hp S w0 w (.row v e k m xs :: L)) : Hp S w0 w (.rd v k m xs :: L) :=
  h.as (RdRow.of_own (h.at_ _ (.head _))) (fun x => x.elim) (fun g hg => hg.1)
theorem row_win {S : Nat → Prop} {w0 w : World} {L : List Res} {v : Value} {e k m : Nat} {xs : List Value} (h : Hp S w0 w (.row v e k m xs :: L)) : Hp S w0 w (.win v e k m xs :: L) := by
  have ho : w.ownsRow 0 e k v m xs := h.at_ _ (.head _)
  refine h.as ?_ (fun _ => trivial) (fun g hg => hg)
  refine ⟨ho.1, ?_⟩
  rcases ho.2 with ⟨rfl, rfl⟩ | ⟨g, cap, cur, rfl, _, hh, hn, hm, hs, ht⟩
  · exact ⟨none, 0, rfl, Nat.le_refl _, Nat.zero_le _, .inl ⟨rfl, rfl⟩⟩
  · refine ⟨_, cap, rfl, hn, hm, .inr ⟨g, 0, cur, rfl, hh, ?_, by simpa using ht⟩⟩
    rw [hs, Nat.zero_add]; exact Nat.mul_le_mul_right _ hn
theorem new_nil {S : Nat → Prop} {w0 w : World} {L : List Res} (e k : Nat) (h : Hp S w0 w L) : Hp S w0 w (.row (.slice none 0 0) e k 0 [] :: L) :=
  h.new (Kp.refl _ _) (World.ownsRow_nil w 0 e k) (fun g hg => by simp [Res.keys, Value.ownBlock] at hg)

/-! ### Stores -/
def putC : Array Value → Nat → List Value → Array Value
  | cur, _, [] => cur
  | cur, o, v :: r => putC (cur.setIfInBounds o v) (o + 1) r
theorem size_putC : ∀ (vs : List Value) (cur : Array Value) (o : Nat), (putC cur o vs).size = cur.size
  | [], _, _ => rfl
  | v :: r, cur, o => by rw [putC, size_putC r]; simp
theorem putC_get : ∀ (vs : List Value) (cur : Array Value) (o j : Nat), o + vs.length ≤ cur.size → (putC cur o vs)[j]? = if o ≤ j ∧ j < o + vs.length then vs[j - o]? else cur[j]?
  | [], cur, o, j, _ => by rw [if_neg (by simp)]; rfl
  | v :: r, cur, o, j, h => by
    simp only [List.length_cons] at h ⊢
    rw [putC, putC_get r _ _ _ (by simp; omega)]
    by_cases h1 : o + 1 ≤ j ∧ j < o + 1 + r.length
    · rw [if_pos h1, if_pos (by omega), show j - o = (j - (o + 1)) + 1 by omega]; rfl
    · rw [if_neg h1]
      by_cases h2 : j = o
      · subst h2
        rw [if_pos (by omega)]
        simp [show j < cur.size by omega]
      · rw [if_neg (by omega), Array.getElem?_setIfInBounds, if_neg (Ne.symm h2)]
theorem run_storeCells_blk (P : Program) (g e : Nat) : ∀ (vs : List Value) (off i : Nat) (cur : Array Value) (w : World), w.heap[g]? = some (.cells cur e (0, 0)) → off + i + vs.length ≤ cur.size → (∀ v ∈ vs, v.oneCell' = true) →
    ∃ w', (storeCells ⟨g, off, none⟩ vs i).run P w = .ok () w' ∧ w'.heap[g]? = some (.cells (putC cur (off + i) vs) e (0, 0)) ∧ Kp (· = g) w w'
  | [], off, i, cur, w, hw, _, _ => ⟨w, rfl, hw, Kp.refl _ _⟩
  | v :: r, off, i, cur, w, hw, hlen, h1 => by
    simp only [List.length_cons] at hlen
    have hc : w.cell? ((⟨g, off, none⟩ : Addr).add i) = some (cur[off + i]'(by omega)) := by
      rw [add_lit]; simp [World.cell?, hw, show off + i < cur.size by omega]
    have hfz : w.frozen? ((⟨g, off, none⟩ : Addr).add i) = false := by rw [add_lit]; simp [World.frozen?, hw]
    have hset : (w.setCell ((⟨g, off, none⟩ : Addr).add i) v).heap[g]? = some (.cells (cur.setIfInBounds (off + i) v) e (0, 0)) := by
      rw [add_lit]
      have hlt : g < w.heap.size := (Array.getElem?_eq_some_iff.1 hw).1
      simp [World.setCell, Array.getElem?_modify, hw]
    obtain ⟨w', hr, hh, hk⟩ := run_storeCells_blk P g e r off (i + 1) _ _ hset (by simp; omega) (fun u hu => h1 u (.tail _ hu))
    have hst := run_store P w ((⟨g, off, none⟩ : Addr).add i) v .plain (h1 v (.head _))
    refine ⟨w', ?_, by rw [putC]; simpa [Nat.add_assoc] using hh, ?_⟩
    · unfold storeCells
      simp only [Sem.run_bind]
      rw [show store ((⟨g, off, none⟩ : Addr).add i) v = Sem.store .plain ((⟨g, off, none⟩ : Addr).add i) v (.pure ()) from rfl]
      have : (Sem.store .plain ((⟨g, off, none⟩ : Addr).add i) v (.pure ())).run P w = .ok () (w.setCell ((⟨g, off, none⟩ : Addr).add i) v) := by
        have h1v := h1 v (.head _)
        cases v <;> first | (simp [Value.oneCell'] at h1v; done) | simp [Sem.run, hc, hfz]
      rw [this]
      simpa [Result.andThen] using hr
    · have : Kp (· = g) w (w.setCell ((⟨g, off, none⟩ : Addr).add i) v) := by
        have := Kp.setCell w ((⟨g, off, none⟩ : Addr).add i) v
        rw [add_lit] at this ⊢; exact this
      exact this.trans hk

/-- A store into a block that is held: the cells from i on. -/
theorem OpX.storeG {t k g i e : Nat} {cur : Array Value} {v : Value} {ys : List Value} (hs : ∀ w, (sizeOf t).run P w = .ok k w) (hx : evO l x = some (.pointer (some ⟨g, i, none⟩))) (hy : evO l y = some v) (hv : v.cells = ys.toArray) (hk : ys.length = k) (h1 : ∀ u ∈ ys, u.oneCell' = true) (hlen : i + k ≤ cur.size) :
    OpX P n l S w0 (.blk g (.cells cur e (0, 0)) :: L) ⟨none, .store t x y, ty, pos, af, gd⟩ (fun _ L' => L' = .blk g (.cells (putC cur i ys) e (0, 0)) :: L) := .of_skip fun a w ha hp => by
  have hh : w.heap[g]? = some (.cells cur e (0, 0)) := hp.at_ _ (.head _)
  obtain ⟨w', hr, hh', hk'⟩ := run_storeCells_blk P g e ys i 0 cur w hh (by omega) h1
  refine ⟨w', _, ?_, rfl, hp.upd trivial hk' hh' (fun q hq => .inl hq)⟩
  simp [execOp, ha.eval hx, ha.eval hy, Instr.storeAt, Instr.sureAddr, storeVar, hs w, hv, hk, hr]
/-- One field of a struct in a block. -/
theorem OpX.store1 {t g i e : Nat} {cur cur' : List Value} {v : Value} (ht : TScal P t) (hx : evO l x = some (.pointer (some ⟨g, i, none⟩))) (hy : evO l y = some v) (h1 : v.oneCell' = true) (hc : cur.set i v = cur') (hlen : Nat.blt i cur.length = true) :
    OpX P n l S w0 (.blk g (.cells cur.toArray e (0, 0)) :: L) ⟨none, .store t x y, ty, pos, af, gd⟩ (fun _ L' => L' = .blk g (.cells cur'.toArray e (0, 0)) :: L) := by
  have hlt : i < cur.length := by simpa [Nat.blt_eq] using hlen
  have hv : v.cells = [v].toArray := by cases v <;> first | rfl | (simp [Value.oneCell'] at h1; done)
  have := OpX.storeG (P := P) (n := n) (l := l) (S := S) (w0 := w0) (L := L) (ty := ty) (pos := pos) (af := af) (gd := gd) (e := e) (cur := cur.toArray) ht.size hx hy hv rfl (by intro u hu; cases hu with | head => exact h1 | tail _ h => cases h) (by simp; omega)
  have e1 : putC cur.toArray i [v] = cur'.toArray := by subst hc; simp [putC]
  rw [e1] at this
  exact this
/-- A struct, whole, into its block. -/
theorem OpX.storeS {t k g e : Nat} {cur ys : List Value} {v : Value} (ht : TStruct P t k) (hx : evO l x = some (.pointer (some ⟨g, 0, none⟩))) (hy : evO l y = some v) (hv : v.cells = ys.toArray) (hk : ys.length = k) (hc : cur.length = k) (h1 : ∀ u ∈ ys, u.oneCell' = true) :
    OpX P n l S w0 (.blk g (.cells cur.toArray e (0, 0)) :: L) ⟨none, .store t x y, ty, pos, af, gd⟩ (fun _ L' => L' = .blk g (.cells ys.toArray e (0, 0)) :: L) := by
  have := OpX.storeG (P := P) (n := n) (l := l) (S := S) (w0 := w0) (L := L) (ty := ty) (pos := pos) (af := af) (gd := gd) (e := e) (cur := cur.toArray) ht.size hx hy hv hk h1 (by simp; omega)
  have e1 : putC cur.toArray 0 ys = ys.toArray := by
    apply Array.ext_getElem?
    intro j
    rw [putC_get _ _ _ _ (by simp; omega)]
    by_cases hj : j < ys.length
    · rw [if_pos (by omega)]; simp
    · rw [if_neg (by omega), Array.getElem?_eq_none (by simp; omega), Array.getElem?_eq_none (by simp; omega)]
  rw [e1] at this
  exact this
theorem TL.store1 {t g i e : Nat} {cur cur' : List Value} {v : Value} (ht : TScal P t) (hx : evO l x = some (.pointer (some ⟨g, i, none⟩))) (hy : evO l y = some v) (h1 : v.oneCell' = true) (hc : cur.set i v = cur') (hlen : Nat.blt i cur.length = true)
    (h : TL P ops Q rest n l S w0 (.blk g (.cells cur'.toArray e (0, 0)) :: L)) : TL P ops Q (⟨none, .store t x y, ty, pos, af, none⟩ :: rest) n l S w0 (.blk g (.cells cur.toArray e (0, 0)) :: L) := TL.opX0 (OpX.store1 ht hx hy h1 hc hlen) (by rintro _ _ rfl; exact h)
theorem TL.storeS {t k g e : Nat} {cur ys : List Value} {v : Value} (ht : TStruct P t k) (hx : evO l x = some (.pointer (some ⟨g, 0, none⟩))) (hy : evO l y = some v) (hv : v.cells = ys.toArray) (hk : ys.length = k) (hc : cur.length = k) (h1 : ∀ u ∈ ys, u.oneCell' = true)
    (h : TL P ops Q rest n l S w0 (.blk g (.cells ys.toArray e (0, 0)) :: L)) : TL P ops Q (⟨none, .store t x y, ty, pos, af, none⟩ :: rest) n l S w0 (.blk g (.cells cur.toArray e (0, 0)) :: L) := TL.opX0 (OpX.storeS ht hx hy hv hk hc h1) (by rintro _ _ rfl; exact h)

/-- A window is written: its cells from i on. -/
theorem WinRow.put {w : World} {v : Value} {e sz m : Nat} {xs : List Value} (h : WinRow w v e sz m xs) (P : Program) (i : Nat) (ys : List Value) (hlen : i + ys.length ≤ m * sz) (hpos : 0 < ys.length) (h1 : ∀ u ∈ ys, u.oneCell' = true) :
    ∃ w', (storeCells ((Value.adr v).add i) ys).run P w = .ok () w' ∧ WinRow w' v e sz m (xs.take i ++ ys ++ xs.drop (i + ys.length)) ∧ Kp (fun g => v.ownBlock = some g) w w' := by
  obtain ⟨hl, A, c, rfl, h2, h3, h4⟩ := h
  rcases h4 with ⟨rfl, rfl⟩ | ⟨g, off, cur, rfl, hg, hs, ht⟩
  · rw [Nat.zero_mul] at hlen; omega
  · obtain ⟨w', hr, hh, hk⟩ := run_storeCells_blk P g e ys (off + i) 0 cur w hg (by omega) h1
    refine ⟨w', by simpa [Value.adr, add_lit] using hr, ⟨?_, _, c, rfl, h2, h3, .inr ⟨g, off, _, rfl, hh, by rw [size_putC]; exact hs, ?_⟩⟩, hk.mono (fun k hk => by subst hk; rfl)⟩
    · simp only [List.length_append, List.length_take, List.length_drop]; omega
    · apply List.ext_getElem?
      intro j
      by_cases hj : j < m * sz
      · rw [List.getElem?_take, if_pos hj, List.getElem?_drop, Array.getElem?_toList, Nat.add_zero, putC_get _ _ _ _ (by omega)]
        have hx : xs[j]? = cur[off + j]? := by rw [← ht, List.getElem?_take, if_pos hj, List.getElem?_drop, Array.getElem?_toList]
        by_cases h5 : j < i
        · rw [if_neg (by omega), ← hx]
          rw [List.append_assoc, List.getElem?_append_left (by simp; omega), List.getElem?_take, if_pos h5]
        · by_cases h6 : j < i + ys.length
          · rw [if_pos (by omega), List.getElem?_append_left (by simp; omega), List.getElem?_append_right (by simp; omega)]
            congr 1
            simp; omega
          · rw [if_neg (by omega), ← hx, List.getElem?_append_right (by simp; omega), List.getElem?_drop]
            congr 1
            simp; omega
      · rw [List.getElem?_eq_none (by simp; omega), List.getElem?_eq_none (by simp; omega)]
theorem own_put {w : World} {v : Value} {e sz m : Nat} {xs : List Value} (h : w.ownsRow 0 e sz v m xs) (P : Program) (i : Nat) (ys : List Value) (hlen : i + ys.length ≤ m * sz) (hpos : 0 < ys.length) (h1 : ∀ u ∈ ys, u.oneCell' = true) :
    ∃ w', (storeCells ((Value.adr v).add i) ys).run P w = .ok () w' ∧ w'.ownsRow 0 e sz v m (xs.take i ++ ys ++ xs.drop (i + ys.length)) ∧ Kp (fun g => v.ownBlock = some g) w w' := by
  obtain ⟨hl, h2⟩ := h
  rcases h2 with ⟨rfl, rfl⟩ | ⟨g, cap, cur, rfl, hb, hg, hn, hm, hs, ht⟩
  · rw [Nat.zero_mul] at hlen; omega
  · have hle : m * sz ≤ cur.size := by rw [hs]; exact Nat.mul_le_mul_right _ hn
    obtain ⟨w', hr, hh, hk⟩ := run_storeCells_blk P g e ys i 0 cur w hg (by omega) h1
    refine ⟨w', by simpa [Value.adr, add_lit] using hr, ⟨?_, .inr ⟨g, cap, _, rfl, hb, hh, hn, hm, by rw [size_putC]; exact hs, ?_⟩⟩, hk.mono (fun k hk => by subst hk; rfl)⟩
    · simp only [List.length_append, List.length_take, List.length_drop]; omega
    · apply List.ext_getElem?
      intro j
      by_cases hj : j < m * sz
      · rw [List.getElem?_take, if_pos hj, Array.getElem?_toList, Nat.add_zero, putC_get _ _ _ _ (by omega)]
        have hx : xs[j]? = cur[j]? := by rw [← ht, List.getElem?_take, if_pos hj, Array.getElem?_toList]
        by_cases h5 : j < i
        · rw [if_neg (by omega), ← hx]
          rw [List.append_assoc, List.getElem?_append_left (by simp; omega), List.getElem?_take, if_pos h5]
        · by_cases h6 : j < i + ys.length
          · rw [if_pos (by omega), List.getElem?_append_left (by simp; omega), List.getElem?_append_right (by simp; omega)]
            congr 1
            simp; omega
          · rw [if_neg (by omega), ← hx, List.getElem?_append_right (by simp; omega), List.getElem?_drop]
            congr 1
            simp; omega
      · rw [List.getElem?_eq_none (by simp; omega), List.getElem?_eq_none (by simp; omega)]
/-- A store into a row of one's own. -/
theorem OpX.storeRow {t k i e sz m : Nat} {q v : Value} {xs xs' ys : List Value} (hs : ∀ w, (sizeOf t).run P w = .ok k w) (hx : evO l x = some (.pointer (some ((Value.adr q).add i)))) (hy : evO l y = some v) (hv : v.cells = ys.toArray) (hk : ys.length = k) (hk0 : 0 < k) (h1 : ∀ u ∈ ys, u.oneCell' = true) (hlen : i + k ≤ m * sz) (hxs : xs.take i ++ ys ++ xs.drop (i + k) = xs') :
    OpX P n l S w0 (.row q e sz m xs :: L) ⟨none, .store t x y, ty, pos, af, gd⟩ (fun _ L' => L' = .row q e sz m xs' :: L) := .of_skip fun a w ha hp => by
  subst hk
  obtain ⟨w', hr, hh, hk'⟩ := own_put (hp.at_ _ (.head _)) P i ys hlen hk0 h1
  rw [hxs] at hh
  refine ⟨w', _, ?_, rfl, hp.upd trivial hk' hh (fun q hq => .inl hq)⟩
  simp [execOp, ha.eval hx, ha.eval hy, Instr.storeAt, Instr.sureAddr, storeVar, hs w, hv, hr]
theorem OpX.storeWin {t k i e sz m : Nat} {q v : Value} {xs xs' ys : List Value} (hs : ∀ w, (sizeOf t).run P w = .ok k w) (hx : evO l x = some (.pointer (some ((Value.adr q).add i)))) (hy : evO l y = some v) (hv : v.cells = ys.toArray) (hk : ys.length = k) (hk0 : 0 < k) (h1 : ∀ u ∈ ys, u.oneCell' = true) (hlen : i + k ≤ m * sz) (hxs : xs.take i ++ ys ++ xs.drop (i + k) = xs') :
    OpX P n l S w0 (.win q e sz m xs :: L) ⟨none, .store t x y, ty, pos, af, gd⟩ (fun _ L' => L' = .win q e sz m xs' :: L) := .of_skip fun a w ha hp => by
  subst hk
  obtain ⟨w', hr, hh, hk'⟩ := (show WinRow w q e sz m xs from hp.at_ _ (.head _)).put P i ys hlen hk0 h1
  rw [hxs] at hh
  refine ⟨w', _, ?_, rfl, hp.upd trivial hk' hh (fun q hq => .inl hq)⟩
  simp [execOp, ha.eval hx, ha.eval hy, Instr.storeAt, Instr.sureAddr, storeVar, hs w, hv, hr]

/-! ### append, cuts, make -/
theorem run_append_of_nil (P : Program) (w : World) (base : Nat) (t ty e : TypeId) (i : TypeInfo) (size : Nat) (ht : P.underlying t = some (.slice e)) (hi : P.info? e = some i)
    (v : Value) (n : Nat) (xs : List Value) (hown : w.ownsRow base e size v n xs) (c : Nat) : (Builtin.append_ #[t, t] ty #[v, .slice none 0 c]).run P w = .ok v w := by
  rcases hown.2 with ⟨rfl, rfl⟩ | ⟨g, cap, cur, rfl, _, _, hnc, _⟩
  · simp [Builtin.append_, run_underlying ht, sizeOf, typeInfo, hi, Builtin.lenOf, Builtin.firstCells]
  · simp [Builtin.append_, run_underlying ht, sizeOf, typeInfo, hi, Builtin.lenOf, Builtin.firstCells, hnc, storeCells]
/-- append(q, u...): q a row of one's own, at the head; u read. -/
theorem OpX.append {t e k bytes m j : Nat} {z q u : Value} {xs ys zs : List Value} {as : Array Operand} (ht : TSlice P t e k bytes z) (hk0 : 0 < k) (hb0 : 0 < bytes) (has : evOs l as.toList = some [q, u]) (hr : Rdb (.row q e k m xs :: L) u k j ys) (h1 : ∀ u ∈ ys, u.oneCell' = true) (hlen : (m + j) * bytes ≤ 140737488355328) (hz : xs ++ ys = zs) :
    OpX P n l S w0 (.row q e k m xs :: L) ⟨dst, .call { callee := .builtin .append, args := as, argTypes := #[t, t] }, ty, pos, af, gd⟩ (fun v L' => L' = .row v e k (m + j) zs :: L) := .of_run fun a w ha hp => by
  obtain ⟨i0, hi, hzz⟩ := Option.map_eq_some_iff.1 ht.info
  simp only [Prod.mk.injEq] at hzz
  obtain ⟨hz0, hz1, hz2⟩ := hzz
  have hown : w.ownsRow 0 e k q m xs := hp.at_ _ (.head _)
  obtain ⟨hl, A, c, rfl, hc1, hc2, hA, hcell⟩ := hr S w0 w hp
  have hev := ha.evals has
  have h2 : as.map a.eval = #[q, .slice A j c] := by apply Array.ext'; simpa using hev
  have hmj : m + j ≤ 140737488355328 := Nat.le_trans (Nat.le_mul_of_pos_right _ hb0) hlen
  have key : ∃ v' w', (Builtin.append_ #[t, t] ty #[q, .slice A j c]).run P w = .ok v' w' ∧ w'.ownsRow 0 e k v' (m + j) zs ∧ w.grownBy w' q.ownBlock ∧ (v'.ownBlock = q.ownBlock ∨ v'.ownBlock = some w.heap.size) := by
    subst hz
    rcases A with _ | ad
    · have hj : j = 0 := by
        rcases Nat.eq_zero_or_pos j with h0 | h0
        · exact h0
        · obtain ⟨_, h⟩ := hA h0; cases h
      subst hj
      have hn : ys = [] := List.eq_nil_of_length_eq_zero (by simpa using hl)
      subst hn
      exact ⟨q, w, run_append_of_nil P w 0 t ty e i0 k ht.und hi q m xs hown c, by simpa using hown, World.grownBy.refl w _, .inl rfl⟩
    · obtain ⟨v', w', hrun, h3, h4, _, h5⟩ := run_append_own_at (P := P) w 0 t ty e i0 z k bytes ht.und hi hz0 hz1 hz2 ht.zc hk0 q m xs hown ad j c ys hl (fun j' u hu => hcell ad rfl j' u hu) h1 (by simp only [maxLen]; omega) hlen (Nat.zero_le _)
      exact ⟨v', w', hrun, h3, h4, h5⟩
  obtain ⟨v', w', hrun, h3, h4, h5⟩ := key
  refine ⟨v', w', _, ?_, rfl, hp.upd trivial ((Kp.grown h4).mono (fun g hg => hg)) h3 (fun g hg => ?_)⟩
  · simp [execOp, resolve, h2, invoke, builtin, hrun]
  · simp only [Res.keys] at hg ⊢
    rcases h5 with h5 | h5
    · rw [h5] at hg; exact .inl hg
    · rw [h5] at hg; simp only [Option.some.injEq] at hg; exact .inr (by omega)
theorem TL.append {t e k bytes m j : Nat} {z q u : Value} {xs ys zs : List Value} {as : Array Operand} (hlt : Nat.blt d n = true) (ht : TSlice P t e k bytes z) (hk0 : 0 < k) (hb0 : 0 < bytes) (has : evOs l as.toList = some [q, u]) (hr : Rdb (.row q e k m xs :: L) u k j ys) (h1 : ∀ u ∈ ys, u.oneCell' = true) (hlen : (m + j) * bytes ≤ 140737488355328) (hz : xs ++ ys = zs)
    (h : ∀ v, TL P ops Q rest n ((d, v) :: l) S w0 (.row v e k (m + j) zs :: L)) : TL P ops Q (⟨some d, .call { callee := .builtin .append, args := as, argTypes := #[t, t] }, ty, pos, af, none⟩ :: rest) n l S w0 (.row q e k m xs :: L) :=
  TL.opX hlt (OpX.append ht hk0 hb0 has hr h1 hlen hz) (by rintro v _ rfl; exact h v)

/-- v[lo:hi] -/
def Value.cut (v : Value) (lo hi sz : Nat) : Value :=
  match v with
  | .slice a _ c => .slice (if c = lo then a else a.map (·.add (lo * sz))) (hi - lo) (c - lo)
  | v => v
theorem RdRow.cut {w : World} {v : Value} {sz m : Nat} {xs : List Value} (h : RdRow w v sz m xs) (lo hi : Nat) (h1 : lo ≤ hi) (h2 : hi ≤ m) : RdRow w (Value.cut v lo hi sz) sz (hi - lo) ((xs.drop (lo * sz)).take ((hi - lo) * sz)) := by
  obtain ⟨hl, A, c, rfl, h3, h4, hA, hc⟩ := h
  have hle : (hi - lo) * sz + lo * sz ≤ m * sz := by rw [← Nat.add_mul]; exact Nat.mul_le_mul_right _ (by omega)
  refine ⟨by simp only [List.length_take, List.length_drop]; omega, _, _, rfl, by omega, by omega, ?_, ?_⟩
  · intro hpos
    obtain ⟨ad, rfl⟩ := hA (by omega)
    rw [if_neg (by omega)]
    exact ⟨_, rfl⟩
  · intro ad had j u hu
    have hlt := (List.getElem?_eq_some_iff.1 hu).1
    simp only [List.length_take, List.length_drop] at hlt
    rw [List.getElem?_take, if_pos (by omega), List.getElem?_drop] at hu
    have hpos : 0 < hi - lo := by
      rcases Nat.eq_zero_or_pos (hi - lo) with h0 | h0
      · rw [h0, Nat.zero_mul] at hlt; omega
      · exact h0
    obtain ⟨ad0, rfl⟩ := hA (by omega)
    rw [if_neg (by omega)] at had
    simp only [Option.map_some, Option.some.injEq] at had
    subst had
    rw [add_of_add]
    exact hc ad0 rfl _ u hu
theorem Rdb.cut {L : List Res} {v : Value} {sz m : Nat} {xs : List Value} (h : Rdb L v sz m xs) (lo hi : Nat) (h1 : lo ≤ hi) (h2 : hi ≤ m) : Rdb L (Value.cut v lo hi sz) sz (hi - lo) ((xs.drop (lo * sz)).take ((hi - lo) * sz)) := fun S w0 w H => (h S w0 w H).cut lo hi h1 h2
theorem run_slice_cut {t e k bytes len cap : Nat} {z : Value} {A : Option Addr} (ht : TSlice P t e k bytes z) (lo hi : Option Value) (l0 h0 : Nat) (hlo : lo = none ∧ l0 = 0 ∨ ∃ kk i, lo = some (.int kk i) ∧ i = (l0 : Int)) (hhi : hi = none ∧ h0 = len ∨ ∃ kk i, hi = some (.int kk i) ∧ i = (h0 : Int)) (h1 : l0 ≤ h0) (h2 : h0 ≤ cap) (w : World) :
    (Instr.sliceAt t (.slice A len cap) lo hi none).run P w = .ok (Value.cut (.slice A len cap) l0 h0 k) w := by
  have hs := ht.sizeE w
  have e1 : (Instr.sliceBounds true len cap lo hi none).run P w = .ok (l0, h0, cap) w := by
    rcases hlo with ⟨rfl, rfl⟩ | ⟨kk, i, rfl, rfl⟩ <;> rcases hhi with ⟨rfl, rfl⟩ | ⟨kk', i', rfl, rfl⟩
    · simp [Instr.sliceBounds]
    · simp [Instr.sliceBounds, Instr.sliceBound, asIntOf, h2]
    · simp [Instr.sliceBounds, Instr.sliceBound, asIntOf, h1]
    · simp [Instr.sliceBounds, Instr.sliceBound, asIntOf, h1, h2]
  simp [Instr.sliceAt, run_underlying ht.und, Instr.slice, e1, hs, Value.cut]
theorem evO_map {lo : Option Operand} {v : Option Value} {a : Act} (ha : Has n l a) (h : lo.map (evO l) = v.map some) : lo.map a.eval = v := by
  cases lo with
  | none => cases v <;> simp_all
  | some o =>
    cases v with
    | none => simp at h
    | some u => simp only [Option.map_some, Option.some.injEq] at h ⊢; exact ha.eval h
/-- A slice that is read, cut. -/
theorem op_cut {t e k bytes m : Nat} {z q : Value} {xs : List Value} {lo hi : Option Operand} {vlo vhi : Option Value} (l0 h0 : Nat) (ht : TSlice P t e k bytes z) (hx : evO l x = some q) (hr : Rdb L q k m xs) (elo : lo.map (evO l) = vlo.map some) (ehi : hi.map (evO l) = vhi.map some)
    (hlo : vlo = none ∧ l0 = 0 ∨ ∃ kk i, vlo = some (.int kk i) ∧ i = (l0 : Int)) (hhi : vhi = none ∧ h0 = m ∨ ∃ kk i, vhi = some (.int kk i) ∧ i = (h0 : Int)) (h1 : l0 ≤ h0) (h2 : h0 ≤ m) :
    OpV P n l S w0 L ⟨dst, .slice t x lo hi none, ty, pos, af, gd⟩ (Value.cut q l0 h0 k) := fun a w ha hp => by
  obtain ⟨hl, A, c, rfl, h3, h4, _⟩ := hr S w0 w hp
  have := run_slice_cut (P := P) (len := m) (cap := c) (A := A) ht vlo vhi l0 h0 hlo hhi h1 (by omega) w
  simp only [execOp, ha.eval hx, evO_map ha elo, evO_map ha ehi, Option.map_none, Sem.run_bind, this, Result.andThen_ok, Sem.run_pure]
/-- A string, cut. -/
theorem op_scut {t : Nat} {s : ByteArray} {lo hi : Option Operand} {vlo vhi : Option Value} (l0 h0 : Nat) (ht : P.underlying t = some .string) (hx : evO l x = some (.string s)) (elo : lo.map (evO l) = vlo.map some) (ehi : hi.map (evO l) = vhi.map some)
    (hlo : vlo = none ∧ l0 = 0 ∨ ∃ kk i, vlo = some (.int kk i) ∧ i = (l0 : Int)) (hhi : vhi = none ∧ h0 = s.size ∨ ∃ kk i, vhi = some (.int kk i) ∧ i = (h0 : Int)) (h1 : l0 ≤ h0) (h2 : h0 ≤ s.size) :
    OpP P n l ⟨dst, .slice t x lo hi none, ty, pos, af, gd⟩ (.string (s.extract l0 h0)) := fun a w ha => by
  have e1 : (Instr.sliceBounds false s.size s.size vlo vhi none).run P w = .ok (l0, h0, s.size) w := by
    rcases hlo with ⟨rfl, rfl⟩ | ⟨kk, i, rfl, rfl⟩ <;> rcases hhi with ⟨rfl, rfl⟩ | ⟨kk', i', rfl, rfl⟩
    · simp [Instr.sliceBounds]
    · simp [Instr.sliceBounds, Instr.sliceBound, asIntOf, h2]
    · simp [Instr.sliceBounds, Instr.sliceBound, asIntOf, h1]
    · simp [Instr.sliceBounds, Instr.sliceBound, asIntOf, h1, h2]
  simp [execOp, ha.eval hx, evO_map ha elo, evO_map ha ehi, Instr.sliceAt, run_underlying ht, Instr.slice, e1]
/-- xs[:m'] of a row of one's own stays a row: the value, and the heap said anew. -/
theorem row_take {S : Nat → Prop} {w0 w : World} {L : List Res} {v : Value} {e k m m' : Nat} {xs : List Value} (h : Hp S w0 w (.row v e k m xs :: L)) (hm : m' ≤ m) : Hp S w0 w (.row (Value.cut v 0 m' k) e k m' (xs.take (m' * k)) :: L) := by
  have ho : w.ownsRow 0 e k v m xs := h.at_ _ (.head _)
  have hle : m' * k ≤ m * k := Nat.mul_le_mul_right _ hm
  have hkey : (Value.cut v 0 m' k).ownBlock = v.ownBlock := by
    rcases ho.2 with ⟨rfl, rfl⟩ | ⟨g, cap, cur, rfl, _⟩
    · simp [Value.cut, Value.ownBlock]
    · simp only [Value.cut, Nat.zero_mul]
      split <;> simp [Value.ownBlock, Addr.add]
  refine h.as ?_ (fun _ => trivial) (fun g hg => by simp only [Res.keys, hkey] at hg ⊢; exact hg)
  refine ⟨by rw [List.length_take, ho.1]; omega, ?_⟩
  rcases ho.2 with ⟨rfl, rfl⟩ | ⟨g, cap, cur, rfl, hb, hh, hn, hmx, hs, ht⟩
  · obtain rfl : m' = 0 := by omega
    exact .inl ⟨by simp [Value.cut], rfl⟩
  · refine .inr ⟨g, cap, cur, ?_, hb, hh, by omega, hmx, hs, ?_⟩
    · simp only [Value.cut, Nat.zero_mul, Nat.sub_zero]
      split <;> simp [Addr.add]
    · rw [← ht, List.take_take, Nat.min_eq_left hle]
/-- xs[lo:] of a window. -/
theorem win_cut {S : Nat → Prop} {w0 w : World} {L : List Res} {v : Value} {e k m : Nat} {xs : List Value} (h : Hp S w0 w (.win v e k m xs :: L)) (lo : Nat) (hm : lo ≤ m) : Hp S w0 w (.win (Value.cut v lo m k) e k (m - lo) (xs.drop (lo * k)) :: L) := by
  obtain ⟨hl, A, c, rfl, h2, h3, h4⟩ := (show WinRow w v e k m xs from h.at_ _ (.head _))
  have hle : (m - lo) * k + lo * k = m * k := by rw [← Nat.add_mul]; congr 1; omega
  have hkey : (Value.cut (.slice A m c) lo m k).ownBlock = (Value.slice A m c).ownBlock := by
    simp only [Value.cut]
    split
    · cases A <;> rfl
    · cases A with
      | none => rfl
      | some a => simp only [Option.map_some, Value.ownBlock]; unfold Addr.add; split <;> rfl
  refine h.as ⟨by rw [List.length_drop]; omega, _, _, rfl, by omega, by omega, ?_⟩ (fun _ => trivial) (fun g hg => by simp only [Res.keys, hkey] at hg ⊢; exact hg)
  rcases h4 with ⟨rfl, rfl⟩ | ⟨g, off, cur, rfl, hg, hs, ht⟩
  · exact .inl ⟨by split <;> rfl, by omega⟩
  · by_cases hc : c = lo
    · rw [if_pos hc]
      have : m - lo = 0 := by omega
      refine .inr ⟨g, off, cur, rfl, hg, by rw [this]; omega, ?_⟩
      rw [this]
      simp only [Nat.zero_mul, List.take_zero]
      rw [List.drop_eq_nil_of_le (by rw [hl]; exact Nat.mul_le_mul_right _ (by omega))]
    · rw [if_neg hc]
      refine .inr ⟨g, off + lo * k, cur, by simp [add_lit], hg, by omega, ?_⟩
      rw [← ht, List.drop_take, List.drop_drop, show m * k - lo * k = (m - lo) * k by omega]
theorem OpX.make {t e k bytes m : Nat} {z : Value} {zs : List Value} {i : Int} {kl : IntKind} (ht : TSlice P t e k bytes z) (hx : evO l x = some (.int kl i)) (hy : evO l y = some (.int kl i)) (hi : i = (m : Int)) (hb0 : 0 < bytes) (hlen : bytes * m ≤ 281474976710656) (hz : (madeCells z.cells (m * k)).toList = zs) :
    OpX P n l S w0 L ⟨dst, .makeSlice t x y, ty, pos, af, gd⟩ (fun v L' => L' = .row v e k m zs :: L) := .of_run fun a w ha hp => by
  obtain ⟨i0, hi0, hzz⟩ := Option.map_eq_some_iff.1 ht.info
  simp only [Prod.mk.injEq] at hzz
  obtain ⟨hz0, hz1, hz2⟩ := hzz
  subst hi
  have hm : m ≤ 281474976710656 := Nat.le_trans (Nat.le_mul_of_pos_left _ hb0) hlen
  obtain ⟨w', hr, ho, hg⟩ := run_make_full (P := P) w 0 t e i0 z k ht.und hi0 hz0 hz1 kl kl m (by rw [hz2]; exact hlen) (by simp only [maxLen]; omega) (Nat.zero_le _)
  rw [hz] at ho
  have ho2 : w'.heap.size ≥ w.heap.size := hg.size
  refine ⟨_, w', _, ?_, rfl, hp.new ((Kp.grown hg).mono (fun g hg => by cases hg)) ho (fun g hg => ?_)⟩
  · simp [execOp, ha.eval hx, ha.eval hy, hr]
  · simp only [Res.keys, Value.ownBlock, Option.some.injEq] at hg; omega
theorem TL.make {t e k bytes m : Nat} {z : Value} {zs : List Value} {i : Int} {kl : IntKind} (hlt : Nat.blt d n = true) (ht : TSlice P t e k bytes z) (hx : evO l x = some (.int kl i)) (hy : evO l y = some (.int kl i)) (hi : i = (m : Int)) (hb0 : 0 < bytes) (hlen : bytes * m ≤ 281474976710656) (hz : (madeCells z.cells (m * k)).toList = zs)
    (h : ∀ v, TL P ops Q rest n ((d, v) :: l) S w0 (.row v e k m zs :: L)) : TL P ops Q (⟨some d, .makeSlice t x y, ty, pos, af, none⟩ :: rest) n l S w0 L := TL.opX hlt (OpX.make ht hx hy hi hb0 hlen hz) (by rintro v _ rfl; exact h v)
end
end Go.SK

set_option linter.unusedVariables false
set_option linter.unusedSimpArgs false
namespace Go.SK
open Go Go.RowKit

/-- p: yields whatever the world; t: yields in each world that meets the region's condition (a load, a call that only makes); o: alone may come up now; z: likewise, and may break the condition. -/
inductive Kd where
  | p | t | o | z
  deriving DecidableEq

section
variable {P : Program} {ops : Array Oper} {Q : Exit → Act → World → Prop} {C Sx : World → Prop} {ds : List Nat}

def YQ (P : Program) (ops : Array Oper) (C : World → Prop) (o : Oper) (v : Value) (a : Act) : Prop :=
  (Region.wanted o (yielded ops a.tmps) = true ∧ ∀ w, C w → ((execOp a.eval o).run P w = .ok (.value v) w ∨ ∃ f args, (execOp a.eval o).run P w = .ok (.enter f args) w ∧ Calls P f args w (fun e w' => e = .returned v ∧ Kp NoB w w'))) ∨
  (Region.wanted o (yielded ops a.tmps) = false ∧ v = undef)

theorem YQ.wpOp {i : Nat} {o : Oper} {v : Value} {a : Act} (hi : ops[i]? = some o) (hy : YQ P ops C o v a) {K : Act → World → Prop} {w : World} (hC : C w) (h : ∀ w', Kp NoB w w' → K (a.put o.dst v) w') : wpOp P ops Q i K a w := by
  unfold Go.wpOp
  simp only [hi]
  rcases hy with ⟨hw, hv⟩ | ⟨hw, rfl⟩
  · rw [if_pos hw]
    refine .inl ?_
    unfold Oper.wp
    rcases hv w hC with hr | ⟨f, args, hr, hc⟩
    · rw [hr, Oper.upon_value]; exact h w (Kp.refl _ _)
    · rw [hr, Oper.upon_enter]; exact hc.mono fun e w' ⟨he, hk⟩ => by subst he; exact h w' hk
  · rw [if_neg (by simp [hw])]; exact h w (Kp.refl _ _)

theorem YQ.of_same {o : Oper} {v : Value} {a a' : Act} (hy : YQ P ops C o v a) (he : execOp a'.eval o = execOp a.eval o) (hw : Region.wanted o (yielded ops a'.tmps) = Region.wanted o (yielded ops a.tmps)) : YQ P ops C o v a' := by
  unfold YQ at *
  rw [he, hw]
  exact hy

theorem wpOp_putQ {j : Nat} {oi oj : Oper} {v : Value} (hj : ops[j]? = some oj) (hap : oi.apart ops oj = true)
    (hsi : ∀ cs b, oi.op ≠ .select cs b) (hsj : ∀ cs b, oj.op ≠ .select cs b)
    (hQ : ∀ c a w, Q (.panic c) (a.put oi.dst v) w → Q (.panic c) a w) {K : Act → World → Prop} {a : Act} {w : World}
    (hy : YQ P ops C oi v a) (h : wpOp P ops Q j K (a.put oi.dst v) w) :
    wpOp P ops Q j (fun a' w' => YQ P ops C oi v a' ∧ K (a'.put oi.dst v) w') a w := by
  obtain ⟨h1, h2, h3⟩ := Oper.apart_spec hap
  have keep : ∀ (a : Act), YQ P ops C oi v a → ∀ u, YQ P ops C oi v (a.put oj.dst u) := fun a hy u =>
    hy.of_same (execOp_put oi hsi a oj.dst u h3) (wanted_put oi a oj.dst u h3)
  have keepD : ∀ d, YQ P ops C oi v { a with defers := d :: a.defers } := fun d => hy.of_same rfl rfl
  unfold wpOp at *
  simp only [hj] at *
  rw [wanted_put oj a oi.dst v h1] at h
  split
  · rename_i hw
    simp only [hw, if_true] at h
    rcases h with h | ⟨hasks, hlets⟩
    case inr => exact .inr ⟨by unfold Oper.asks at *; rw [execOp_put oj hsj a oi.dst v h1] at hasks; exact hasks, hlets⟩
    refine .inl ?_
    unfold Oper.wp at *
    rw [execOp_put oj hsj a oi.dst v h1] at h
    generalize (execOp a.eval oj).run P w = r at *
    cases r with
    | ok n w' =>
      cases n <;> simp only [Oper.upon] at h ⊢
      case value u => exact ⟨keep a hy u, by rw [← Act.put_comm a v u h2]; exact h⟩
      case skip => exact ⟨keep a hy _, by rw [← Act.put_comm a v undef h2]; exact h⟩
      case defer d =>
        refine ⟨keep _ (keepD d) _, ?_⟩
        rw [← Act.put_comm _ v undef h2, ← Act.put_defers]
        exact h
      case enter f args =>
        refine Calls.mono h fun e w'' he => ?_
        cases e with
        | returned u => exact ⟨keep a hy u, by rw [← Act.put_comm a v u h2]; exact he⟩
        | panicked c => exact hQ _ _ _ he
        | outgrown => exact he
      case row row args => exact Rows.mono h fun u w'' he => ⟨keep a hy u, by rw [← Act.put_comm a v u h2]; exact he⟩
    | halt x w' =>
      cases x <;> simp only [Oper.upon] at h ⊢
      case panic u => exact hQ _ _ _ h
  · rename_i hw
    simp only [hw] at h
    exact ⟨keep a hy _, by rw [← Act.put_comm a v undef h2]; exact h⟩

/-- Whatever order is picked, whatever is made meanwhile; Sx stays but for the operations of ds. -/
def wpAnyR (P : Program) (ops : Array Oper) (Q : Exit → Act → World → Prop) (Sx : World → Prop) (ds : List Nat) : Nat → Array Bool → Act → World → Prop
  | 0, listed, a, w => ∀ w', Kp NoB w w' → Region.ready .any ops listed = [] ∧ Q .normal a w'
  | fuel + 1, listed, a, w => ∀ w', Kp NoB w w' → (Region.ready .any ops listed = [] → Q .normal a w') ∧
    ∀ i ∈ Region.ready .any ops listed, wpOp P ops Q i (fun a1 w1 => (i ∉ ds → Sx w' → Sx w1) ∧ wpAnyR P ops Q Sx ds fuel (listed.setIfInBounds i true) a1 w1) a w'

theorem wpAnyR.quiet : ∀ {fuel : Nat} {listed : Array Bool} {a : Act} {w w' : World}, wpAnyR P ops Q Sx ds fuel listed a w → Kp NoB w w' → wpAnyR P ops Q Sx ds fuel listed a w'
  | 0, _, _, _, _, h, k => fun w2 k2 => h w2 (k.quiet k2)
  | _ + 1, _, _, _, _, h, k => fun w2 k2 => h w2 (k.quiet k2)
theorem wpAny_of_R : ∀ (fuel : Nat) (listed : Array Bool) (a : Act) (w : World), wpAnyR P ops Q Sx ds fuel listed a w → wpAny P .any ops Q fuel listed a w
  | 0, _, _, w, h => h w (Kp.refl _ _)
  | fuel + 1, _, _, w, h => ⟨(h w (Kp.refl _ _)).1, fun i hi => wpOp_mono (fun a' w' h' => wpAny_of_R fuel _ a' w' h'.2) ((h w (Kp.refl _ _)).2 i hi)⟩

theorem wpAnyR_first {i : Nat} {oi : Oper} {v : Value} (hi : ops[i]? = some oi) (hsel : ∀ (j : Nat) (o : Oper) cs b, ops[j]? = some o → o.op ≠ .select cs b)
    (hQ : ∀ c a w, Q (.panic c) (a.put oi.dst v) w → Q (.panic c) a w) (hCq : ∀ w w', Kp NoB w w' → C w → C w') (X : Array Bool → Prop) (hX : ∀ listed j, X listed → j ∈ Region.ready .any ops listed → j ≠ i → X (listed.setIfInBounds j true))
    (hC : ∀ listed j, X listed → j ∈ Region.ready .any ops listed → j ≠ i → listed.getD i true = false → ∀ w w1, (j ∉ ds → Sx w → Sx w1) → C w → C w1) :
    ∀ (fuel : Nat) (listed : Array Bool) (a : Act) (w : World),
      (∀ j oj, ops[j]? = some oj → j ≠ i → listed.getD j true = false → (∀ e ∈ oj.after, Region.binds .any e = true → e.on ≠ i) → oi.apart ops oj = true) →
      X listed → i ∈ Region.ready .any ops listed → YQ P ops C oi v a → C w →
      wpAnyR P ops Q Sx ds fuel (listed.setIfInBounds i true) (a.put oi.dst v) w → (∀ w', i ∉ ds → Sx w → Kp NoB w w' → Sx w') → (∀ w w', Kp NoB w w' → Sx w → Sx w') → wpAnyR P ops Q Sx ds (fuel + 1) listed a w := by
  intro fuel
  induction fuel with
  | zero =>
    intro listed a w _ _ hr hy hCw H _ hSq w' hk
    refine ⟨fun h => (by rw [h] at hr; cases hr), fun j hj => ?_⟩
    by_cases hji : j = i
    · subst hji; exact hy.wpOp hi (hCq _ _ hk hCw) (fun w2 hk2 => ⟨fun _ h => hSq _ _ hk2 h, H.quiet (hk.quiet hk2)⟩)
    · have := ready_mono hj hji
      rw [(H w (Kp.refl _ _)).1] at this
      cases this
  | succ fuel ih =>
    intro listed a w hfree hXl hr hy hCw H hS1 hSq w' hk
    refine ⟨fun h => (by rw [h] at hr; cases hr), fun j hj => ?_⟩
    by_cases hji : j = i
    · subst hji; exact hy.wpOp hi (hCq _ _ hk hCw) (fun w2 hk2 => ⟨fun _ h => hSq _ _ hk2 h, H.quiet (hk.quiet hk2)⟩)
    · have h1 := (H w' hk).2 j (ready_mono hj hji)
      obtain ⟨hjun, oj, hoj, hall⟩ := mem_ready.1 hj
      have hiun := (mem_ready.1 hr).1
      have hnot : ∀ e ∈ oj.after, Region.binds .any e = true → e.on ≠ i := fun e he hb heq => by
        have h1 := hall e he hb
        rw [heq] at h1
        rcases Nat.lt_or_ge i listed.size with h' | h'
        · simp [h'] at hiun h1; rw [hiun] at h1; cases h1
        · simp [Array.getElem?_eq_none h'] at h1
      have h2 := wpOp_putQ hoj (hfree j oj hoj hji hjun hnot) (fun cs b => hsel i oi cs b hi) (fun cs b => hsel j oj cs b hoj) hQ hy h1
      have hfree' : ∀ k ok, ops[k]? = some ok → k ≠ i → (listed.setIfInBounds j true).getD k true = false →
          (∀ e ∈ ok.after, Region.binds .any e = true → e.on ≠ i) → oi.apart ops ok = true := fun k ok hk hki hun hno => by
        refine hfree k ok hk hki ?_ hno
        by_cases hjk : j = k
        · subst hjk; exact hjun
        · rw [getD_set_ne true hjk] at hun; exact hun
      refine wpOp_mono (fun a' w1 h3 => ⟨h3.2.1, ih (listed.setIfInBounds j true) a' w1 hfree' (hX _ _ hXl hj hji) (ready_mono hr (Ne.symm hji)) h3.1 (hC _ _ hXl hj hji hiun _ _ h3.2.1 (hCq _ _ hk hCw)) ?_ (fun w2 _ h k2 => hSq _ _ k2 h) hSq⟩) h2
      rw [Array.setIfInBounds_comm _ _ hji]
      exact h3.2.2
end

/-! ### The check of an order, by numbers -/
def needsOf (o : Oper) : List Nat := (o.after.toList.filter (fun e => Region.binds .any e)).map (fun e => e.on)
def clashOf (ops : Array Oper) (i : Nat) (oi : Oper) : List Nat := (List.range ops.size).filter fun j => !(Nat.beq j i) && match ops[j]? with
  | some oj => !((needsOf oj).contains i || oi.apart ops oj)
  | none => false
def tbl (ops : Array Oper) : List (List Nat × List Nat) := (List.range ops.size).map fun i => match ops[i]? with
  | some o => (needsOf o, clashOf ops i o)
  | none => ([], [])
def rdyAt (T : List (List Nat × List Nat)) (l : List Bool) (i : Nat) : Bool := !l.getD i true && match T[i]? with
  | some r => r.1.all (fun j => l.getD j false)
  | none => false
def rdyT (T : List (List Nat × List Nat)) (l : List Bool) : List Nat := (List.range T.length).filter (rdyAt T l)
def freT (T : List (List Nat × List Nat)) (l : List Bool) (i : Nat) : Bool := match T[i]? with
  | some r => r.2.all (fun j => l.getD j true)
  | none => false
def cloT (T : List (List Nat × List Nat)) (l : List Bool) : Bool := (List.range T.length).all fun j => !l.getD j false || match T[j]? with
  | some r => r.1.all (fun k => l.getD k false)
  | none => true
/-- What each waits for, as bits: needs of earlier operations alone. -/
def ancs : List (List Nat × List Nat) → List Nat → List Nat
  | [], B => B
  | r :: T, B => ancs T (B ++ [r.1.foldl (fun b n => b ||| (2 ^ n ||| B.getD n 0)) 0])
/-- An order of one's own: where several loud operations may come up, one for each. -/
inductive Od where
  | nil
  | cons (h : Kd × Nat) (t : Od)
  | alt (a b : Od)
def Od.heads : Od → List Nat
  | .nil => []
  | .cons h _ => [h.2]
  | .alt a b => a.heads ++ b.heads
def linOk (T : List (List Nat × List Nat)) (B : List Nat) (ds : List Nat) : Od → Nat → List Bool → Bool → Bool
  | .nil, n, l, f => Nat.beq n 0 && !f && (rdyT T l).isEmpty
  | .cons (k, i) r, n, l, f => Nat.blt 0 n && (match k with
    | .p => !f && (freT T l i && rdyAt T l i)
    | .t => !f && (freT T l i && rdyAt T l i && cloT T l && ds.all fun d => l.getD d true || (Nat.blt d T.length && (B.getD d 0).testBit i))
    | .o => (f || (rdyT T l == [i])) && !ds.contains i
    | .z => (f || (rdyT T l == [i])) && ds.contains i) && linOk T B ds r (n - 1) (l.set i true) false
  | .alt a b, n, l, f => (f || (!(rdyT T l).isEmpty && (rdyT T l).all fun i => (a.heads ++ b.heads).contains i)) && linOk T B ds a n l true && linOk T B ds b n l true
def linChk (ops : Array Oper) (ds : List Nat) (ord : Od) : Bool :=
  Region.noSelect ops && linOk (tbl ops) (ancs (tbl ops) []) ds ord ops.size (List.replicate ops.size false) false

section
variable {ops : Array Oper}
theorem gdA (l : List Bool) (j : Nat) (b : Bool) : l.toArray.getD j b = l.getD j b := by simp [Array.getD_eq_getD_getElem?, List.getD_eq_getElem?_getD]
theorem need_all (o : Oper) (p : Nat → Bool) : o.after.all (fun e => !Region.binds .any e || p e.on) = (needsOf o).all p := by
  unfold needsOf
  rw [← Array.all_toList]
  induction o.after.toList with
  | nil => rfl
  | cons e r ih =>
    rw [List.all_cons, ih, List.filter_cons]
    cases h : Region.binds .any e <;> simp
theorem mem_needs {o : Oper} {j : Nat} : j ∈ needsOf o ↔ ∃ e ∈ o.after, Region.binds .any e = true ∧ e.on = j := by
  unfold needsOf
  simp only [List.mem_map, List.mem_filter, Array.mem_toList_iff]
  constructor
  · rintro ⟨e, ⟨h1, h2⟩, h3⟩; exact ⟨e, h1, h2, h3⟩
  · rintro ⟨e, h1, h2, h3⟩; exact ⟨e, ⟨h1, h2⟩, h3⟩
theorem tbl_length : (tbl ops).length = ops.size := by simp [tbl]
theorem tbl_some {i : Nat} {o : Oper} (h : ops[i]? = some o) : (tbl ops)[i]? = some (needsOf o, clashOf ops i o) := by
  have hi := (Array.getElem?_eq_some_iff.1 h).1
  unfold tbl
  rw [List.getElem?_map, List.getElem?_range hi, Option.map_some, h]
theorem tbl_none {i : Nat} (h : ops[i]? = none) : (tbl ops)[i]? = none := by
  have hi : ops.size ≤ i := Array.getElem?_eq_none_iff.1 h
  exact List.getElem?_eq_none (by rw [tbl_length]; exact hi)
theorem rdyAt_eq (l : List Bool) (i : Nat) : rdyAt (tbl ops) l i = (!l.toArray.getD i true && ((ops[i]?).map (·.after.all fun e => !Region.binds .any e || l.toArray.getD e.on false)).getD false) := by
  unfold rdyAt
  rw [gdA]
  cases h : ops[i]? with
  | none => rw [tbl_none h]; rfl
  | some o =>
    rw [tbl_some h]
    simp only [Option.map_some, Option.getD_some]
    rw [← need_all]
    simp only [gdA]
theorem ready_eq (l : List Bool) : Region.ready .any ops l.toArray = rdyT (tbl ops) l := by
  unfold Region.ready rdyT
  rw [tbl_length]
  refine List.filter_congr (fun i _ => ?_)
  rw [rdyAt_eq]
theorem rdyAt_mem {l : List Bool} {i : Nat} (h : rdyAt (tbl ops) l i = true) : i ∈ Region.ready .any ops l.toArray := by
  rw [ready_eq]
  unfold rdyT
  rw [List.mem_filter, List.mem_range]
  refine ⟨?_, h⟩
  unfold rdyAt at h
  rw [Bool.and_eq_true] at h
  cases hq : (tbl ops)[i]? with
  | none => rw [hq] at h; simp at h
  | some r => exact (List.getElem?_eq_some_iff.1 hq).1
theorem fre_spec {l : List Bool} {i : Nat} {oi : Oper} (hi : ops[i]? = some oi) (h : freT (tbl ops) l i = true) :
    ∀ j oj, ops[j]? = some oj → j ≠ i → l.toArray.getD j true = false → (∀ e ∈ oj.after, Region.binds .any e = true → e.on ≠ i) → oi.apart ops oj = true := by
  intro j oj hj hne hun hno
  unfold freT at h
  rw [tbl_some hi] at h
  simp only [List.all_eq_true] at h
  cases hap : oi.apart ops oj with
  | true => rfl
  | false =>
    have hlt : j < ops.size := (Array.getElem?_eq_some_iff.1 hj).1
    have hm : j ∈ clashOf ops i oi := by
      unfold clashOf
      rw [List.mem_filter, List.mem_range]
      refine ⟨hlt, ?_⟩
      have hb : Nat.beq j i = false := by
        cases hq : Nat.beq j i with
        | true => exact absurd (beq_of hq) hne
        | false => rfl
      have hc : (needsOf oj).contains i = false := by
        cases hq : (needsOf oj).contains i with
        | true =>
          have := mem_needs.1 (by simpa using hq : i ∈ needsOf oj)
          obtain ⟨e, he, hb, ho⟩ := this
          exact absurd ho (hno e he hb)
        | false => rfl
      have hc' : i ∉ needsOf oj := by simpa using hc
      simp [hb, hj, hc', hap]
    have := h j hm
    rw [gdA] at hun
    rw [hun] at this
    cases this
theorem clo_spec {l : List Bool} (h : cloT (tbl ops) l = true) : ∀ j oj, ops[j]? = some oj → l.toArray.getD j false = true → ∀ n ∈ needsOf oj, l.toArray.getD n false = true := by
  intro j oj hj hl n hn
  have hlt : j < ops.size := (Array.getElem?_eq_some_iff.1 hj).1
  have h1 := List.all_eq_true.1 h j (List.mem_range.2 (by rw [tbl_length]; exact hlt))
  rw [gdA] at hl ⊢
  rw [hl, tbl_some hj] at h1
  simp only [Bool.not_true, Bool.false_or, List.all_eq_true] at h1
  exact h1 n hn
/-- What is listed is closed. -/
def Clo (ops : Array Oper) (listed : Array Bool) : Prop := ∀ j oj, ops[j]? = some oj → listed.getD j false = true → ∀ n ∈ needsOf oj, listed.getD n false = true
theorem Clo.set {listed : Array Bool} {i : Nat} (h : Clo ops listed) (hi : i ∈ Region.ready .any ops listed) : Clo ops (listed.setIfInBounds i true) := by
  obtain ⟨_, oi, hoi, hall⟩ := mem_ready.1 hi
  intro j oj hj hl n hn
  by_cases hij : i = j
  · subst hij
    have : oj = oi := Option.some.inj (hj.symm.trans hoi)
    subst this
    obtain ⟨e, he, hb, ho⟩ := mem_needs.1 hn
    rw [← ho]
    exact getD_set_true (hall e he hb)
  · rw [getD_set_ne false hij] at hl
    exact getD_set_true (h j oj hj hl n hn)
theorem anc_get (T : List (List Nat × List Nat)) : ∀ (U B : List Nat) (V : List (List Nat × List Nat)), B.length + V.length = T.length → (∀ d r, T[d]? = some r → B.length ≤ d → V[d - B.length]? = some r) →
    ∀ d, d < B.length → (ancs V B).getD d 0 = B.getD d 0 := by
  intro U B V
  induction V generalizing B with
  | nil => intro _ _ d _; rfl
  | cons r V ih =>
    intro hl hV d hd
    unfold ancs
    rw [ih (B ++ [_]) (by simp at hl ⊢; omega) (fun d r' h1 h2 => by
      simp only [List.length_append, List.length_cons, List.length_nil] at h2 ⊢
      have := hV d r' h1 (by omega)
      rw [show d - B.length = (d - (B.length + (0 + 1))) + 1 by omega] at this
      simpa using this) d (by simp; omega)]
    simp [List.getD_eq_getElem?_getD, List.getElem?_append_left hd]
/-- The bits say so only where it is so. -/
def BitsOk (ops : Array Oper) (B : List Nat) : Prop := ∀ d, d < B.length → ∀ i, (B.getD d 0).testBit i = true → ∀ listed : Array Bool, Clo ops listed → (∀ o, ops[d]? = some o → (∀ n ∈ needsOf o, listed.getD n false = true) → listed.getD i false = true)
theorem foldl_or (B : List Nat) (i : Nat) : ∀ (ns : List Nat) (b : Nat), (ns.foldl (fun b n => b ||| (2 ^ n ||| B.getD n 0)) b).testBit i = true → b.testBit i = true ∨ ∃ n ∈ ns, n = i ∨ (B.getD n 0).testBit i = true
  | [], b, h => .inl h
  | n :: r, b, h => by
    rw [List.foldl_cons] at h
    rcases foldl_or B i r _ h with h1 | ⟨m, hm, h1⟩
    · rw [Nat.testBit_or, Nat.testBit_or, Bool.or_eq_true, Bool.or_eq_true] at h1
      rcases h1 with h1 | h1 | h1
      · exact .inl h1
      · rw [Nat.testBit_two_pow] at h1; exact .inr ⟨n, List.mem_cons_self, .inl (by simpa using h1)⟩
      · exact .inr ⟨n, List.mem_cons_self, .inr h1⟩
    · exact .inr ⟨m, List.mem_cons_of_mem _ hm, h1⟩
theorem bits_ok : ∀ (V : List (List Nat × List Nat)) (B : List Nat), B.length + V.length = (tbl ops).length → (∀ d r, (tbl ops)[d]? = some r → B.length ≤ d → V[d - B.length]? = some r) → BitsOk ops B → BitsOk ops (ancs V B) ∧ (ancs V B).length = (tbl ops).length
  | [], B, hl, _, h => ⟨h, by simpa [ancs] using hl⟩
  | r :: V, B, hl, hV, h => by
    unfold ancs
    refine bits_ok V _ (by simp at hl ⊢; omega) (fun d r' h1 h2 => ?_) ?_
    · simp only [List.length_append, List.length_cons, List.length_nil] at h2 ⊢
      have := hV d r' h1 (by omega)
      rw [show d - B.length = (d - (B.length + (0 + 1))) + 1 by omega] at this
      simpa using this
    · intro d hd i hb listed hc o ho hn
      simp only [List.length_append, List.length_cons, List.length_nil] at hd
      by_cases hlt : d < B.length
      · rw [List.getD_eq_getElem?_getD, List.getElem?_append_left hlt, ← List.getD_eq_getElem?_getD] at hb
        exact h d hlt i hb listed hc o ho hn
      · obtain rfl : d = B.length := by omega
        rw [List.getD_eq_getElem?_getD, List.getElem?_append_right (Nat.le_refl _)] at hb
        simp only [Nat.sub_self, List.getElem?_cons_zero, Option.getD_some] at hb
        have hr := hV B.length _ (tbl_some ho) (Nat.le_refl _)
        simp only [Nat.sub_self, List.getElem?_cons_zero, Option.some.injEq] at hr
        subst hr
        rcases foldl_or B i _ 0 hb with h1 | ⟨n, hm, h1⟩
        · simp at h1
        · rcases h1 with rfl | h1
          · exact hn _ hm
          · have hnl : n < B.length := by
              rcases Nat.lt_or_ge n B.length with h2 | h2
              · exact h2
              · rw [List.getD_eq_getElem?_getD, List.getElem?_eq_none h2] at h1; simp at h1
            have hlisted := hn n hm
            cases hon : ops[n]? with
            | none =>
              have h2 : ops.size ≤ n := Array.getElem?_eq_none_iff.1 hon
              rw [tbl_length] at hl
              simp at hl
              omega
            | some on => exact h n hnl i h1 listed hc on hon (fun m hm' => hc n on hon hlisted m hm')
theorem waits {listed : Array Bool} {d i : Nat} (hc : Clo ops listed) (hb : Nat.blt d (tbl ops).length = true) (h : ((ancs (tbl ops) []).getD d 0).testBit i = true) (hun : listed.getD i true = false) : d ∉ Region.ready .any ops listed := by
  intro hd
  obtain ⟨_, o, ho, hall⟩ := mem_ready.1 hd
  have hbo := bits_ok (ops := ops) (tbl ops) [] (by simp) (fun d r h _ => by simpa using h) (fun d hd => by simp at hd)
  have hlt : d < (tbl ops).length := by simpa [Nat.blt_eq] using hb
  have := hbo.1 d (by rw [hbo.2]; exact hlt) i h listed hc o ho (fun n hn => by
    obtain ⟨e, he, hb, hon⟩ := mem_needs.1 hn
    rw [← hon]; exact hall e he hb)
  rcases Nat.lt_or_ge i listed.size with h' | h'
  · simp [h'] at hun this
    rw [hun] at this
    cases this
  · simp [Array.getElem?_eq_none h'] at hun
end

/-! ### The walk in one order -/
section
variable {P : Program} {ops : Array Oper} {Q : Exit → Act → World → Prop} {Sx : World → Prop} {ds : List Nat}
def wpLin (P : Program) (ops : Array Oper) (Q : Exit → Act → World → Prop) (Sx : World → Prop) : Od → Act → World → Prop
  | .nil, a, w => Q .normal a w
  | .cons (.p, i) r, a, w => ∃ o v, ops[i]? = some o ∧ YQ P ops (fun _ => True) o v a ∧ ∀ w', Kp NoB w w' → wpLin P ops Q Sx r (a.put o.dst v) w'
  | .cons (.t, i) r, a, w => ∃ o v, ops[i]? = some o ∧ YQ P ops Sx o v a ∧ Sx w ∧ ∀ w', Kp NoB w w' → wpLin P ops Q Sx r (a.put o.dst v) w'
  | .cons (.o, i) r, a, w => wpOp P ops Q i (fun a1 w1 => (Sx w → Sx w1) ∧ ∀ w2, Kp NoB w1 w2 → wpLin P ops Q Sx r a1 w2) a w
  | .cons (.z, i) r, a, w => wpOp P ops Q i (fun a1 w1 => ∀ w2, Kp NoB w1 w2 → wpLin P ops Q Sx r a1 w2) a w
  | .alt x y, a, w => wpLin P ops Q Sx x a w ∧ wpLin P ops Q Sx y a w

theorem lin_sound (hsel : Region.noSelect ops = true) (hQ : ∀ c a w, ¬ Q (.panic c) a w) (hS : ∀ w w', Kp NoB w w' → Sx w → Sx w') :
    ∀ (ord : Od) (n : Nat) (l : List Bool) (a : Act) (w : World), (linOk (tbl ops) (ancs (tbl ops) []) ds ord n l false = true → (∀ w', Kp NoB w w' → wpLin P ops Q Sx ord a w') → wpAnyR P ops Q Sx ds n l.toArray a w) ∧
      (linOk (tbl ops) (ancs (tbl ops) []) ds ord n l true = true → (∀ w', Kp NoB w w' → wpLin P ops Q Sx ord a w') → 0 < n ∧ ∀ i ∈ ord.heads, ∀ w', Kp NoB w w' → wpOp P ops Q i (fun a1 w1 => (i ∉ ds → Sx w' → Sx w1) ∧ wpAnyR P ops Q Sx ds (n - 1) (l.toArray.setIfInBounds i true) a1 w1) a w')
  | .nil, n, l, a, w => by
    refine ⟨fun hok h => ?_, fun hok _ => by simp [linOk] at hok⟩
    simp only [linOk, Bool.and_eq_true] at hok
    obtain rfl : n = 0 := beq_of hok.1.1
    intro w' hk
    refine ⟨?_, h w' hk⟩
    rw [ready_eq]
    simpa using hok.2
  | .alt x y, n, l, a, w => by
    have ix := lin_sound hsel hQ hS x n l a w
    have iy := lin_sound hsel hQ hS y n l a w
    have hcore : linOk (tbl ops) (ancs (tbl ops) []) ds x n l true = true → linOk (tbl ops) (ancs (tbl ops) []) ds y n l true = true → (∀ w', Kp NoB w w' → wpLin P ops Q Sx (.alt x y) a w') → 0 < n ∧ ∀ i ∈ x.heads ++ y.heads, ∀ w', Kp NoB w w' → wpOp P ops Q i (fun a1 w1 => (i ∉ ds → Sx w' → Sx w1) ∧ wpAnyR P ops Q Sx ds (n - 1) (l.toArray.setIfInBounds i true) a1 w1) a w' := fun h1 h2 h => by
      obtain ⟨g1, g2⟩ := ix.2 h1 (fun w' k => (h w' k).1)
      obtain ⟨_, g3⟩ := iy.2 h2 (fun w' k => (h w' k).2)
      exact ⟨g1, fun i hi => (List.mem_append.1 hi).elim (g2 i) (g3 i)⟩
    refine ⟨fun hok h => ?_, fun hok h => ?_⟩
    · simp only [linOk, Bool.and_eq_true, Bool.false_or] at hok
      obtain ⟨g1, g2⟩ := hcore hok.1.2 hok.2 h
      obtain ⟨m, rfl⟩ : ∃ m, n = m + 1 := ⟨n - 1, by omega⟩
      intro w' hk
      have hall : ∀ i ∈ Region.ready .any ops l.toArray, i ∈ x.heads ++ y.heads := fun i hi => by
        rw [ready_eq] at hi
        have := List.all_eq_true.1 hok.1.1.2 i hi
        simpa using this
      refine ⟨fun h0 => ?_, fun j hj => g2 j (hall j hj) w' hk⟩
      rw [ready_eq] at h0
      have := hok.1.1.1
      rw [h0] at this
      simp at this
    · simp only [linOk, Bool.and_eq_true] at hok
      exact hcore hok.1.2 hok.2 h
  | .cons (k, i) r, n, l, a, w => by
    have eset : l.toArray.setIfInBounds i true = (l.set i true).toArray := by simp
    have ih := fun a w => (lin_sound hsel hQ hS r (n - 1) (l.set i true) a w).1
    refine ⟨fun hok h => ?_, fun hok h => ?_⟩
    · simp only [linOk, Bool.and_eq_true] at hok
      obtain ⟨⟨h0, h1⟩, h2⟩ := hok
      obtain ⟨m, rfl⟩ : ∃ m, n = m + 1 := ⟨n - 1, by have : 0 < n := by simpa [Nat.blt_eq] using h0
                                                     omega⟩
      simp only [Nat.add_sub_cancel] at h2 ih
      cases k with
      | p =>
        simp only [Bool.and_eq_true] at h1
        obtain ⟨o, v, ho, hy, hc⟩ := h w (Kp.refl _ _)
        have ih := ih (a.put o.dst v) w h2 hc
        rw [← eset] at ih
        exact wpAnyR_first (C := fun _ => True) ho (Region.noSelect_spec hsel) (fun c a w hq => absurd hq (hQ c _ w)) (fun _ _ _ h => h) (fun _ => True) (fun _ _ h _ _ => h) (fun _ _ _ _ _ _ _ _ _ h => h) _ _ _ _ (fre_spec ho h1.2.1) trivial (rdyAt_mem h1.2.2) hy trivial ih (fun w' _ h k => hS _ _ k h) hS
      | t =>
        simp only [Bool.and_eq_true] at h1
        obtain ⟨_, ⟨⟨f1, f2⟩, f3⟩, f4⟩ := h1
        obtain ⟨o, v, ho, hy, hSw, hc⟩ := h w (Kp.refl _ _)
        have ih := ih (a.put o.dst v) w h2 hc
        rw [← eset] at ih
        refine wpAnyR_first (C := Sx) ho (Region.noSelect_spec hsel) (fun c a w hq => absurd hq (hQ c _ w)) hS (fun listed => Clo ops listed ∧ ∀ d ∈ ds, listed.getD d true = false → Nat.blt d (tbl ops).length = true ∧ ((ancs (tbl ops) []).getD d 0).testBit i = true) ?_ ?_ _ _ _ _ (fre_spec ho f1) ⟨clo_spec f3, fun d hd hun => ?_⟩ (rdyAt_mem f2) hy hSw ih (fun w' _ h k => hS _ _ k h) hS
        · rintro listed j ⟨hcl, hd⟩ hj hji
          refine ⟨hcl.set hj, fun d hm hun => hd d hm ?_⟩
          by_cases hjd : j = d
          · subst hjd; exact (mem_ready.1 hj).1
          · rw [getD_set_ne true hjd] at hun; exact hun
        · rintro listed j ⟨hcl, hd⟩ hj hji hiun w w1 hk hw
          refine hk (fun hm => ?_) hw
          obtain ⟨g1, g2⟩ := hd j hm (mem_ready.1 hj).1
          exact waits hcl g1 g2 hiun hj
        · have := List.all_eq_true.1 f4 d hd
          rw [gdA] at hun
          rw [hun] at this
          simpa using this
      | o =>
        simp only [Bool.and_eq_true, Bool.false_or, beq_iff_eq] at h1
        have hr : Region.ready .any ops l.toArray = [i] := by rw [ready_eq]; exact h1.1
        intro w' hk
        refine ⟨fun h0 => (by rw [hr] at h0; cases h0), fun j hj => ?_⟩
        rw [hr] at hj
        obtain rfl : j = i := by simpa using hj
        refine wpOp_mono (fun a1 w1 ⟨g1, g2⟩ => ⟨fun _ => g1, ?_⟩) (h w' hk)
        rw [eset]
        exact ih a1 w1 h2 g2
      | z =>
        simp only [Bool.and_eq_true, Bool.false_or, beq_iff_eq] at h1
        have hr : Region.ready .any ops l.toArray = [i] := by rw [ready_eq]; exact h1.1
        intro w' hk
        refine ⟨fun h0 => (by rw [hr] at h0; cases h0), fun j hj => ?_⟩
        rw [hr] at hj
        obtain rfl : j = i := by simpa using hj
        refine wpOp_mono (fun a1 w1 g2 => ⟨fun hn => absurd (by simpa using h1.2) hn, ?_⟩) (h w' hk)
        rw [eset]
        exact ih a1 w1 h2 g2
    · simp only [linOk, Bool.and_eq_true] at hok
      obtain ⟨⟨h0, h1⟩, h2⟩ := hok
      have hn : 0 < n := by simpa [Nat.blt_eq] using h0
      refine ⟨hn, fun j hj w' hk => ?_⟩
      obtain rfl : j = i := by simpa [Od.heads] using hj
      cases k with
      | p => simp at h1
      | t => simp at h1
      | o =>
        refine wpOp_mono (fun a1 w1 ⟨g1, g2⟩ => ⟨fun _ => g1, ?_⟩) (h w' hk)
        rw [eset]
        exact ih a1 w1 h2 g2
      | z =>
        simp only [Bool.and_eq_true] at h1
        refine wpOp_mono (fun a1 w1 g2 => ⟨fun hn => absurd (by simpa using h1.2) hn, ?_⟩) (h w' hk)
        rw [eset]
        exact ih a1 w1 h2 g2

def noPanic (Q : Exit → Act → World → Prop) : Exit → Act → World → Prop
  | .panic _, _, _ => False
  | e, a, w => Q e a w
end

/-- The judgement on what is left of such a region. -/
def TR (P : Program) (ops : Array Oper) (Q : Exit → Act → World → Prop) (LS : List Res) (ord : Od) (n : Nat) (l : FrL) (S : Nat → Prop) (w0 : World) (L : List Res) : Prop :=
  ∀ a w, Has n l a → Hp S w0 w L → wpLin P ops (noPanic Q) (fun w => Hp S w0 w LS) ord a w

section
variable {P : Program} {Q : Exit → Act → World → Prop} {n : Nat} {l l' : FrL} {S : Nat → Prop} {w0 : World} {L L' LS : List Res} {ops : Array Oper} {ord : Od} {d i : Nat} {op : Op} {ty : TypeId} {pos : String} {af : Array Edge} {dst : Option Tmp} {gd : Option (Nat × Bool)} {x y c : Operand} {v : Value}

theorem TC.draw {id : Nat} {os : List Oper} (ds : List Nat) (ord : Od) (hm : P.follows .mixedOrders = true) (hok : linChk os.toArray ds ord = true) (h : TR P os.toArray Q L ord n l S w0 L) : TC P (.region id os.toArray true) Q n l S w0 L := fun a w ha hp => by
  simp only [linChk, Bool.and_eq_true] at hok
  obtain ⟨h1, h3⟩ := hok
  have hp' : Hp S w0 { w with drawn := w.drawn + 1 } L := hp.quiet (Kp.drawn w _)
  have := lin_sound (P := P) (Q := noPanic Q) (Sx := fun w => Hp S w0 w L) (ds := ds) h1 (fun c a w hq => hq) (fun w w' k h => h.quiet k) ord os.toArray.size (List.replicate os.toArray.size false) a { w with drawn := w.drawn + 1 }
  have this := this.1 h3 (fun w' k => h a w' ha (hp'.quiet k))
  have e1 : (List.replicate os.toArray.size false).toArray = Array.replicate os.toArray.size false := by simp
  rw [e1] at this
  refine Code.wp_mono (Q := noPanic Q) (fun e a w hq => ?_) (wp_region_any hm (wpAny_of_R _ _ _ _ this))
  cases e <;> first | exact hq | exact hq.elim
/-- With less held as the region's condition. -/
theorem TC.drawS {id : Nat} {os : List Oper} (LS : List Res) (ds : List Nat) (ord : Od) (hm : P.follows .mixedOrders = true) (hok : linChk os.toArray ds ord = true) (h : TR P os.toArray Q LS ord n l S w0 L) : TC P (.region id os.toArray true) Q n l S w0 L := fun a w ha hp => by
  simp only [linChk, Bool.and_eq_true] at hok
  obtain ⟨h1, h3⟩ := hok
  have hp' : Hp S w0 { w with drawn := w.drawn + 1 } L := hp.quiet (Kp.drawn w _)
  have := lin_sound (P := P) (Q := noPanic Q) (Sx := fun w => Hp S w0 w LS) (ds := ds) h1 (fun c a w hq => hq) (fun w w' k h => h.quiet k) ord os.toArray.size (List.replicate os.toArray.size false) a { w with drawn := w.drawn + 1 }
  have this := this.1 h3 (fun w' k => h a w' ha (hp'.quiet k))
  have e1 : (List.replicate os.toArray.size false).toArray = Array.replicate os.toArray.size false := by simp
  rw [e1] at this
  refine Code.wp_mono (Q := noPanic Q) (fun e a w hq => ?_) (wp_region_any hm (wpAny_of_R _ _ _ _ this))
  cases e <;> first | exact hq | exact hq.elim

theorem TR.nil (h : TQ Q .normal n l S w0 L) : TR P ops Q LS .nil n l S w0 L := fun a w ha hp => h a w ha hp
theorem TR.alt {x y : Od} (hx : TR P ops Q LS x n l S w0 L) (hy : TR P ops Q LS y n l S w0 L) : TR P ops Q LS (.alt x y) n l S w0 L := fun a w ha hp => ⟨hx a w ha hp, hy a w ha hp⟩
theorem TR.hp (hw : ∀ w, Hp S w0 w L → Hp S w0 w L') (h : TR P ops Q LS ord n l S w0 L') : TR P ops Q LS ord n l S w0 L := fun a w ha hp => h a w ha (hw w hp)

/-- What a guard has come to. -/
def Wt (ops : Array Oper) (l : FrL) (gd : Option (Nat × Bool)) (b : Bool) : Prop := ∀ (n : Nat) (a : Act) (o : Oper), Has n l a → o.guard = gd → Region.wanted o (yielded ops a.tmps) = b
theorem wt0 : Wt ops l none true := fun n a o ha hg => by simp [Region.wanted, hg]
theorem wtT {j dj : Nat} {b : Bool} (hj : (ops[j]?).bind (·.dst) = some dj) (hv : get l dj = some (.bool b)) : Wt ops l (some (j, b)) true := fun n a o ha hg => by
  have hy : yielded ops a.tmps j = some b := by simp [yielded, hj, ha.slot dj _ hv]
  simp [Region.wanted, hg, hy]
theorem wtN {j dj : Nat} {b : Bool} {u : Value} (hj : (ops[j]?).bind (·.dst) = some dj) (hv : get l dj = some u) (hne : u ≠ .bool b) : Wt ops l (some (j, b)) false := fun n a o ha hg => by
  have hy : yielded ops a.tmps j ≠ some b := by
    simp only [yielded, hj, Option.bind_some, ha.slot dj _ hv]
    cases u <;> simp_all
  simpa [Region.wanted, hg] using hy
theorem wtF {j dj : Nat} {b b' : Bool} (hj : (ops[j]?).bind (·.dst) = some dj) (hv : get l dj = some (.bool b')) (hne : (b' == b) = false) : Wt ops l (some (j, b)) false := wtN hj hv (by intro e; injection e with e; subst e; simp at hne)
theorem wtFt {j dj : Nat} (hj : (ops[j]?).bind (·.dst) = some dj) (hv : get l dj = some (.bool true)) : Wt ops l (some (j, false)) false := wtF hj hv rfl
theorem wtFf {j dj : Nat} (hj : (ops[j]?).bind (·.dst) = some dj) (hv : get l dj = some (.bool false)) : Wt ops l (some (j, true)) false := wtF hj hv rfl
theorem wtU {j dj : Nat} {b : Bool} (hj : (ops[j]?).bind (·.dst) = some dj) (hv : get l dj = some undef) : Wt ops l (some (j, b)) false := wtN hj hv (by intro e; cases e)

theorem TR.p (hi : ops[i]? = some ⟨some d, op, ty, pos, af, gd⟩) (hlt : Nat.blt d n = true) (hw : Wt ops l gd true) (ho : OpP P n l ⟨some d, op, ty, pos, af, gd⟩ v) (h : TR P ops Q LS ord n ((d, v) :: l) S w0 L) : TR P ops Q LS (.cons (.p, i) ord) n l S w0 L := fun a w ha hp =>
  ⟨_, v, hi, .inl ⟨hw n a _ ha rfl, fun w _ => .inl (ho a w ha)⟩, fun w' k => h _ w' (ha.put hlt v) (hp.quiet k)⟩
/-- It is not carried out. -/
theorem TR.off (hi : ops[i]? = some ⟨some d, op, ty, pos, af, gd⟩) (hlt : Nat.blt d n = true) (hw : Wt ops l gd false) (h : TR P ops Q LS ord n ((d, undef) :: l) S w0 L) : TR P ops Q LS (.cons (.p, i) ord) n l S w0 L := fun a w ha hp =>
  ⟨_, undef, hi, .inr ⟨hw n a _ ha rfl, rfl⟩, fun w' k => h _ w' (ha.put hlt undef) (hp.quiet k)⟩
theorem TR.offT (hi : ops[i]? = some ⟨some d, op, ty, pos, af, gd⟩) (hlt : Nat.blt d n = true) (hw : Wt ops l gd false) (hs : ∀ w, Hp S w0 w L → Hp S w0 w LS) (h : TR P ops Q LS ord n ((d, undef) :: l) S w0 L) : TR P ops Q LS (.cons (.t, i) ord) n l S w0 L := fun a w ha hp =>
  ⟨_, undef, hi, .inr ⟨hw n a _ ha rfl, rfl⟩, hs w hp, fun w' k => h _ w' (ha.put hlt undef) (hp.quiet k)⟩
theorem TR.offO (hi : ops[i]? = some ⟨some d, op, ty, pos, af, gd⟩) (hlt : Nat.blt d n = true) (hw : Wt ops l gd false) (hs : ∀ w, Hp S w0 w L → Hp S w0 w LS) (h : TR P ops Q LS ord n ((d, undef) :: l) S w0 L) : TR P ops Q LS (.cons (.o, i) ord) n l S w0 L := fun a w ha hp => by
  unfold wpLin wpOp
  simp only [hi]
  rw [if_neg (by rw [hw n a _ ha rfl]; simp)]
  exact ⟨fun _ => hs w hp, fun w2 k => h _ w2 (ha.put hlt undef) (hp.quiet k)⟩
theorem TR.t (hi : ops[i]? = some ⟨some d, op, ty, pos, af, gd⟩) (hlt : Nat.blt d n = true) (hw : Wt ops l gd true) (ho : OpV P n l S w0 LS ⟨some d, op, ty, pos, af, gd⟩ v) (hs : ∀ w, Hp S w0 w L → Hp S w0 w LS) (h : TR P ops Q LS ord n ((d, v) :: l) S w0 L) : TR P ops Q LS (.cons (.t, i) ord) n l S w0 L := fun a w ha hp =>
  ⟨_, v, hi, .inl ⟨hw n a _ ha rfl, fun w hS => .inl (ho a w ha hS)⟩, hs w hp, fun w' k => h _ w' (ha.put hlt v) (hp.quiet k)⟩
theorem TR.tcall {f : FuncId} {as : Array Operand} {ts : Array TypeId} {vs : List Value} (hi : ops[i]? = some ⟨some d, .call { callee := .value (.func f), args := as, argTypes := ts }, ty, pos, af, gd⟩) (hlt : Nat.blt d n = true) (hw : Wt ops l gd true) (he : Enters P f) (has : evOs l as.toList = some vs)
    (hc : ∀ w, Hp S w0 w LS → Calls P f vs.toArray w fun e w' => e = .returned v ∧ Kp NoB w w') (hs : ∀ w, Hp S w0 w L → Hp S w0 w LS) (h : TR P ops Q LS ord n ((d, v) :: l) S w0 L) : TR P ops Q LS (.cons (.t, i) ord) n l S w0 L := fun a w ha hp =>
  ⟨_, v, hi, .inl ⟨hw n a _ ha rfl, fun w hS => .inr ⟨f, _, run_call he ha has, hc w hS⟩⟩, hs w hp, fun w' k => h _ w' (ha.put hlt v) (hp.quiet k)⟩
theorem TR.o {R : Value → List Res → Prop} (hi : ops[i]? = some ⟨some d, op, ty, pos, af, gd⟩) (hlt : Nat.blt d n = true) (hw : Wt ops l gd true) (ho : OpX P n l S w0 L ⟨some d, op, ty, pos, af, gd⟩ R) (hs : ∀ v L', R v L' → ∀ w, Hp S w0 w L' → Hp S w0 w LS) (h : ∀ v L', R v L' → TR P ops Q LS ord n ((d, v) :: l) S w0 L') : TR P ops Q LS (.cons (.o, i) ord) n l S w0 L := fun a w ha hp => by
  unfold wpLin wpOp
  simp only [hi]
  rw [if_pos (hw n a _ ha rfl)]
  exact .inl (ho a w ha hp _ _ fun v w' L' hR hp' => And.intro (fun _ => hs v L' hR w' hp') (fun w2 k => h v L' hR _ w2 (ha.put hlt v) (hp'.quiet k)))
theorem TR.o0 {R : Value → List Res → Prop} (hi : ops[i]? = some ⟨none, op, ty, pos, af, gd⟩) (hw : Wt ops l gd true) (ho : OpX P n l S w0 L ⟨none, op, ty, pos, af, gd⟩ R) (hs : ∀ v L', R v L' → ∀ w, Hp S w0 w L' → Hp S w0 w LS) (h : ∀ v L', R v L' → TR P ops Q LS ord n l S w0 L') : TR P ops Q LS (.cons (.o, i) ord) n l S w0 L := fun a w ha hp => by
  unfold wpLin wpOp
  simp only [hi]
  rw [if_pos (hw n a _ ha rfl)]
  exact .inl (ho a w ha hp _ _ fun v w' L' hR hp' => ⟨fun _ => hs v L' hR w' hp', fun w2 k => h v L' hR _ w2 ha (hp'.quiet k)⟩)
theorem TR.z {R : Value → List Res → Prop} (hi : ops[i]? = some ⟨some d, op, ty, pos, af, gd⟩) (hlt : Nat.blt d n = true) (hw : Wt ops l gd true) (ho : OpX P n l S w0 L ⟨some d, op, ty, pos, af, gd⟩ R) (h : ∀ v L', R v L' → TR P ops Q LS ord n ((d, v) :: l) S w0 L') : TR P ops Q LS (.cons (.z, i) ord) n l S w0 L := fun a w ha hp => by
  unfold wpLin wpOp
  simp only [hi]
  rw [if_pos (hw n a _ ha rfl)]
  exact .inl (ho a w ha hp _ _ fun v w' L' hR hp' w2 k => h v L' hR _ w2 (ha.put hlt v) (hp'.quiet k))
theorem TR.z0 {R : Value → List Res → Prop} (hi : ops[i]? = some ⟨none, op, ty, pos, af, gd⟩) (hw : Wt ops l gd true) (ho : OpX P n l S w0 L ⟨none, op, ty, pos, af, gd⟩ R) (h : ∀ v L', R v L' → TR P ops Q LS ord n l S w0 L') : TR P ops Q LS (.cons (.z, i) ord) n l S w0 L := fun a w ha hp => by
  unfold wpLin wpOp
  simp only [hi]
  rw [if_pos (hw n a _ ha rfl)]
  exact .inl (ho a w ha hp _ _ fun v w' L' hR hp' w2 k => h v L' hR _ w2 ha (hp'.quiet k))
end
end Go.SK
