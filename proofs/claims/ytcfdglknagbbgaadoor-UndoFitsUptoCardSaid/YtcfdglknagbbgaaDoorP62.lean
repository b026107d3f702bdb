/- Plain words: all edits undone and done again; histories of short texts. -/
import Derived.Test.YtcfdglknagbbgaaDoorP61
set_option linter.unusedVariables false
set_option linter.unusedSimpArgs false
set_option maxRecDepth 100000
namespace Go.SK
open Go
section
variable {A : Int} {h : HS} {s : ByteArray} {e : List Part}
theorem HG.mineA (g : HG A h s) (z : applyE e s = 0) (ht : toS e ≤ 1048576) (hA : ((dec s).length : Int) ≤ A) : h.mineE e s = 0 ∧ HG A (h.mine e s) (applyF e s) ∧ (h.mine e s).back = onH h.back (invF e s) ∧ (h.mine e s).again = [] := by
  obtain ⟨hv, oe, hn⟩ := applyE_z z
  have hf := g.fits z ht
  obtain ⟨a1, a2, a3, a4, a5⟩ := apply_law hv oe hn
  obtain ⟨b1, b2, b3, b4, _⟩ := inv_law hv oe hn
  have hz : h.mineE e s = 0 := by unfold HS.mineE; rw [if_pos hf]; exact b1
  have hm : h.mine e s = ⟨onH h.back (invF e s), [], (sizeF e).2⟩ := if_pos hz
  have hs := (ok_size oe).2.2
  have hp := inv_puts hv oe hn
  have hgn := g.n; have hgl := g.nle
  rw [hm]
  refine ⟨hz, ⟨a3, by show (sizeF e).2 = _; rw [hs]; omega, by show (sizeF e).2 ≤ _; omega, ?_, trivial, ?_, by show ([] : Pile).length ≤ 50; simp⟩, rfl, rfl⟩
  · show PO A (sizeF e).2 (onH h.back (invF e s))
    rw [hs, ← b3]
    exact g.b.on b2 (by omega) (by omega)
  · show (onH h.back (invF e s)).length ≤ 50
    rw [onH_len]; omega
theorem HG.undoA (g : HG A h s) {x : List Part} {r : Pile} (hb : h.back = x :: r) (ht : toS x ≤ 1048576) (hA : ((dec s).length : Int) ≤ A) : h.undoE s = 0 ∧ h.undoF s = x ∧ applyE x s = 0 ∧ HG A (h.undo s) (applyF x s) ∧ (h.undo s).back = r ∧ (h.undo s).again = onH h.again (invF x s) := by
  have gb := g.b
  rw [hb] at gb
  obtain ⟨ox, hx, hp, hr⟩ := gb
  have hgn := g.n; have hgl := g.nle
  have hu : h.undoE s = moveE (x :: r) h.n s := by unfold HS.undoE; rw [hb]
  have huf : h.undoF s = moveF (x :: r) h.n s := by unfold HS.undoF; rw [hb]
  obtain ⟨z1, z2, z3⟩ := moveE_cons (r := r) g.v g.n ox hx
  obtain ⟨a1, a2, a3, a4, a5⟩ := apply_law g.v ox (by omega)
  obtain ⟨b1, b2, b3, b4, _⟩ := inv_law g.v ox (by omega)
  have hs := (ok_size ox).2.2
  have hpp := inv_puts g.v ox (by omega)
  have hm : h.undo s = ⟨r, onH h.again (invF x s), (sizeF x).2⟩ := by unfold HS.undo; rw [if_pos (by rw [hu]; exact z1), hb]; rfl
  have hbl := g.bl
  rw [hb, List.length_cons] at hbl
  rw [hm]
  refine ⟨by rw [hu]; exact z1, by rw [huf]; exact z2, z3, ⟨a3, by show (sizeF x).2 = _; rw [hs]; omega, by show (sizeF x).2 ≤ _; omega, by show PO A (sizeF x).2 r; rw [hs]; exact hr, ?_, by show r.length ≤ 50; omega, by show (onH h.again (invF x s)).length ≤ 50; rw [onH_len]; omega⟩, rfl, rfl⟩
  show PO A (sizeF x).2 (onH h.again (invF x s))
  rw [hs, ← b3]
  exact g.a.on b2 (by omega) (by omega)
theorem HG.redoA (g : HG A h s) {x : List Part} {r : Pile} (hb : h.again = x :: r) (ht : toS x ≤ 1048576) (hA : ((dec s).length : Int) ≤ A) : h.redoE s = 0 ∧ h.redoF s = x ∧ applyE x s = 0 ∧ HG A (h.redo s) (applyF x s) ∧ (h.redo s).again = r ∧ (h.redo s).back = onH h.back (invF x s) := by
  have gb := g.a
  rw [hb] at gb
  obtain ⟨ox, hx, hp, hr⟩ := gb
  have hgn := g.n; have hgl := g.nle
  have hu : h.redoE s = moveE (x :: r) h.n s := by unfold HS.redoE; rw [hb]
  have huf : h.redoF s = moveF (x :: r) h.n s := by unfold HS.redoF; rw [hb]
  obtain ⟨z1, z2, z3⟩ := moveE_cons (r := r) g.v g.n ox hx
  obtain ⟨a1, a2, a3, a4, a5⟩ := apply_law g.v ox (by omega)
  obtain ⟨b1, b2, b3, b4, _⟩ := inv_law g.v ox (by omega)
  have hs := (ok_size ox).2.2
  have hpp := inv_puts g.v ox (by omega)
  have hm : h.redo s = ⟨onH h.back (invF x s), r, (sizeF x).2⟩ := by unfold HS.redo; rw [if_pos (by rw [hu]; exact z1), hb]; rfl
  have hbl := g.al
  rw [hb, List.length_cons] at hbl
  rw [hm]
  refine ⟨by rw [hu]; exact z1, by rw [huf]; exact z2, z3, ⟨a3, by show (sizeF x).2 = _; rw [hs]; omega, by show (sizeF x).2 ≤ _; omega, ?_, by show PO A (sizeF x).2 r; rw [hs]; exact hr, by show (onH h.back (invF x s)).length ≤ 50; rw [onH_len]; omega, by show r.length ≤ 50; omega⟩, rfl, rfl⟩
  show PO A (sizeF x).2 (onH h.back (invF x s))
  rw [hs, ← b3]
  exact g.b.on b2 (by omega) (by omega)
end
/-! ### So many edits done, undone, and done again -/
def txt (E : List (List Part)) (s : ByteArray) : Nat → ByteArray
  | 0 => s
  | k + 1 => applyF (E.getD k []) (txt E s k)
def ivl (E : List (List Part)) (s : ByteArray) : Nat → Pile
  | 0 => []
  | k + 1 => invF (E.getD k []) (txt E s k) :: ivl E s k
def txts (E : List (List Part)) (s : ByteArray) : List ByteArray := (List.range (E.length + 1)).map (txt E s)
section
variable {E : List (List Part)} {s : ByteArray} {e : List Part} {h : HS} {k : Nat}
theorem ivl_len : ∀ k, (ivl E s k).length = k
  | 0 => rfl
  | k + 1 => by rw [ivl, List.length_cons, ivl_len k]
theorem getD_app (hk : k < E.length) : (E ++ [e]).getD k [] = E.getD k [] := by
  rw [List.getD_eq_getElem?_getD, List.getElem?_append_left hk, List.getD_eq_getElem?_getD]
theorem getD_lastE : (E ++ [e]).getD E.length [] = e := by
  rw [List.getD_eq_getElem?_getD, List.getElem?_append_right (Nat.le_refl _)]; simp
theorem txt_app : ∀ k, k ≤ E.length → txt (E ++ [e]) s k = txt E s k
  | 0, _ => rfl
  | k + 1, hk => by rw [txt, txt, txt_app k (by omega), getD_app (by omega)]
theorem ivl_app : ∀ k, k ≤ E.length → ivl (E ++ [e]) s k = ivl E s k
  | 0, _ => rfl
  | k + 1, hk => by rw [ivl, ivl, ivl_app k (by omega), txt_app k (by omega), getD_app (by omega)]
theorem txts_app : txts (E ++ [e]) s = txts E s ++ [applyF e (txt E s E.length)] := by
  unfold txts
  rw [List.length_append, List.length_singleton, List.range_succ, List.map_append, List.map_singleton, txt, getD_lastE, txt_app _ (Nat.le_refl _)]
  congr 1
  exact List.map_congr_left fun k hk => txt_app k (by have := List.mem_range.1 hk; omega)
theorem txts_len : (txts E s).length = E.length + 1 := by unfold txts; simp
theorem txts_get (hk : k ≤ E.length) : (txts E s).getD k ⟨#[]⟩ = txt E s k := by
  unfold txts
  rw [List.getD_eq_getElem?_getD, List.getElem?_map, List.getElem?_range (by omega)]; rfl
structure AL (E : List (List Part)) (s : ByteArray) (h : HS) : Prop where
  g : HG 1048576 h (txt E s E.length)
  b : h.back = ivl E s E.length
  a : h.again = []
  z : ∀ k, k < E.length → applyE (E.getD k []) (txt E s k) = 0 ∧ toS (E.getD k []) ≤ 1048576 ∧ ((dec (txt E s k)).length : Int) ≤ 1048576
  sm : ∀ k, k < E.length → Sm (E.getD k [])
theorem AL.start (hv : valid s = true) (hn : (dec s).length ≤ 1048576) : AL [] s (hs0 s) := ⟨HG.start hv hn, rfl, rfl, fun k hk => absurd hk (by simp), fun k hk => absurd hk (by simp)⟩
theorem AL.step (u : AL E s h) (hl : E.length < 50) (z : applyE e (txt E s E.length) = 0) (ht : toS e ≤ 1048576) (hs : Sm e) :
    h.mineE e (txt E s E.length) = 0 ∧ AL (E ++ [e]) s (h.mine e (txt E s E.length)) ∧ txt (E ++ [e]) s (E ++ [e]).length = applyF e (txt E s E.length) := by
  obtain ⟨m1, m2, m3, m4⟩ := u.g.mine z ht (Int.le_refl _)
  have hlen : (E ++ [e]).length = E.length + 1 := by simp
  have e1 : txt (E ++ [e]) s (E ++ [e]).length = applyF e (txt E s E.length) := by rw [hlen, txt, getD_lastE, txt_app _ (Nat.le_refl _)]
  refine ⟨m1, ⟨by rw [e1]; exact m2, ?_, m4, fun k hk => ?_, fun k hk => ?_⟩, e1⟩
  · rw [m3, u.b, hlen, ivl, getD_lastE, txt_app _ (Nat.le_refl _), ivl_app _ (Nat.le_refl _)]
    exact List.take_of_length_le (by rw [List.length_cons, ivl_len]; omega)
  · rw [hlen] at hk
    rcases Nat.lt_or_ge k E.length with h1 | h1
    · rw [getD_app h1, txt_app k (by omega)]; exact u.z k h1
    · obtain rfl : k = E.length := by omega
      rw [getD_lastE, txt_app _ (Nat.le_refl _)]
      have := u.g.n; have := u.g.nle
      exact ⟨z, ht, by omega⟩
  · rw [hlen] at hk
    rcases Nat.lt_or_ge k E.length with h1 | h1
    · rw [getD_app h1]; exact u.sm k h1
    · obtain rfl : k = E.length := by omega
      rw [getD_lastE]; exact hs
structure UL (E : List (List Part)) (s : ByteArray) (k : Nat) (h : HS) : Prop where
  g : HG 1048576 h (txt E s k)
  b : h.back = ivl E s k
  a : h.again = E.drop k
  kl : k ≤ E.length
theorem AL.turn (u : AL E s h) : UL E s E.length h := ⟨u.g, u.b, by rw [u.a, List.drop_of_length_le (Nat.le_refl _)], Nat.le_refl _⟩
theorem drop_getDE (hk : k < E.length) : E.drop k = E.getD k [] :: E.drop (k + 1) := by
  rw [List.drop_eq_getElem_cons hk, List.getD_eq_getElem?_getD, List.getElem?_eq_getElem hk]; rfl
theorem UL.step {h0 : HS} (A : AL E s h0) (hl : E.length ≤ 50) (u : UL E s (k + 1) h) : h.undoE (txt E s (k + 1)) = 0 ∧ h.undoF (txt E s (k + 1)) = invF (E.getD k []) (txt E s k) ∧ applyF (invF (E.getD k []) (txt E s k)) (txt E s (k + 1)) = txt E s k ∧ Sm (invF (E.getD k []) (txt E s k)) ∧ UL E s k (h.undo (txt E s (k + 1))) := by
  have hkl := u.kl
  obtain ⟨z1, z2, z3⟩ := A.z k (by omega)
  obtain ⟨hv, oe, hn⟩ := applyE_z z1
  obtain ⟨b1, b2, b3, b4, b5, b6⟩ := inv_law hv oe hn
  have hb : h.back = invF (E.getD k []) (txt E s k) :: ivl E s k := u.b
  obtain ⟨u1, u2, u3, u4, u5, u6⟩ := u.g.undo hb (by omega) (Int.le_refl _)
  have e1 : txt E s (k + 1) = applyF (E.getD k []) (txt E s k) := rfl
  have e2 : applyF (invF (E.getD k []) (txt E s k)) (txt E s (k + 1)) = txt E s k := b6
  have e3 : invF (invF (E.getD k []) (txt E s k)) (txt E s (k + 1)) = E.getD k [] := inv_inv_law z1
  rw [e2] at u4
  rw [e3, u.a] at u6
  refine ⟨u1, u2, e2, inv_sm z1 z3 z2, u4, u5, ?_, by omega⟩
  rw [u6, onH, ← drop_getDE (by omega)]
  exact List.take_of_length_le (by rw [List.length_drop]; omega)
theorem UL.zero (u : UL E s 0 h) : h.undoE (txt E s 0) = 160 ∧ h.undo (txt E s 0) = h := by
  have hb : h.back = [] := u.b
  have e1 : h.undoE (txt E s 0) = 160 := by unfold HS.undoE; rw [hb]; rfl
  exact ⟨e1, if_neg (by rw [e1]; decide)⟩
structure RL (E : List (List Part)) (s : ByteArray) (k : Nat) (h : HS) : Prop where
  g : HG 1048576 h (txt E s k)
  a : h.again = E.drop k
  kl : k ≤ E.length
theorem UL.turn (u : UL E s 0 h) : RL E s 0 h := ⟨u.g, u.a, Nat.zero_le _⟩
theorem RL.step {h0 : HS} (A : AL E s h0) (u : RL E s k h) (hk : k < E.length) : h.redoE (txt E s k) = 0 ∧ h.redoF (txt E s k) = E.getD k [] ∧ RL E s (k + 1) (h.redo (txt E s k)) := by
  obtain ⟨z1, z2, z3⟩ := A.z k hk
  have ha : h.again = E.getD k [] :: E.drop (k + 1) := by rw [u.a, drop_getDE hk]
  obtain ⟨r1, r2, r3, r4, r5, r6⟩ := u.g.redo ha z2 (Int.le_refl _)
  exact ⟨r1, r2, r4, r5, by omega⟩
end
/-! ### Short texts -/
def msum : List Part → Nat
  | [] => 0
  | p :: r => min p.text.size 600 + msum r
theorem msum_le : ∀ (e : List Part), bsum e ≤ msum e ∨ 600 ≤ msum e
  | [] => .inl (Nat.le_refl _)
  | p :: r => by
    unfold bsum msum
    rcases msum_le r with h | h
    · rcases Nat.le_total p.text.size 600 with h1 | h1
      · exact .inl (by omega)
      · exact .inr (by omega)
    · exact .inr (by omega)
structure FI (h : HS) (s : ByteArray) (m : Nat) : Prop where
  g : HG 1048576 h s
  n : (dec s).length ≤ 600
  z : m = 0 → HG 0 h s ∧ (dec s).length = 0
section
variable {h : HS} {s : ByteArray} {e : List Part} {m : Nat}
theorem FI.start (hv : valid s = true) (hs : s.size ≤ 600) : FI (hs0 s) s s.size := by
  have hd := dec_len s
  exact ⟨HG.start hv (by omega), by omega, fun h0 => ⟨HG.start hv (by omega), by omega⟩⟩
theorem FI.room (u : FI h s m) (z : applyE e s = 0) (hm : m + msum e ≤ 600) (hB : bsum e ≤ 1048576) : toS e ≤ 1048576 := by
  obtain ⟨r1, r2, r3⟩ := app_room (B := ((dec s).length : Int) + bsum e) z (Int.le_refl _)
  have hn := u.n
  rcases msum_le e with h1 | h1
  · omega
  · have := (u.z (by omega)).2; omega
theorem FI.mine (u : FI h s m) (z : applyE e s = 0) (hm : m + msum e ≤ 600) (hB : bsum e ≤ 1048576) : h.mineE e s = 0 ∧ HG 1048576 (h.mine e s) (applyF e s) ∧ ((dec (applyF e s)).length ≤ 600 → FI (h.mine e s) (applyF e s) (m + msum e)) := by
  have ht := u.room z hm hB
  obtain ⟨m1, m2, m3, m4⟩ := u.g.mine z ht (Int.le_refl _)
  refine ⟨m1, m2, fun hl => ⟨m2, hl, fun h0 => ?_⟩⟩
  obtain ⟨g0, l0⟩ := u.z (by omega)
  obtain ⟨r1, r2, r3⟩ := app_room (B := ((dec s).length : Int) + bsum e) z (Int.le_refl _)
  have hb0 : bsum e = 0 := by rcases msum_le e with h1 | h1 <;> omega
  exact ⟨(g0.mineA z ht (by omega)).2.1, by omega⟩
theorem FI.theirs (u : FI h s m) (z : applyE e s = 0) (hm : m + msum e ≤ 600) (hB : bsum e ≤ 1048576) : h.theirsE e = 0 ∧ HG 1048576 (h.theirs e) (applyF e s) ∧ ((dec (applyF e s)).length ≤ 600 → FI (h.theirs e) (applyF e s) (m + msum e)) := by
  have ht := u.room z hm hB
  obtain ⟨m1, m2, m3, m4⟩ := u.g.theirs z ht (by decide) (by decide)
  refine ⟨m1, m2, fun hl => ⟨m2, hl, fun h0 => ?_⟩⟩
  obtain ⟨g0, l0⟩ := u.z (by omega)
  obtain ⟨r1, r2, r3⟩ := app_room (B := ((dec s).length : Int) + bsum e) z (Int.le_refl _)
  have hb0 : bsum e = 0 := by rcases msum_le e with h1 | h1 <;> omega
  exact ⟨(g0.theirs z ht (by decide) (by decide)).2.1, by omega⟩
theorem FI.more (u : FI h s m) (k : Nat) : FI h s (m + k) := ⟨u.g, u.n, fun h0 => u.z (by omega)⟩
theorem FI.more' {k : Nat} (u : FI h s m) (hk : m ≤ k) : FI h s k := ⟨u.g, u.n, fun h0 => u.z (by omega)⟩
theorem po_puts {n : Int} {x : List Part} {r : Pile} (h : PO 0 n (x :: r)) (hn : n = 0) : toS x ≤ 0 := by
  obtain ⟨ox, hx, hp, _⟩ := h
  have := (toS_puts ox.1).1
  omega
theorem FI.undo (u : FI h s m) (hz : h.undoE s = 0) : applyE (h.undoF s) s = 0 ∧ (h.undo s).n = (dec (applyF (h.undoF s) s)).length ∧ ((dec (applyF (h.undoF s) s)).length ≤ 600 → FI (h.undo s) (applyF (h.undoF s) s) m) := by
  obtain ⟨x, r, hb⟩ : ∃ x r, h.back = x :: r := by
    cases hh : h.back with
    | nil => unfold HS.undoE at hz; rw [hh] at hz; cases hz
    | cons x r => exact ⟨x, r, rfl⟩
  have gb := u.g.b
  rw [hb] at gb
  obtain ⟨ox, hx, hp, hr⟩ := gb
  have hgn := u.g.n
  obtain ⟨z1, z2, z3⟩ := moveE_cons (r := r) u.g.v u.g.n ox hx
  have huf : h.undoF s = x := by unfold HS.undoF; rw [hb]; exact z2
  obtain ⟨a1, a2, a3, a4, a5⟩ := apply_law u.g.v ox (by omega)
  have hm : (h.undo s).n = toS x := by unfold HS.undo; rw [if_pos hz, hb]; exact (ok_size ox).2.2
  rw [huf]
  refine ⟨z3, by omega, fun hl => ?_⟩
  have hG := (u.g.undo hb (by omega) (Int.le_refl _)).2.2.2.1
  refine ⟨hG, hl, fun h0 => ?_⟩
  obtain ⟨g0, l0⟩ := u.z h0
  have gb0 := g0.b
  rw [hb] at gb0
  have ht := po_puts gb0 (by omega)
  exact ⟨(g0.undoA hb (by omega) (by omega)).2.2.2.1, by omega⟩
theorem FI.redo (u : FI h s m) (hz : h.redoE s = 0) : applyE (h.redoF s) s = 0 ∧ (h.redo s).n = (dec (applyF (h.redoF s) s)).length ∧ ((dec (applyF (h.redoF s) s)).length ≤ 600 → FI (h.redo s) (applyF (h.redoF s) s) m) := by
  obtain ⟨x, r, hb⟩ : ∃ x r, h.again = x :: r := by
    cases hh : h.again with
    | nil => unfold HS.redoE at hz; rw [hh] at hz; cases hz
    | cons x r => exact ⟨x, r, rfl⟩
  have gb := u.g.a
  rw [hb] at gb
  obtain ⟨ox, hx, hp, hr⟩ := gb
  have hgn := u.g.n
  obtain ⟨z1, z2, z3⟩ := moveE_cons (r := r) u.g.v u.g.n ox hx
  have huf : h.redoF s = x := by unfold HS.redoF; rw [hb]; exact z2
  obtain ⟨a1, a2, a3, a4, a5⟩ := apply_law u.g.v ox (by omega)
  have hm : (h.redo s).n = toS x := by unfold HS.redo; rw [if_pos hz, hb]; exact (ok_size ox).2.2
  rw [huf]
  refine ⟨z3, by omega, fun hl => ?_⟩
  have hG := (u.g.redo hb (by omega) (Int.le_refl _)).2.2.2.1
  refine ⟨hG, hl, fun h0 => ?_⟩
  obtain ⟨g0, l0⟩ := u.z h0
  have gb0 := g0.a
  rw [hb] at gb0
  have ht := po_puts gb0 (by omega)
  exact ⟨(g0.redoA hb (by omega) (by omega)).2.2.2.1, by omega⟩
end
end Go.SK
