/- Plain words: the laws of histories where all that comes in is of bulk at most 2^20. -/
import Derived.Test.YtcfdglknagbbgaaDoorMI
set_option linter.unusedVariables false
set_option linter.unusedSimpArgs false
set_option maxRecDepth 100000
namespace Go.SK
open Go
/-- How many bytes an edit's texts have. -/
def bsum : List Part → Nat
  | [] => 0
  | p :: r => p.text.size + bsum r
theorem puts_bsum : ∀ {e : List Part}, FitsU e → putsN e ≤ bsum e
  | [], _ => Int.le_refl _
  | p :: r, h => by
    have ih := puts_bsum h.tail
    have hp := h p (.head _)
    unfold putsN bsum
    rcases hp.2 with ⟨k, t⟩ | ⟨k, t⟩ | ⟨k, v, n⟩
    · rw [if_neg (by omega)]; push_cast; omega
    · rw [if_neg (by omega)]; push_cast; omega
    · rw [if_pos k]; have := dec_len p.text; push_cast; omega
section
variable {A : Int} {h : HS} {s : ByteArray} {e f : List Part}
theorem app_room {B : Int} (z : applyE e s = 0) (hB : ((dec s).length : Int) + bsum e ≤ B) : toS e ≤ B ∧ ((dec (applyF e s)).length : Int) = toS e ∧ toS e ≤ (dec s).length + bsum e := by
  obtain ⟨hv, oe, hn⟩ := applyE_z z
  obtain ⟨_, _, _, _, a5⟩ := apply_law hv oe hn
  have h1 := (toS_puts oe.1).1
  have h2 := puts_bsum oe.1
  exact ⟨by omega, a5, by omega⟩
theorem diamond_text {a b : List Part} (z1 : applyE a s = 0) (z2 : applyE b s = 0) (ha : toS a ≤ 1048576) (hb : toS b ≤ 1048576) :
    trE a b = 0 ∧ applyE (trF2 a b) (applyF a s) = 0 ∧ applyE (trF1 a b) (applyF b s) = 0 ∧ applyF (trF2 a b) (applyF a s) = applyF (trF1 a b) (applyF b s) := by
  obtain ⟨hv, oa, hna⟩ := applyE_z z1
  obtain ⟨_, ob, hnb⟩ := applyE_z z2
  obtain ⟨m1, m2, f1, f2, t, hp, _, r⟩ := tr_law oa ob (by omega)
  have hu : FitsU (trR1 a b).reverse := fun q hq => m1.fit q (List.mem_reverse.1 hq)
  have h1 := (toS_puts hu).1
  have hpa := puts_le' oa.1
  have hle : toS (trR1 a b).reverse ≤ 1099511627776 := by omega
  obtain ⟨c1, c2, c3, o1, o2⟩ := tr_law_ok oa ob (by omega) hle
  rw [← c2] at f1 r t; rw [← c3] at f2 r t
  obtain ⟨a1, a2, a3, a4, a5⟩ := apply_law hv oa hna
  obtain ⟨b1, b2, b3, b4, b5⟩ := apply_law hv ob hnb
  obtain ⟨p1, p2, _⟩ := apply_law a3 o2 (by omega)
  obtain ⟨q1, q2, _⟩ := apply_law b3 o1 (by omega)
  refine ⟨c1, p1, q1, ?_⟩
  rw [p2, q2, a4, b4, r id (dec s) hna.symm]
theorem app_any : (applyF e s).size ≤ 4398046511104 := by
  by_cases z : applyE e s = 0
  · obtain ⟨hv, oe, hn⟩ := applyE_z z
    obtain ⟨a1, a2, a3, a4, a5⟩ := apply_law hv oe hn
    have h1 := (enc_size (dec (applyF e s))).2
    rw [enc_dec a3] at h1
    have h2 := oe.2.2.2
    omega
  · rw [applyE_nz z]; decide
/-- A history of a text, and how long that may be. -/
def hs0 (s : ByteArray) : HS := ⟨[], [], (dec s).length⟩
theorem applyE_apply (z : applyE e s = 0) : valid (applyF e s) = true ∧ valid s = true := by
  obtain ⟨hv, oe, hn⟩ := applyE_z z
  exact ⟨(apply_law hv oe hn).2.2.1, hv⟩
structure Oth (s : ByteArray) (e f : List Part) : Prop where
  m : (hs0 s).mineE e s = 0
  g1 : HG 1048576 ((hs0 s).mine e s) (applyF e s)
  t : ((hs0 s).mine e s).theirsE f = 0
  g2 : HG 1048576 (((hs0 s).mine e s).theirs f) (applyF f (applyF e s))
  u : (((hs0 s).mine e s).theirs f).undoE (applyF f (applyF e s)) = 0
  i : invE e s = 0
  oi : Sm e → Sm (invF e s)
  z : trE (invF e s) f = 0
  a1 : applyE (trF2 (invF e s) f) s = 0
  a2 : applyE ((((hs0 s).mine e s).theirs f).undoF (applyF f (applyF e s))) (applyF f (applyF e s)) = 0
  q : applyF ((((hs0 s).mine e s).theirs f).undoF (applyF f (applyF e s))) (applyF f (applyF e s)) = applyF (trF2 (invF e s) f) s
  st : Sm (trF2 (invF e s) f)
  b : BesB ((hs0 s).mine e s).back f ∧ BesB ((hs0 s).mine e s).again f
  room : toS (invF e s) ≤ 1048576 ∧ fromS f ≤ 1048576 ∧ toS f ≤ 1048576
theorem inv_sm (z : applyE e s = 0) (hs : ((dec s).length : Int) ≤ 1048576) (ht : toS e ≤ 1048576) : Sm (invF e s) := by
  obtain ⟨hv, oe, hn⟩ := applyE_z z
  obtain ⟨b1, b2, b3, b4, b5, b6⟩ := inv_law hv oe hn
  have hpp := puts_le' b2.1
  exact sm_of b2 (B := 2097152) (by omega) (by omega)
theorem oth_law (z1 : applyE e s = 0) (z2 : applyE f (applyF e s) = 0) (hB : s.size + bsum e + bsum f ≤ 1048576) : Oth s e f := by
  have hd := dec_len s
  obtain ⟨r1, r2, r3⟩ := app_room (B := 1048576) z1 (by omega)
  obtain ⟨q1, q2, q3⟩ := app_room (B := 1048576) z2 (by omega)
  obtain ⟨hv, oe, hn⟩ := applyE_z z1
  obtain ⟨hv2, of, hn2⟩ := applyE_z z2
  obtain ⟨b1, b2, b3, b4, b5, b6⟩ := inv_law hv oe hn
  have g0 : HG 1048576 (hs0 s) s := HG.start hv (by omega)
  obtain ⟨m1, m2, m3, m4⟩ := g0.mine z1 r1 (Int.le_refl _)
  obtain ⟨t1, t2, t3, t4⟩ := m2.theirs z2 q1 (by decide) (by decide)
  obtain ⟨d1, d2, d3, d4⟩ := diamond_text b5 z2 (by omega) q1
  have hpi := puts_le' b2.1
  obtain ⟨w1, w2, w3, w4, w5, w6, w7, _⟩ := tr_room (A := 1048576) b2 of (by omega) (by omega) (by omega)
  have hpt := puts_le' w3.1
  have hst : Sm (trF2 (invF e s) f) := sm_of w3 (B := 4194304) (by omega) (by omega)
  have hb : (((hs0 s).mine e s).theirs f).back = [trF1 (invF e s) f] := by rw [t3, m3]; rfl
  have gb := t2.b
  rw [hb] at gb
  obtain ⟨ox, hx, _⟩ := gb
  obtain ⟨u1, u2, u3⟩ := moveE_cons (x := trF1 (invF e s) f) (r := []) t2.v t2.n ox hx
  have e1 : (((hs0 s).mine e s).theirs f).undoE (applyF f (applyF e s)) = 0 := by unfold HS.undoE; rw [hb]; exact u1
  have e2 : (((hs0 s).mine e s).theirs f).undoF (applyF f (applyF e s)) = trF1 (invF e s) f := by unfold HS.undoF; rw [hb]; exact u2
  rw [b6] at d2 d4
  exact ⟨m1, m2, t1, t2, e1, b1, fun _ => inv_sm z1 (by omega) r1, d1, d2, by rw [e2]; exact d3, by rw [e2]; exact d4.symm, hst, bes_of m2 of (by rw [m2.n]; exact hn2) q1, by omega, by omega, q1⟩
/-- What is no edit of the text is refused. -/
theorem mine_30 (g : HG A h s) (z : applyE e s ≠ 0) : h.mineE e s = 30 := by
  unfold HS.mineE
  rw [if_neg]
  intro hf
  obtain ⟨oe, a2, a3⟩ := sizeE_ok hf.1
  exact z (apply_law g.v oe (by rw [← a2, hf.2.1, g.n])).1
structure Bk (h : HS) (s : ByteArray) (e : List Part) : Prop where
  m : h.mineE e s = 0
  g1 : HG 1048576 (h.mine e s) (applyF e s)
  u : (h.mine e s).undoE (applyF e s) = 0
  uF : (h.mine e s).undoF (applyF e s) = invF e s
  ua : applyF (invF e s) (applyF e s) = s
  us : Sm (invF e s)
  g2 : HG 1048576 ((h.mine e s).undo (applyF e s)) s
  r : ((h.mine e s).undo (applyF e s)).redoE s = 0
  rF : ((h.mine e s).undo (applyF e s)).redoF s = e
  g3 : HG 1048576 (((h.mine e s).undo (applyF e s)).redo s) (applyF e s)
  v : (((h.mine e s).undo (applyF e s)).redo s).undoE (applyF e s) = 0
  vF : (((h.mine e s).undo (applyF e s)).redo s).undoF (applyF e s) = invF e s
theorem bk_law (g : HG 1048576 h s) (z : applyE e s = 0) (ht : toS e ≤ 1048576) : Bk h s e := by
  obtain ⟨hv, oe, hn⟩ := applyE_z z
  obtain ⟨b1, b2, b3, b4, b5, b6⟩ := inv_law hv oe hn
  have hgn := g.n; have hgl := g.nle
  obtain ⟨m1, m2, m3, m4⟩ := g.mine z ht (Int.le_refl _)
  have hb : (h.mine e s).back = invF e s :: h.back.take 49 := by rw [m3, onH, List.take_succ_cons]
  obtain ⟨u1, u2, u3, u4, u5, u6⟩ := m2.undo hb (by omega) (Int.le_refl _)
  rw [b6] at u4
  rw [m4, inv_inv_law z] at u6
  have ha : ((h.mine e s).undo (applyF e s)).again = e :: [] := u6
  obtain ⟨r1, r2, r3, r4, r5, r6⟩ := u4.redo ha ht (Int.le_refl _)
  have hb2 : (((h.mine e s).undo (applyF e s)).redo s).back = invF e s :: ((h.mine e s).undo (applyF e s)).back.take 49 := by rw [r6, onH, List.take_succ_cons]
  obtain ⟨v1, v2, _⟩ := r4.undo hb2 (by omega) (Int.le_refl _)
  exact ⟨m1, m2, u1, u2, b6, inv_sm z (by omega) ht, u4, r1, r2, r4, v1, v2⟩
end
end Go.SK
