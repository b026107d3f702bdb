/- Plain words: the table of well-formed sequences is the model's decoder. -/
import Derived.Test.YtgklklmcmdcpgaaDoorP3
import Derived.Test.YtgklklmcmdcpgaaDoorK7
import Derived.Lib.DecodeNEq
set_option linter.unusedVariables false
set_option linter.unusedSimpArgs false
set_option maxRecDepth 100000
namespace Go.SK
open Go Go.Lib Go.RowKit
def kOf (c : Nat) : Nat := if c < 128 then 1 else if 194 ≤ c ∧ c ≤ 223 then 2 else if 224 ≤ c ∧ c ≤ 239 then 3 else if 240 ≤ c ∧ c ≤ 244 then 4 else 0
def loOf (c : Nat) : Nat := if c = 224 then 160 else if c = 240 then 144 else 128
def hiOf (c : Nat) : Nat := if c = 237 then 159 else if c = 244 then 143 else 191
def by' (l : List UInt8) (j : Nat) : Nat := (l.getD j 0).toNat
def okAt (l : List UInt8) (j : Nat) : Prop := (if j = 1 then loOf (by' l 0) else 128) ≤ by' l j ∧ by' l j ≤ (if j = 1 then hiOf (by' l 0) else 191)
def stepOk (l : List UInt8) : Prop := kOf (by' l 0) ≠ 0 ∧ kOf (by' l 0) ≤ l.length ∧ ∀ j, 1 ≤ j → j < kOf (by' l 0) → okAt l j
def badL (l : List UInt8) : Prop := (decodeL l).1 = 65533 ∧ (decodeL l).2 = 1
theorem cls : ∀ c : Fin 256, (kOf c.val = 1 ∧ firstT c.val = 240) ∨ (kOf c.val = 0 ∧ firstT c.val = 241) ∨ (2 ≤ kOf c.val ∧ kOf c.val ≤ 4 ∧ firstT c.val < 240 ∧ firstT c.val % 8 = kOf c.val ∧ accLo (firstT c.val / 16) = loOf c.val ∧ accHi (firstT c.val / 16) = hiOf c.val) := by decide
theorem by'_lt (l : List UInt8) (j : Nat) : by' l j < 256 := UInt8.toNat_lt _
theorem table {l : List UInt8} (h : l ≠ []) : (stepOk l → ¬ badL l ∧ (decodeL l).2 = kOf (by' l 0)) ∧ (¬ stepOk l → badL l) := by
  obtain ⟨b, t, rfl⟩ := List.exists_cons_of_ne_nil h
  generalize hl : b :: t = l
  have hlen : 1 ≤ l.length := by rw [← hl]; simp
  have h0 := by'_lt l 0; have h1 := by'_lt l 1; have h2 := by'_lt l 2; have h3 := by'_lt l 3
  have hd : decodeL l = decodeN l.length (by' l 0) (by' l 1) (by' l 2) (by' l 3) := decodeL_N l
  have hc := cls ⟨by' l 0, h0⟩
  simp only at hc
  unfold badL stepOk
  rw [hd]
  rcases hc with ⟨k1, k2⟩ | ⟨k1, k2⟩ | ⟨k1, k2, k3, k4, k5, k6⟩
  · rw [ascii_eq _ _ _ _ _ k2]
    refine ⟨fun _ => ⟨fun hh => by have := hh.1; simp only at this; omega, by simp only [k1]⟩, fun hn => absurd ⟨by omega, by omega, fun j a b => by omega⟩ hn⟩
  · rw [bad_eq _ _ _ _ _ h0 k2]
    exact ⟨fun hh => absurd k1 hh.1, fun _ => ⟨rfl, rfl⟩⟩
  · have hs := slow_eq l.length (by' l 0) (by' l 1) (by' l 2) (by' l 3) hlen h1 h2 h3 k3
    rw [k4, k5, k6] at hs
    rw [← hs]
    have o1 : okAt l 1 ↔ loOf (by' l 0) ≤ by' l 1 ∧ by' l 1 ≤ hiOf (by' l 0) := by simp [okAt]
    have o2 : okAt l 2 ↔ 128 ≤ by' l 2 ∧ by' l 2 ≤ 191 := by simp [okAt]
    have o3 : okAt l 3 ↔ 128 ≤ by' l 3 ∧ by' l 3 ≤ 191 := by simp [okAt]
    constructor
    · rintro ⟨_, c2, c3⟩
      have e1 := o1.1 (c3 1 (by omega) (by omega))
      unfold slowN
      rw [if_neg (by omega), if_neg (by omega)]
      by_cases q2 : kOf (by' l 0) ≤ 2
      · rw [if_pos q2]; simp only; omega
      · have e2 := o2.1 (c3 2 (by omega) (by omega))
        rw [if_neg q2, if_neg (by omega)]
        by_cases q3 : kOf (by' l 0) ≤ 3
        · rw [if_pos q3]; simp only; omega
        · have e3 := o3.1 (c3 3 (by omega) (by omega))
          rw [if_neg q3, if_neg (by omega)]; simp only; omega
    · intro hn
      unfold slowN
      by_cases c2 : l.length < kOf (by' l 0)
      · rw [if_pos c2]; exact ⟨rfl, rfl⟩
      · rw [if_neg c2]
        by_cases e1 : by' l 1 < loOf (by' l 0) ∨ hiOf (by' l 0) < by' l 1
        · rw [if_pos e1]; exact ⟨rfl, rfl⟩
        · rw [if_neg e1]
          have f1 := o1.2 (by omega)
          by_cases q2 : kOf (by' l 0) ≤ 2
          · exact absurd ⟨by omega, by omega, fun j a b => by obtain rfl : j = 1 := by omega
                                                              exact f1⟩ hn
          · rw [if_neg q2]
            by_cases e2 : by' l 2 < 128 ∨ 191 < by' l 2
            · rw [if_pos e2]; exact ⟨rfl, rfl⟩
            · rw [if_neg e2]
              have f2 := o2.2 (by omega)
              by_cases q3 : kOf (by' l 0) ≤ 3
              · refine absurd ⟨by omega, by omega, fun j a b => ?_⟩ hn
                rcases (show j = 1 ∨ j = 2 by omega) with rfl | rfl
                · exact f1
                · exact f2
              · rw [if_neg q3]
                by_cases e3 : by' l 3 < 128 ∨ 191 < by' l 3
                · rw [if_pos e3]; exact ⟨rfl, rfl⟩
                · have f3 := o3.2 (by omega)
                  refine absurd ⟨by omega, by omega, fun j a b => ?_⟩ hn
                  rcases (show j = 1 ∨ j = 2 ∨ j = 3 by omega) with rfl | rfl | rfl
                  · exact f1
                  · exact f2
                  · exact f3
def runesF (l : List UInt8) : Int := if validD l = true then ((decsL l).length : Int) else -1
structure RInv (l0 l : List UInt8) (n : Int) : Prop where
  v : validD l = validD l0
  c : n + (decsL l).length = (decsL l0).length
  n0 : 0 ≤ n
  b : n + l.length ≤ l0.length
theorem RInv.start (l : List UInt8) : RInv l l 0 := ⟨rfl, by omega, by omega, by omega⟩
theorem RInv.bad {l0 l : List UInt8} {n : Int} (h : RInv l0 l n) (hne : l ≠ []) (hb : ¬ stepOk l) : runesF l0 = -1 := by
  have this : (decodeL l).1 = 65533 ∧ (decodeL l).2 = 1 := (table hne).2 hb
  have hv := h.v
  rw [validD_step hne, if_pos this] at hv
  rw [runesF, ← hv]; rfl
theorem RInv.step {l0 l : List UInt8} {n : Int} (h : RInv l0 l n) (hne : l ≠ []) (hb : stepOk l) : RInv l0 (l.drop (kOf (by' l 0))) (n + 1) := by
  have this := (table hne).1 hb
  have hnb : ¬ ((decodeL l).1 = 65533 ∧ (decodeL l).2 = 1) := this.1
  have hv := h.v; have hc := h.c; have h0 := h.n0; have hbb := h.b
  rw [validD_step hne, if_neg hnb, this.2] at hv
  rw [decsL_step hne, this.2, List.length_cons] at hc
  have := hb.1; have := hb.2.1
  exact ⟨hv, by omega, by omega, by rw [List.length_drop]; omega⟩
theorem RInv.stop {l0 : List UInt8} {n : Int} (h : RInv l0 [] n) : n = runesF l0 := by
  have hv := h.v; have hc := h.c
  have e1 : validD [] = true := rfl
  have e2 : (decsL []).length = 0 := rfl
  rw [e1] at hv; rw [e2] at hc
  rw [runesF, if_pos hv.symm]; omega
theorem runesF_str (s : ByteArray) : runesF s.data.toList = if valid s = true then ((dec s).length : Int) else -1 := rfl
section
variable {S : Nat → Prop} {w0 : World} {L : List Res}
theorem rd_dropF {α : Type} {f : α → Value} {v : Value} {ns : List α} {w : World} (h : Hp S w0 w (.rd v 1 ns.length (ns.map f) :: L)) (k : Nat) (hk : k ≤ ns.length) : Hp S w0 w (.rd (Value.cut v k ns.length 1) 1 (ns.drop k).length ((ns.drop k).map f) :: L) := by
  have := rd_cut h k ns.length hk (Nat.le_refl _)
  rw [List.length_drop]
  simp only [Nat.mul_one] at this
  rw [List.take_of_length_le (by rw [List.length_drop, List.length_map]; omega), ← List.map_drop] at this
  exact this
abbrev u8v (b : UInt8) : Value := .int .u8 b.toNat
theorem lkU8 {l : List UInt8} {i k : Nat} (h : i < l.length) (hk : k = i) : (l.map u8v)[k]? = some (.int .u8 ((by' l i : Nat) : Int)) := by
  subst hk
  simp [by', List.getElem?_eq_getElem h, List.getD_eq_getElem?_getD]
end
end Go.SK
