/- Texts as lists of code points: decoding and encoding, and what is valid. -/
import Derived.Test.YtgklklmcmdcpgaaDoorK4
import Derived.Lib.RuneCount
import Derived.Lib.ValidU
import Derived.Lib.TrimUEq
import Derived.Laws.IdiomStrings
import Derived.Laws.Cover4
set_option linter.unusedVariables false
set_option linter.unusedSimpArgs false
set_option maxRecDepth 100000
namespace Go.SK
open Go Go.Lib
def scalar (r : Int) : Prop := (0 ≤ r ∧ r < 55296) ∨ (57344 ≤ r ∧ r ≤ 1114111)
instance (r : Int) : Decidable (scalar r) := by unfold scalar; infer_instance
theorem scalar_valid {r : Int} (h : scalar r) : Utf8.valid r = true := by
  rcases h with ⟨h1, h2⟩ | ⟨h1, h2⟩
  · simp [Utf8.valid, h1, h2]
  · simp [Utf8.valid]; omega
def encL (r : Int) : List UInt8 := (Utf8.encode r).data.toList
def encsL (l : List Int) : List UInt8 := l.flatMap encL
theorem encL_cases {r : Int} (h : scalar r) :
    (r < 128 ∧ encL r = [UInt8.ofNat r.toNat]) ∨
    (128 ≤ r ∧ r < 2048 ∧ encL r = [UInt8.ofNat (192 + r.toNat / 64), UInt8.ofNat (128 + r.toNat % 64)]) ∨
    (2048 ≤ r ∧ r < 65536 ∧ encL r = [UInt8.ofNat (224 + r.toNat / 4096), UInt8.ofNat (128 + r.toNat / 64 % 64), UInt8.ofNat (128 + r.toNat % 64)]) ∨
    (65536 ≤ r ∧ encL r = [UInt8.ofNat (240 + r.toNat / 262144), UInt8.ofNat (128 + r.toNat / 4096 % 64), UInt8.ofNat (128 + r.toNat / 64 % 64), UInt8.ofNat (128 + r.toNat % 64)]) := by
  have hv := scalar_valid h
  have h0 : 0 ≤ r := by rcases h with h | h <;> omega
  unfold encL Utf8.encode
  simp only [hv, if_true]
  by_cases c1 : r.toNat < 128
  · left; simp only [c1, if_true]; exact ⟨by omega, trivial⟩
  · right
    simp only [c1, if_false]
    by_cases c2 : r.toNat < 2048
    · left; simp only [c2, if_true]; exact ⟨by omega, by omega, trivial⟩
    · right
      simp only [c2, if_false]
      by_cases c3 : r.toNat < 65536
      · left; simp only [c3, if_true]; exact ⟨by omega, by omega, trivial⟩
      · right; simp only [c3, if_false]; exact ⟨by omega, trivial⟩
theorem u8n (n : Nat) (h : n < 256) : (UInt8.ofNat n).toNat = n := by simp; omega
theorem decL_enc {r : Int} (h : scalar r) (t : List UInt8) : decodeL (encL r ++ t) = (r.toNat, (encL r).length) := by
  rw [decodeL_N]
  have h0 : 0 ≤ r := by rcases h with h | h <;> omega
  rcases encL_cases h with ⟨h1, e⟩ | ⟨h1, h2, e⟩ | ⟨h1, h2, e⟩ | ⟨h1, e⟩ <;> rw [e] <;> simp only [List.cons_append, List.nil_append, List.getD_cons_zero, List.getD_cons_succ, List.length_cons, List.length_nil]
  · rw [u8n _ (by omega)]
    unfold decodeN
    rw [if_pos (by omega)]
  · rw [u8n _ (by omega), u8n _ (by omega)]
    unfold decodeN
    rw [if_neg (by omega), if_pos (by omega), if_pos (by omega)]
    exact Prod.ext (by simp only; omega) rfl
  · have hs : r < 55296 ∨ 57344 ≤ r := by rcases h with h | h <;> omega
    rw [u8n _ (by omega), u8n _ (by omega), u8n _ (by omega)]
    unfold decodeN
    have e1 : (224 + r.toNat / 4096) % 16 * 4096 + (128 + r.toNat / 64 % 64) % 64 * 64 + (128 + r.toNat % 64) % 64 = r.toNat := by omega
    rw [if_neg (by omega), if_neg (by omega), if_pos (by omega), e1, if_pos (by omega)]
  · have hs : r ≤ 1114111 := by rcases h with h | h <;> omega
    rw [u8n _ (by omega), u8n _ (by omega), u8n _ (by omega), u8n _ (by omega)]
    unfold decodeN
    have e1 : (240 + r.toNat / 262144) % 8 * 262144 + (128 + r.toNat / 4096 % 64) % 64 * 4096 + (128 + r.toNat / 64 % 64) % 64 * 64 + (128 + r.toNat % 64) % 64 = r.toNat := by omega
    rw [if_neg (by omega), if_neg (by omega), if_neg (by omega), if_pos (by omega), e1, if_pos (by omega)]
theorem encL_len (r : Int) : 1 ≤ (encL r).length ∧ (encL r).length ≤ 4 := by
  refine ⟨?_, by have := encode_size_le r; unfold encL; rw [Array.length_toList]; exact this⟩
  unfold encL Utf8.encode
  simp only
  repeat' split
  all_goals simp
theorem u8_eq {b : UInt8} {n : Nat} (h : b.toNat = n) : UInt8.ofNat n = b := by subst h; simp
set_option maxHeartbeats 2000000 in
theorem decL_ok {l : List UInt8} (hne : l ≠ []) (hok : ¬ ((decodeL l).1 = 65533 ∧ (decodeL l).2 = 1)) : scalar ((decodeL l).1 : Int) ∧ l = encL ((decodeL l).1 : Int) ++ l.drop (decodeL l).2 := by
  obtain ⟨b0, t, rfl⟩ := List.exists_cons_of_ne_nil hne
  have hb0 := UInt8.toNat_lt b0
  rw [decodeL_N] at hok ⊢
  simp only [List.getD_cons_zero, List.getD_cons_succ] at hok ⊢
  unfold decodeN at hok ⊢
  split at hok
  · rename_i c1
    rw [if_pos c1]
    have hs : scalar (b0.toNat : Int) := by left; omega
    refine ⟨hs, ?_⟩
    rcases encL_cases hs with ⟨_, e⟩ | ⟨h1, _, e⟩ | ⟨h1, _, e⟩ | ⟨h1, e⟩
    · show _ = encL (b0.toNat : Int) ++ _
      rw [e]; simp
    all_goals omega
  · rename_i c1
    rw [if_neg c1]
    split at hok
    · rename_i c2
      rw [if_pos c2]
      split at hok
      · rename_i c3
        rw [if_pos c3]
        match t, c2 with
        | [], c2 => simp at c2
        | b1 :: t, c2 =>
          have hb1 := UInt8.toNat_lt b1
          simp only [List.getD_cons_zero, List.getD_cons_succ] at c2 c3 ⊢
          have hs : scalar ((b0.toNat % 32 * 64 + b1.toNat % 64 : Nat) : Int) := by left; omega
          refine ⟨hs, ?_⟩
          rcases encL_cases hs with ⟨h1, e⟩ | ⟨h1, h2, e⟩ | ⟨h1, _, e⟩ | ⟨h1, e⟩
          · omega
          · show _ = encL ((b0.toNat % 32 * 64 + b1.toNat % 64 : Nat) : Int) ++ _
            rw [e, u8_eq (b := b0) (by omega), u8_eq (b := b1) (by omega)]; simp
          all_goals omega
      · exact absurd ⟨rfl, rfl⟩ hok
    · rename_i c2
      rw [if_neg c2]
      split at hok
      · rename_i c3
        rw [if_pos c3]
        split at hok
        · rename_i c4
          rw [if_pos c4]
          match t, c3 with
          | [], c3 => simp at c3
          | [b1], c3 => simp at c3
          | b1 :: b2 :: t, c3 =>
            have hb1 := UInt8.toNat_lt b1
            have hb2 := UInt8.toNat_lt b2
            simp only [List.getD_cons_zero, List.getD_cons_succ] at c3 c4 ⊢
            have hs : scalar ((b0.toNat % 16 * 4096 + b1.toNat % 64 * 64 + b2.toNat % 64 : Nat) : Int) := by unfold scalar; omega
            refine ⟨hs, ?_⟩
            rcases encL_cases hs with ⟨h1, e⟩ | ⟨h1, h2, e⟩ | ⟨h1, _, e⟩ | ⟨h1, e⟩
            · omega
            · omega
            · show _ = encL ((b0.toNat % 16 * 4096 + b1.toNat % 64 * 64 + b2.toNat % 64 : Nat) : Int) ++ _
              rw [e, u8_eq (b := b0) (by omega), u8_eq (b := b1) (by omega), u8_eq (b := b2) (by omega)]; simp
            · omega
        · exact absurd ⟨rfl, rfl⟩ hok
      · rename_i c3
        rw [if_neg c3]
        split at hok
        · rename_i c4
          rw [if_pos c4]
          split at hok
          · rename_i c5
            rw [if_pos c5]
            rcases t with _ | ⟨b1, _ | ⟨b2, _ | ⟨b3, t⟩⟩⟩
            · exact absurd c4.2.1.1 (by simp only [List.length_cons, List.length_nil]; omega)
            · exact absurd c4.2.2.1.1 (by simp only [List.length_cons, List.length_nil]; omega)
            · exact absurd c4.2.2.2.1 (by simp only [List.length_cons, List.length_nil]; omega)
            · clear hok
              have hb1 := UInt8.toNat_lt b1
              have hb2 := UInt8.toNat_lt b2
              have hb3 := UInt8.toNat_lt b3
              simp only [List.getD_cons_zero, List.getD_cons_succ] at c4 c5 ⊢
              have hs : scalar ((b0.toNat % 8 * 262144 + b1.toNat % 64 * 4096 + b2.toNat % 64 * 64 + b3.toNat % 64 : Nat) : Int) := by unfold scalar; omega
              refine ⟨hs, ?_⟩
              rcases encL_cases hs with ⟨h1, e⟩ | ⟨h1, h2, e⟩ | ⟨h1, _, e⟩ | ⟨h1, e⟩
              · omega
              · omega
              · omega
              · show _ = encL ((b0.toNat % 8 * 262144 + b1.toNat % 64 * 4096 + b2.toNat % 64 * 64 + b3.toNat % 64 : Nat) : Int) ++ _
                rw [e, u8_eq (b := b0) (by omega), u8_eq (b := b1) (by omega), u8_eq (b := b2) (by omega), u8_eq (b := b3) (by omega)]; simp
          · exact absurd ⟨rfl, rfl⟩ hok
        · exact absurd ⟨rfl, rfl⟩ hok
theorem dec_ne {r : Int} (h : scalar r) : ¬ ((r.toNat = 65533) ∧ (encL r).length = 1) := by
  rintro ⟨h1, h2⟩
  rcases encL_cases h with ⟨h3, e⟩ | ⟨_, _, e⟩ | ⟨_, _, e⟩ | ⟨_, e⟩
  · omega
  all_goals rw [e] at h2; simp at h2
/-- The code points of bytes, by the model's own decoder. -/
def decsGo : Nat → List UInt8 → List Int
  | 0, _ => []
  | n + 1, l => if l = [] then [] else ((decodeL l).1 : Int) :: decsGo n (l.drop (decodeL l).2)
def decsL (l : List UInt8) : List Int := decsGo l.length l
theorem encsL_cons (r : Int) (l : List Int) : encsL (r :: l) = encL r ++ encsL l := rfl
theorem encsL_append (a b : List Int) : encsL (a ++ b) = encsL a ++ encsL b := by simp [encsL]
theorem decsGo_enc : ∀ (l : List Int) (n : Nat), (∀ r ∈ l, scalar r) → (encsL l).length ≤ n → decsGo n (encsL l) = l
  | [], n, _, _ => by cases n <;> simp [decsGo, encsL]
  | r :: l, n, h, hn => by
    have hr := h r (.head _)
    have h1 := encL_len r
    rw [encsL_cons, List.length_append] at hn
    obtain ⟨n, rfl⟩ : ∃ m, n = m + 1 := ⟨n - 1, by omega⟩
    have hne : encsL (r :: l) ≠ [] := by intro e; have := congrArg List.length e; rw [encsL_cons, List.length_append, List.length_nil] at this; omega
    unfold decsGo
    rw [if_neg hne, encsL_cons, decL_enc hr]
    have h0 : 0 ≤ r := by rcases hr with h | h <;> omega
    rw [List.drop_left, decsGo_enc l n (fun x hx => h x (.tail _ hx)) (by omega)]
    congr 1; show ((r.toNat : Nat) : Int) = r; omega
theorem decsL_enc {l : List Int} (h : ∀ r ∈ l, scalar r) : decsL (encsL l) = l := decsGo_enc l _ h (Nat.le_refl _)
theorem validGo_enc : ∀ (l : List Int) (n : Nat), (∀ r ∈ l, scalar r) → (encsL l).length ≤ n → validGoD n (encsL l) = true
  | [], n, _, _ => by cases n <;> simp [validGoD, encsL]
  | r :: l, n, h, hn => by
    have hr := h r (.head _)
    have h1 := encL_len r
    rw [encsL_cons, List.length_append] at hn
    obtain ⟨n, rfl⟩ : ∃ m, n = m + 1 := ⟨n - 1, by omega⟩
    have hne : encsL (r :: l) ≠ [] := by intro e; have := congrArg List.length e; rw [encsL_cons, List.length_append, List.length_nil] at this; omega
    unfold validGoD
    rw [if_neg hne, encsL_cons, decL_enc hr, if_neg (dec_ne hr), List.drop_left, validGo_enc l n (fun x hx => h x (.tail _ hx)) (by omega)]
theorem validGo_ex : ∀ (n : Nat) (l : List UInt8), l.length ≤ n → validGoD n l = true → (∀ r ∈ decsGo n l, scalar r) ∧ encsL (decsGo n l) = l
  | 0, l, h, _ => by
    have : l = [] := List.length_eq_zero_iff.1 (by omega)
    subst this; simp [decsGo, encsL]
  | n + 1, l, h, hv => by
    unfold decsGo
    split
    · rename_i e; subst e; simp [encsL]
    · rename_i hne
      unfold validGoD at hv
      rw [if_neg hne] at hv
      split at hv
      · cases hv
      · rename_i hok
        have hd := decL_ok hne hok
        have hw := decodeL_width l
        have ih := validGo_ex n (l.drop (decodeL l).2) (by rw [List.length_drop]; omega) hv
        refine ⟨fun r hr => ?_, ?_⟩
        · rcases List.mem_cons.1 hr with rfl | hr
          · exact hd.1
          · exact ih.1 r hr
        · rw [encsL_cons, ih.2]; exact hd.2.symm
/-! ### Over strings -/
def valid (s : ByteArray) : Bool := Lib.validD s.data.toList
def dec (s : ByteArray) : List Int := decsL s.data.toList
def enc (l : List Int) : ByteArray := ⟨(encsL l).toArray⟩
theorem ba_ext {s t : ByteArray} (h : s.data.toList = t.data.toList) : s = t := by
  cases s; cases t; congr 1; exact Array.toList_inj.1 h
theorem valid_enc {l : List Int} (h : ∀ r ∈ l, scalar r) : valid (enc l) = true := by simp only [valid, enc, validD]; exact validGo_enc l _ h (Nat.le_refl _)
theorem dec_enc {l : List Int} (h : ∀ r ∈ l, scalar r) : dec (enc l) = l := decsL_enc h
theorem enc_dec {s : ByteArray} (h : valid s = true) : enc (dec s) = s := ba_ext (validGo_ex _ _ (Nat.le_refl _) h).2
theorem dec_scalar {s : ByteArray} (h : valid s = true) : ∀ r ∈ dec s, scalar r := (validGo_ex _ _ (Nat.le_refl _) h).1
theorem enc_append (a b : List Int) : enc (a ++ b) = enc a ++ enc b := ba_ext (by simp [enc, encsL_append])
theorem enc_nil : enc [] = ⟨#[]⟩ := rfl
theorem dec_empty : dec ⟨#[]⟩ = [] := rfl
theorem valid_empty : valid ⟨#[]⟩ = true := rfl
theorem enc_inj {a b : List Int} (ha : ∀ r ∈ a, scalar r) (hb : ∀ r ∈ b, scalar r) (h : enc a = enc b) : a = b := by rw [← dec_enc ha, ← dec_enc hb, h]
theorem dec_inj {s t : ByteArray} (hs : valid s = true) (ht : valid t = true) (h : dec s = dec t) : s = t := by rw [← enc_dec hs, ← enc_dec ht, h]
theorem valid_append {s t : ByteArray} (hs : valid s = true) (ht : valid t = true) : valid (s ++ t) = true := by
  rw [← enc_dec hs, ← enc_dec ht, ← enc_append]
  exact valid_enc fun r hr => (List.mem_append.1 hr).elim (dec_scalar hs r) (dec_scalar ht r)
theorem dec_append {s t : ByteArray} (hs : valid s = true) (ht : valid t = true) : dec (s ++ t) = dec s ++ dec t := by
  have h : s ++ t = enc (dec s ++ dec t) := by rw [enc_append, enc_dec hs, enc_dec ht]
  rw [h]
  exact dec_enc fun r hr => (List.mem_append.1 hr).elim (dec_scalar hs r) (dec_scalar ht r)
theorem encsL_len (l : List Int) : l.length ≤ (encsL l).length ∧ (encsL l).length ≤ 4 * l.length := by
  induction l with
  | nil => simp [encsL]
  | cons r l ih => have := encL_len r; rw [encsL_cons, List.length_append, List.length_cons]; omega
theorem enc_size (l : List Int) : l.length ≤ (enc l).size ∧ (enc l).size ≤ 4 * l.length := by have := encsL_len l; unfold enc; exact this
theorem decsGo_len : ∀ (n : Nat) (l : List UInt8), (decsGo n l).length ≤ n
  | 0, _ => by simp [decsGo]
  | n + 1, l => by
    unfold decsGo
    split
    · simp
    · have := decsGo_len n (l.drop (decodeL l).2); simp; omega
theorem dec_len (s : ByteArray) : (dec s).length ≤ s.size := by have := decsGo_len s.data.toList.length s.data.toList; unfold dec decsL; rw [Array.length_toList] at this ⊢; exact this
theorem dec_range : ∀ (n : Nat) (l : List UInt8), ∀ r ∈ decsGo n l, 0 ≤ r ∧ r ≤ 1114111
  | 0, _ => by simp [decsGo]
  | n + 1, l => by
    unfold decsGo
    split
    · simp
    · intro r hr
      rcases List.mem_cons.1 hr with rfl | hr
      · have := decodeL_rune l; omega
      · exact dec_range n _ r hr
theorem enc_runesBytes (l : List Int) : runesBytes l = enc l := by
  have h : ∀ (l : List Int) (s : ByteArray), l.foldl (fun r n => r ++ Utf8.encode n) s = s ++ enc l := by
    intro l
    induction l with
    | nil => intro s; exact ba_ext (by simp [enc, encsL])
    | cons r l ih => intro s; rw [List.foldl_cons, ih]; exact ba_ext (by simp [enc, encsL_cons, encL])
  unfold runesBytes
  rw [h]; exact ba_ext (by simp)
theorem size_len (s : ByteArray) : s.data.toList.length = s.size := Array.length_toList
theorem runesFrom_dec (s : ByteArray) : ∀ (n i : Nat) (acc : Array Value), Conv.runesFrom s n i acc = acc ++ ((decsGo n (s.data.toList.drop i)).map (Value.int .i32)).toArray
  | 0, i, acc => by simp [Conv.runesFrom, decsGo]
  | n + 1, i, acc => by
    unfold Conv.runesFrom decsGo
    have hl := size_len s
    by_cases h : i < s.size
    · have hne : s.data.toList.drop i ≠ [] := by intro e; have := congrArg List.length e; rw [List.length_drop] at this; simp at this; omega
      rw [if_pos h, if_neg hne]
      simp only
      rw [runesFrom_dec s n, ← decodeL_drop, List.drop_drop]
      simp
    · have he : s.data.toList.drop i = [] := List.drop_eq_nil_of_le (by omega)
      rw [if_neg h, if_pos he]; simp
theorem runes_dec (s : ByteArray) : Conv.runesFrom s s.size 0 #[] = ((dec s).map (Value.int .i32)).toArray := by
  rw [runesFrom_dec, List.drop_zero, dec, decsL, size_len]; simp
def rcount (s : ByteArray) : Nat := Lib.runeCount s
theorem rcountFrom_dec (s : ByteArray) : ∀ (n i : Nat), runeCountFrom s n i = (decsGo n (s.data.toList.drop i)).length
  | 0, i => by simp [runeCountFrom, decsGo]
  | n + 1, i => by
    unfold runeCountFrom decsGo
    have hl := size_len s
    by_cases h : i < s.size
    · have hne : s.data.toList.drop i ≠ [] := by intro e; have := congrArg List.length e; rw [List.length_drop] at this; simp at this; omega
      rw [if_pos h, if_neg hne, rcountFrom_dec s n, ← decodeL_drop, List.drop_drop, List.length_cons]
      omega
    · have he : s.data.toList.drop i = [] := List.drop_eq_nil_of_le (by omega)
      rw [if_neg h, if_pos he]; rfl
theorem rcount_dec (s : ByteArray) : rcount s = (dec s).length := by
  unfold rcount runeCount; rw [rcountFrom_dec, List.drop_zero, dec, decsL, size_len]
end Go.SK
