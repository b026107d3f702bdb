/- Plain words: all lines with a 10 between each two are the text, and a text with each pattern replaced, letter by letter and byte by byte. Plain words: what is made where texts stand for stretches; a text with each pattern replaced, letter by letter and byte by byte. -/
import Derived.Test.YtpomdenbgdgbhaaDoorMJ
import Derived.Lib.Join
import Derived.Lib.ReplaceLaws
import Derived.Lib.CountLaws
import Derived.Lib.IndexLaws
set_option linter.unusedVariables false
set_option linter.unusedSimpArgs false
set_option maxRecDepth 100000
namespace Go.SK
open Go Go.Lib
/-! ### The byte 10 -/
theorem encL_ten {r : Int} (h : scalar r) (hm : (10 : UInt8) ∈ encL r) : r = 10 := by
  have h0 : 0 ≤ r := by rcases h with h | h <;> omega
  have hb : r ≤ 1114111 := by rcases h with h | h <;> omega
  have key : ∀ n : Nat, n < 256 → (10 : UInt8) = UInt8.ofNat n → n = 10 := fun n hn e => by
    have := congrArg UInt8.toNat e
    rw [u8n n hn] at this
    exact this.symm
  rcases encL_cases h with ⟨h1, e⟩ | ⟨h1, h2, e⟩ | ⟨h1, h2, e⟩ | ⟨h1, e⟩ <;> rw [e] at hm <;> simp only [List.mem_cons, List.not_mem_nil, or_false] at hm
  · have := key _ (by omega) hm; omega
  · rcases hm with h | h <;> (have := key _ (by omega) h; omega)
  · rcases hm with h | h | h <;> (have := key _ (by omega) h; omega)
  · rcases hm with h | h | h | h <;> (have := key _ (by omega) h; omega)
theorem encsL_ten {t : List Int} (h : ∀ x ∈ t, scalar x) (hn : ∀ x ∈ t, x ≠ 10) : (10 : UInt8) ∉ encsL t := fun hm => by
  obtain ⟨x, hx, hx2⟩ := List.mem_flatMap.1 hm
  exact hn x hx (encL_ten (h x hx) hx2)
theorem indexByte_not : ∀ {l : List UInt8} {c : UInt8}, c ∉ l → indexByte l c = -1
  | [], c, _ => rfl
  | b :: l, c, h => by
    have h1 : (b == c) = false := by simpa using fun e : b = c => h (e ▸ .head _)
    rw [indexByte, h1, indexByte_not (fun hm => h (.tail _ hm))]; rfl
/-! ### Lines -/
def seg (l : List Int) (k : Nat) : List Int := (l.drop ((begs l).getD k 0)).take (endOf l k - (begs l).getD k 0)
theorem begs_ten {l : List Int} {k : Nat} (h : k + 1 < (begs l).length) : 1 ≤ (begs l).getD (k + 1) 0 ∧ l[(begs l).getD (k + 1) 0 - 1]? = some 10 := by
  have hm : (begs l).getD (k + 1) 0 ∈ begGo l 0 := by
    rw [List.getD_eq_getElem?_getD, List.getElem?_eq_getElem h]
    exact List.getElem_mem (by unfold begs at h; simpa using h)
  have := begGo_mem l 0 _ hm
  exact ⟨by omega, this.2.2⟩
theorem seg_ten {l : List Int} {k : Nat} (h : k < (begs l).length) : ∀ x ∈ seg l k, x ≠ 10 := by
  intro x hx e
  subst e
  obtain ⟨i, hi⟩ := List.getElem?_of_mem hx
  unfold seg at hi
  rw [List.getElem?_take] at hi
  split at hi
  · rename_i hlt
    rw [List.getElem?_drop] at hi
    obtain ⟨hl, hg⟩ := List.getElem?_eq_some_iff.1 hi
    have hb := begs_end h
    have h1 := line_of (l := l) (k := k) (at_ := (begs l).getD k 0 + i + 1) h (by omega) (by omega)
    have h2 := begs_take_succ (l := l) (i := (begs l).getD k 0 + i) (c := 10) hl (by rw [List.getD_eq_getElem?_getD, hi]; rfl)
    rw [if_pos rfl] at h2
    have h3 : begAt l ((begs l).getD k 0 + i + 1) = (begs l).getD k 0 + i + 1 := by
      unfold begAt; rw [h2]; simp
    omega
  · cases hi
/-- Lists with one between each two. -/
def joinI (L : List (List Int)) : List Int := [(10 : Int)].intercalate L
theorem joinI_cons (a b : List Int) (L : List (List Int)) : joinI (a :: b :: L) = a ++ 10 :: joinI (b :: L) := by simp [joinI, List.intercalate]
theorem cut_ten {l : List Int} {b c : Nat} (hbc : b < c) (h : l[c - 1]? = some 10) : (l.drop b).take (c - 1 - b) ++ 10 :: l.drop c = l.drop b := by
  obtain ⟨hl, hg⟩ := List.getElem?_eq_some_iff.1 h
  have e : (l.drop b).drop (c - 1 - b) = 10 :: l.drop c := by rw [List.drop_drop, show b + (c - 1 - b) = c - 1 by omega, List.drop_eq_getElem_cons hl, hg, show c - 1 + 1 = c by omega]
  rw [← e, List.take_append_drop]
theorem segs_join (l : List Int) : ∀ (d k : Nat), k + d + 1 = (begs l).length → joinI ((List.range' k (d + 1)).map (seg l)) = l.drop ((begs l).getD k 0)
  | 0, k, h => by
    have he : endOf l k = l.length := if_neg (by omega)
    show joinI [seg l k] = _
    rw [show joinI [seg l k] = seg l k by simp [joinI, List.intercalate]]
    unfold seg; rw [he]; exact List.take_of_length_le (by rw [List.length_drop]; omega)
  | d + 1, k, h => by
    have ih := segs_join l d (k + 1) (by omega)
    have hk1 : k + 1 < (begs l).length := by omega
    obtain ⟨t1, t2⟩ := begs_ten hk1
    have hlt := begs_lt (l := l) (show k < k + 1 by omega) hk1
    have he : endOf l k = (begs l).getD (k + 1) 0 - 1 := if_pos hk1
    obtain ⟨hl, hg⟩ := List.getElem?_eq_some_iff.1 t2
    rw [List.range'_succ, List.map_cons, List.range'_succ, List.map_cons, joinI_cons, ← List.map_cons, ← List.range'_succ, ih]
    unfold seg
    rw [he]
    exact cut_ten hlt t2
theorem segs_all (l : List Int) : joinI ((List.range (begs l).length).map (seg l)) = l := by
  have h := (begs_len l).1
  have := segs_join l ((begs l).length - 1) 0 (by omega)
  rw [show (begs l).length - 1 + 1 = (begs l).length by omega, ← List.range_eq_range', begs_zero, List.drop_zero] at this
  exact this
theorem encsL_join : ∀ (L : List (List Int)), encsL (joinI L) = Lib.join (L.map encsL) [10]
  | [] => rfl
  | [a] => by simp [joinI, Lib.join, List.intercalate]
  | a :: b :: L => by
    have ih := encsL_join (b :: L)
    rw [joinI_cons, encsL_append, encsL_cons, ih]
    have e : encL 10 = [10] := rfl
    rw [e, List.map_cons, List.map_cons]
    simp [Lib.join, List.intercalate]
end Go.SK

set_option linter.unusedVariables false
set_option linter.unusedSimpArgs false
set_option maxRecDepth 100000
namespace Go.SK
open Go Go.Lib
/-! ### Texts for stretches -/
def swG (n : Nat) : List (Nat × Nat × ByteArray) → Nat → List Part
  | [], a => [keepP ((n : Int) - a)]
  | (i, j, w) :: r, a => keepP ((i : Int) - a) :: putP w :: dropP ((j : Int) - i) :: swG n r j
def swGR (t : List Int) : List (Nat × Nat × ByteArray) → Nat → List Int
  | [], a => t.drop a
  | (i, j, w) :: r, a => (t.drop a).take (i - a) ++ (dec w ++ swGR t r j)
def GOk (n : Nat) : List (Nat × Nat × ByteArray) → Nat → Prop
  | [], a => a ≤ n
  | (i, j, w) :: r, a => a ≤ i ∧ i ≤ j ∧ j ≤ n ∧ valid w = true ∧ GOk n r j
def gsum : List (Nat × Nat × ByteArray) → Nat
  | [] => 0
  | (_, _, w) :: r => rcount w + gsum r
abbrev Fz (q : Part) : Prop := fitsB q = true ∨ (q.n = 0 ∧ (q.kind = 1 ∨ q.kind = 3 ∨ (q.kind = 2 ∧ dec q.text = [])))
theorem swG_fz {n : Nat} (hn : n ≤ 1099511627776) : ∀ (l : List (Nat × Nat × ByteArray)) (a : Nat), GOk n l a → gsum l ≤ 1099511627776 → ∀ q ∈ swG n l a, Fz q
  | [], a, h, hb, q, hq => by
    rw [swG, List.mem_singleton] at hq
    subst hq
    have h : a ≤ n := h
    exact fz_keep (by omega) (by omega)
  | (i, j, w) :: r, a, h, hb, q, hq => by
    obtain ⟨h1, h2, h3, h4, h5⟩ := h
    simp only [gsum] at hb
    rw [swG] at hq
    rcases List.mem_cons.1 hq with rfl | hq
    · exact fz_keep (by omega) (by omega)
    · rcases List.mem_cons.1 hq with rfl | hq
      · exact fz_put h4 (by omega)
      · rcases List.mem_cons.1 hq with rfl | hq
        · exact fz_drop (by omega) (by omega)
        · exact swG_fz hn r j h5 (by omega) q hq
theorem gok_le {n : Nat} : ∀ {l : List (Nat × Nat × ByteArray)} {a : Nat}, GOk n l a → a ≤ n
  | [], a, h => h
  | (i, j, w) :: r, a, h => by have := h.1; have := h.2.1; have := h.2.2.1; omega
theorem swG_from {n : Nat} : ∀ (l : List (Nat × Nat × ByteArray)) (a : Nat), GOk n l a → fromS (swG n l a) = (n : Int) - a ∧ toS (swG n l a) ≤ (n : Int) - a + gsum l ∧ 0 ≤ toS (swG n l a)
  | [], a, h => by
    have h : a ≤ n := h
    simp [swG, fromS, toS, keepP, gsum]; omega
  | (i, j, w) :: r, a, h => by
    obtain ⟨h1, h2, h3, h4, h5⟩ := h
    obtain ⟨f1, f2, f3⟩ := swG_from r j h5
    simp [swG, fromS, toS, keepP, putP, dropP, gsum, f1]
    omega
theorem filtZ : ∀ {l : List Part}, (∀ q ∈ l, Fz q) → fromS (l.filter fitsB) = fromS l ∧ toS (l.filter fitsB) = toS l
  | [], _ => ⟨rfl, rfl⟩
  | p :: l, h => by
    have ih := filtZ (fun q hq => h q (.tail _ hq))
    rw [List.filter_cons]
    rcases h p (.head _) with h1 | ⟨h1, _⟩
    · rw [if_pos h1]; simp only [fromS, toS]; omega
    · split
      · simp only [fromS, toS]; omega
      · simp only [fromS, toS, h1]
        constructor <;> split <;> omega
theorem swG_runI {t : List Int} : ∀ (l : List (Nat × Nat × ByteArray)) (a : Nat), GOk t.length l a → (runS id (swG t.length l a) (t.drop a)).1 = swGR t l a
  | [], a, h => by
    have h : a ≤ t.length := h
    rw [swG, swGR, runS_cons, (ot_keep id (p := keepP ((t.length : Int) - a)) rfl _).1]
    simp only [runS, List.append_nil]
    exact List.take_of_length_le (by rw [List.length_drop]; show _ ≤ ((t.length : Int) - a).toNat; omega)
  | (i, j, w) :: r, a, h => by
    obtain ⟨h1, h2, h3, h4, h5⟩ := h
    rw [swG, swGR]
    simp only [runS_cons]
    rw [(ot_keep id (p := keepP ((i : Int) - a)) rfl _).1, (ot_keep id (p := keepP ((i : Int) - a)) rfl _).2, (ot_put id (p := putP w) rfl _).1, (ot_put id (p := putP w) rfl _).2, (ot_drop id (p := dropP ((j : Int) - i)) rfl _).1, (ot_drop id (p := dropP ((j : Int) - i)) rfl _).2]
    rw [List.drop_drop, List.drop_drop, show a + ((keepP ((i : Int) - a)).n.toNat + (dropP ((j : Int) - i)).n.toNat) = j by show a + (((i : Int) - a).toNat + ((j : Int) - i).toNat) = j; omega, swG_runI r j h5]
    show (t.drop a).take ((i : Int) - a).toNat ++ ((dec w).map id ++ ([] ++ swGR t r j)) = _
    rw [List.map_id, List.nil_append, show ((i : Int) - a).toNat = i - a by omega]
/-- What the one form of such parts makes. -/
theorem swG_law {s : ByteArray} (hv : valid s = true) {l : List (Nat × Nat × ByteArray)} (hok : GOk (dec s).length l 0) (hn : (dec s).length ≤ 1048576) (hb : gsum l ≤ 1048576) :
    Ok (normF (swG (dec s).length l 0)) ∧ fromS (normF (swG (dec s).length l 0)) = (dec s).length ∧ applyF (normF (swG (dec s).length l 0)) s = enc (swGR (dec s) l 0) := by
  have hz := swG_fz (n := (dec s).length) (by omega) l 0 hok (by omega)
  obtain ⟨f1, f2, f3⟩ := swG_from l 0 hok
  obtain ⟨z1, z2⟩ := filtZ hz
  obtain ⟨m1, m2, m3⟩ := addRs_mk _ [] MK.nil (filter_fit (ps := swG (dec s).length l 0))
  have e0 : fromS ([] : List Part) = 0 := rfl
  have e1 : toS ([] : List Part) = 0 := rfl
  have hr := fromS_rev (addRs [] ((swG (dec s).length l 0).filter fitsB))
  have ok : Ok (normF (swG (dec s).length l 0)) := m1.ok (by omega) (by omega)
  have hf : fromS (normF (swG (dec s).length l 0)) = (dec s).length := by unfold normF; omega
  obtain ⟨a1, a2, a3, a4, a5⟩ := apply_law hv ok hf
  refine ⟨ok, hf, ?_⟩
  rw [a2]
  congr 1
  have h1 := swG_runI (t := dec s) l 0 hok
  rw [List.drop_zero] at h1
  rw [← h1]
  unfold normF
  rw [maker_run id filter_fit, runS_filter id _ _ hz]
/-- A swap's parts are of that kind. -/
theorem swP_swG (m : Nat) (w : ByteArray) (n : Nat) : ∀ (l : List Nat) (a : Nat), swP m w n l a = swG n (l.map fun i => (i, i + m, w)) a
  | [], a => rfl
  | i :: r, a => by
    rw [swP, List.map_cons, swG, swP_swG m w n r, Int.toNat_natCast]
    congr 3
    show dropP m = dropP _
    congr 1; omega
theorem sw_gok {m n : Nat} {w : ByteArray} (hw : valid w = true) : ∀ (l : List Nat) (a : Nat), SwOk m n l a → GOk n (l.map fun i => (i, i + m, w)) a
  | [], a, h => h
  | i :: r, a, h => ⟨h.1, by omega, h.2.1, hw, sw_gok hw r (i + m) h.2.2⟩
theorem sw_gsum (m : Nat) (w : ByteArray) : ∀ (l : List Nat), gsum (l.map fun i => (i, i + m, w)) = l.length * rcount w
  | [] => by simp [gsum]
  | i :: r => by rw [List.map_cons, gsum, sw_gsum m w r, List.length_cons, Nat.succ_mul]; omega
/-! ### Where letters stand, bytes stand -/
theorem encL_head {r : Int} (h : scalar r) : ∃ b t, encL r = b :: t ∧ (b.toNat < 128 ∨ 192 ≤ b.toNat) ∧ ∀ x ∈ t, 128 ≤ x.toNat ∧ x.toNat < 192 := by
  have h0 : 0 ≤ r := by rcases h with h | h <;> omega
  have hb : r ≤ 1114111 := by rcases h with h | h <;> omega
  rcases encL_cases h with ⟨h1, e⟩ | ⟨h1, h2, e⟩ | ⟨h1, h2, e⟩ | ⟨h1, e⟩ <;> refine ⟨_, _, e, ?_, ?_⟩
  · rw [u8n _ (by omega)]; omega
  · intro x hx; cases hx
  · rw [u8n _ (by omega)]; omega
  · intro x hx
    simp only [List.mem_cons, List.not_mem_nil, or_false] at hx
    subst hx; rw [u8n _ (by omega)]; omega
  · rw [u8n _ (by omega)]; omega
  · intro x hx
    simp only [List.mem_cons, List.not_mem_nil, or_false] at hx
    rcases hx with rfl | rfl <;> (rw [u8n _ (by omega)]; omega)
  · rw [u8n _ (by omega)]; omega
  · intro x hx
    simp only [List.mem_cons, List.not_mem_nil, or_false] at hx
    rcases hx with rfl | rfl | rfl <;> (rw [u8n _ (by omega)]; omega)
theorem encsL_nil : encsL [] = [] := rfl
theorem bound_at : ∀ {u : List Int} {j : Nat} {b : UInt8}, (∀ x ∈ u, scalar x) → (encsL u)[j]? = some b → (b.toNat < 128 ∨ 192 ≤ b.toNat) → ∃ i, i < u.length ∧ j = (encsL (u.take i)).length
  | [], j, b, _, h, _ => by rw [encsL_nil] at h; simp at h
  | r :: u, j, b, hs, h, hb => by
    obtain ⟨b0, t, e, h1, h2⟩ := encL_head (hs r (.head _))
    rw [encsL_cons] at h
    rcases Nat.lt_or_ge j (encL r).length with c | c
    · rw [List.getElem?_append_left c, e] at h
      cases j with
      | zero => exact ⟨0, by simp, rfl⟩
      | succ j =>
        rw [List.getElem?_cons_succ] at h
        have := h2 b (List.mem_of_getElem? h)
        omega
    · rw [List.getElem?_append_right c] at h
      obtain ⟨i, hi, hj⟩ := bound_at (fun x hx => hs x (.tail _ hx)) h hb
      exact ⟨i + 1, by simp; omega, by rw [List.take_succ_cons, encsL_cons, List.length_append]; omega⟩
theorem pre_of : ∀ {p u : List Int}, (∀ x ∈ p, scalar x) → (∀ x ∈ u, scalar x) → encsL p <+: encsL u → p <+: u
  | [], u, _, _, _ => List.nil_prefix
  | c :: p, [], hp, hu, h => by
    have h1 := h.length_le
    have := encL_len c
    rw [encsL_cons, List.length_append, encsL_nil, List.length_nil] at h1; omega
  | c :: p, d :: u, hp, hu, ⟨r, h⟩ => by
    have hc := hp c (.head _); have hd := hu d (.head _)
    rw [encsL_cons, encsL_cons, List.append_assoc] at h
    have e1 := decL_enc hc (encsL p ++ r)
    have e2 := decL_enc hd (encsL u)
    rw [h, e2] at e1
    have e3 := congrArg Prod.fst e1
    simp only at e3
    have hcd : d = c := by have : 0 ≤ c := by rcases hc with h | h <;> omega
                           have : 0 ≤ d := by rcases hd with h | h <;> omega
                           omega
    subst hcd
    have h2 := List.append_cancel_left h
    obtain ⟨r', hr⟩ := pre_of (fun x hx => hp x (.tail _ hx)) (fun x hx => hu x (.tail _ hx)) ⟨r, h2⟩
    exact ⟨r', by rw [List.cons_append, hr]⟩
theorem encs_drop' (u : List Int) (i : Nat) : (encsL u).drop (encsL (u.take i)).length = encsL (u.drop i) := by
  have e : encsL u = encsL (u.take i) ++ encsL (u.drop i) := by rw [← encsL_append, List.take_append_drop]
  rw [e, List.drop_left]
theorem occ_iff {p u : List Int} (hp : p ≠ []) (hps : ∀ x ∈ p, scalar x) (hus : ∀ x ∈ u, scalar x) (j : Nat) : occAt (encsL u) (encsL p) j = true ↔ ∃ i, i ≤ u.length ∧ j = (encsL (u.take i)).length ∧ stands p u i = true := by
  obtain ⟨c, p', rfl⟩ := List.exists_cons_of_ne_nil hp
  unfold occAt
  rw [List.isPrefixOf_iff_prefix]
  constructor
  · rintro ⟨r, h⟩
    obtain ⟨b, t, e, h1, _⟩ := encL_head (hps c (.head _))
    have hb : (encsL u)[j]? = some b := by
      have : ((encsL u).drop j)[0]? = some b := by rw [← h, encsL_cons, e]; rfl
      rw [List.getElem?_drop] at this
      exact this
    obtain ⟨i, hi, rfl⟩ := bound_at hus hb h1
    rw [encs_drop'] at h
    exact ⟨i, by omega, rfl, stands_iff.2 (pre_of hps (fun x hx => hus x (List.mem_of_mem_drop hx)) ⟨r, h⟩)⟩
  · rintro ⟨i, hi, rfl, h⟩
    obtain ⟨r, h⟩ := stands_iff.1 h
    rw [encs_drop', ← h, encsL_append]
    exact List.prefix_append _ _
theorem encs_take_mono (u : List Int) {i j : Nat} (h : i ≤ j) : (encsL (u.take i)).length ≤ (encsL (u.take j)).length := by
  have : u.take j = u.take i ++ (u.drop i).take (j - i) := by
    rw [← List.take_append_drop i (u.take j), List.take_take, List.drop_take, Nat.min_eq_left h]
  rw [this, encsL_append, List.length_append]; omega
section
variable {p w t : List Int} (hp : p ≠ []) (hps : ∀ x ∈ p, scalar x)
include hp hps
theorem index_stands {u : List Int} (hus : ∀ x ∈ u, scalar x) {q : Nat} (hq : stands p u q = true) (hql : q ≤ u.length) (hn : ∀ x, x < q → stands p u x = false) : index (encsL u) (encsL p) = ((encsL (u.take q)).length : Nat) := by
  refine index_first ?_ ((occ_iff hp hps hus _).2 ⟨q, hql, rfl, hq⟩) (fun j hj => ?_)
  · have := encs_take_mono u (i := q) (j := u.length) hql
    rw [List.take_of_length_le (Nat.le_refl _)] at this
    exact this
  · cases h : occAt (encsL u) (encsL p) j with
    | false => rfl
    | true =>
      obtain ⟨i, hi, rfl, hs⟩ := (occ_iff hp hps hus _).1 h
      rcases Nat.lt_or_ge i q with c | c
      · rw [hn i c] at hs; cases hs
      · have := encs_take_mono u c; omega
theorem index_never {u : List Int} (hus : ∀ x ∈ u, scalar x) (hn : ∀ x, x ≤ u.length → stands p u x = false) : index (encsL u) (encsL p) = -1 := by
  refine index_none (fun j _ => ?_)
  cases h : occAt (encsL u) (encsL p) j with
  | false => rfl
  | true =>
    obtain ⟨i, hi, rfl, hs⟩ := (occ_iff hp hps hus _).1 h
    rw [hn i hi] at hs; cases hs
end
theorem least_from {P : Nat → Bool} {e : Nat} : ∀ (d : Nat), P (e + d) = true → ∃ q, e ≤ q ∧ q ≤ e + d ∧ P q = true ∧ ∀ x, e ≤ x → x < q → P x = false := by
  intro d
  induction d generalizing e with
  | zero => intro h; exact ⟨e, Nat.le_refl _, Nat.le_refl _, h, fun x h1 h2 => by omega⟩
  | succ d ih =>
    intro h
    cases h0 : P e with
    | true => exact ⟨e, Nat.le_refl _, by omega, h0, fun x h1 h2 => by omega⟩
    | false =>
      obtain ⟨q, h1, h2, h3, h4⟩ := ih (e := e + 1) (by rw [show e + 1 + d = e + (d + 1) by omega]; exact h)
      refine ⟨q, by omega, by omega, h3, fun x hx hxq => ?_⟩
      by_cases c : x = e
      · rw [c]; exact h0
      · exact h4 x (by omega) hxq
theorem stands_drop (p t : List Int) (e i : Nat) : stands p (t.drop e) i = stands p t (e + i) := by unfold stands; rw [List.drop_drop]
def swR (m : Nat) (w t : List Int) : List Nat → Nat → List Int
  | [], a => t.drop a
  | i :: r, a => (t.drop a).take (i - a) ++ (w ++ swR m w t r (i + m))
theorem swR_swG (m : Nat) (w : ByteArray) (t : List Int) : ∀ (l : List Nat) (a : Nat), swGR t (l.map fun i => (i, i + m, w)) a = swR m (dec w) t l a
  | [], a => rfl
  | i :: r, a => by rw [List.map_cons, swGR, swR, swR_swG m w t r]
theorem first_or {p t : List Int} (hp : p ≠ []) {e : Nat} (he : e ≤ t.length) : (∀ x, e ≤ x → stands p t x = false) ∨ ∃ q, e ≤ q ∧ q + p.length ≤ t.length ∧ stands p t q = true ∧ ∀ x, e ≤ x → x < q → stands p t x = false := by
  by_cases h : ∃ x, e ≤ x ∧ stands p t x = true
  · obtain ⟨x, h1, h2⟩ := h
    obtain ⟨q, g1, g2, g3, g4⟩ := least_from (P := stands p t) (e := e) (x - e) (by rw [show e + (x - e) = x by omega]; exact h2)
    exact .inr ⟨q, g1, stands_len g3 hp, g3, g4⟩
  · refine .inl fun x hx => ?_
    cases hh : stands p t x with
    | false => rfl
    | true => exact absurd ⟨x, hx, hh⟩ h
theorem split_at {p t : List Int} {e q : Nat} (he : e ≤ q) (hl : q + p.length ≤ t.length) (hq : stands p t q = true) : t.drop e = (t.drop e).take (q - e) ++ (p ++ t.drop (q + p.length)) := by
  obtain ⟨r, hr⟩ := stands_iff.1 hq
  have h1 : t.drop (q + p.length) = r := by rw [← List.drop_drop, ← hr, List.drop_left]
  rw [h1, hr]
  conv => lhs; rw [← List.take_append_drop (q - e) (t.drop e), List.drop_drop, show e + (q - e) = q by omega]
theorem rep_go {p w t : List Int} (hp : p ≠ []) (hps : ∀ x ∈ p, scalar x) (hts : ∀ x ∈ t, scalar x) : ∀ (n e : Nat), t.length - e ≤ n → e ≤ t.length →
    replaceK (encsL p) (encsL w) (count (encsL (t.drop e)) (encsL p)) (encsL (t.drop e)) = encsL (swR p.length w t (gsGo p t (t.length - e) e e) e) := by
  have h0 : 0 < p.length := List.length_pos_iff.2 hp
  have hpe : encsL p ≠ [] := fun e => by have := (encsL_len p).1; rw [e, List.length_nil] at this; omega
  intro n
  induction n with
  | zero =>
    intro e hn he
    have he' : e = t.length := by omega
    subst he'
    have e1 : t.drop t.length = [] := List.drop_length
    have hnn : index (encsL (t.drop t.length)) (encsL p) = -1 := index_never hp hps (by rw [e1]; intro x hx; cases hx) (fun x hx => by
      rw [stands_drop]
      cases hh : stands p t (t.length + x) with
      | false => rfl
      | true => have := stands_len hh hp; omega)
    rw [count_miss hnn, replaceK, Nat.sub_self]
    rfl
  | succ n ih =>
    intro e hn he
    have hds : ∀ x ∈ t.drop e, scalar x := fun x hx => hts x (List.mem_of_mem_drop hx)
    rcases first_or hp he with h | ⟨q, h1, h2, h3, h4⟩
    · have hnn : index (encsL (t.drop e)) (encsL p) = -1 := index_never hp hps hds (fun x hx => by rw [stands_drop]; exact h _ (by omega))
      rw [count_miss hnn, replaceK, gs_stop hp he (fun x hx _ => h x hx), swR]
    · have hi := index_stands hp hps hds (q := q - e) (by rw [stands_drop, show e + (q - e) = q by omega]; exact h3) (by rw [List.length_drop]; omega) (fun x hx => by rw [stands_drop]; exact h4 _ (by omega) (by omega))
      have hsp := split_at h1 h2 h3
      have e1 : encsL (t.drop e) = encsL ((t.drop e).take (q - e)) ++ (encsL p ++ encsL (t.drop (q + p.length))) := by
        conv => lhs; rw [hsp]
        rw [encsL_append, encsL_append]
      have e2 : (encsL (t.drop e)).drop ((encsL ((t.drop e).take (q - e))).length + (encsL p).length) = encsL (t.drop (q + p.length)) := by
        rw [e1, ← List.append_assoc, ← List.length_append, List.drop_left]
      have e3 : (encsL (t.drop e)).take (encsL ((t.drop e).take (q - e))).length = encsL ((t.drop e).take (q - e)) := by
        conv => lhs; rw [e1]
        rw [List.take_left]
      rw [count_hit hpe hi, Nat.add_comm 1, replaceK_hit _ _ _ _ _ hi, e2, e3, ih (q + p.length) (by omega) (by omega), gs_next hp h1 h4 h3, swR, encsL_append, encsL_append, List.append_assoc]
theorem rep_self {p t : List Int} (hp : p ≠ []) : ∀ (n e : Nat), t.length - e ≤ n → e ≤ t.length → swR p.length p t (gsGo p t (t.length - e) e e) e = t.drop e := by
  have h0 : 0 < p.length := List.length_pos_iff.2 hp
  intro n
  induction n with
  | zero =>
    intro e hn he
    have he' : e = t.length := by omega
    subst he'
    rw [Nat.sub_self]; rfl
  | succ n ih =>
    intro e hn he
    rcases first_or hp he with h | ⟨q, h1, h2, h3, h4⟩
    · rw [gs_stop hp he (fun x hx _ => h x hx), swR]
    · rw [gs_next hp h1 h4 h3, swR, ih (q + p.length) (by omega) (by omega)]
      exact (split_at h1 h2 h3).symm
theorem encsL_inj {a b : List Int} (ha : ∀ r ∈ a, scalar r) (hb : ∀ r ∈ b, scalar r) (h : encsL a = encsL b) : a = b := by rw [← decsL_enc ha, ← decsL_enc hb, h]
/-- All of a pattern replaced, byte by byte and letter by letter. -/
theorem rep_all {p w t : List Int} (hp : p ≠ []) (hps : ∀ x ∈ p, scalar x) (hts : ∀ x ∈ t, scalar x) (hws : ∀ x ∈ w, scalar x) : replaceAll (encsL t) (encsL p) (encsL w) = encsL (swR p.length w t (apartF p t) 0) := by
  unfold replaceAll replace
  split
  · rename_i h
    have := encsL_inj hps hws (by simpa using h)
    subst this
    have := rep_self (t := t) hp t.length 0 (by omega) (Nat.zero_le _)
    rw [Nat.sub_zero] at this
    unfold apartF; rw [this]; rfl
  · have hk : replaceNum (encsL t) (encsL p) (-1) = count (encsL t) (encsL p) := by unfold replaceNum; exact if_pos (.inl (by decide))
    rw [hk]
    have := rep_go (w := w) hp hps hts t.length 0 (by omega) (Nat.zero_le _)
    rw [Nat.sub_zero, List.drop_zero] at this
    exact this
/-- What a swap makes is the text with each pattern replaced. -/
theorem swap_makes {s p w : ByteArray} (hs : valid s = true) (hpv : valid p = true) (hw : valid w = true) (hp : dec p ≠ []) (hn : (dec s).length ≤ 65536) (hb : (dec s).length * (dec w).length ≤ 1048576) (hpl : (dec p).length ≤ 65536) (hwl : (dec w).length ≤ 65536) :
    Ok (swapF (dec p) (dec s) w) ∧ applyF (swapF (dec p) (dec s) w) s = ⟨(replaceAll s.data.toList p.data.toList w.data.toList).toArray⟩ := by
  have hsw := (swap_law (p := dec p) (t := dec s) (w := w) hp (by omega) (by omega) hw (by rw [rcount_dec]; omega)).1
  have hok := apart_ok (t := dec s) hp
  have hgl : (apartF (dec p) (dec s)).length ≤ (dec s).length := by
    have key : ∀ (p t : List Int) (f i s : Nat), (gsGo p t f i s).length ≤ f := by
      intro p t f
      induction f with
      | zero => intro i s; exact Nat.le_refl _
      | succ f ih =>
        intro i s
        rw [gsGo]
        have h1 := ih (i + 1) s
        have h2 := ih (i + 1) (i + p.length)
        split
        · omega
        · split
          · rw [List.length_cons]; omega
          · omega
    exact key _ _ _ _ _
  have hgs := sw_gsum (dec p).length w (apartF (dec p) (dec s))
  have hmul := Nat.mul_le_mul_right (rcount w) hgl
  rw [rcount_dec] at hmul hgs
  rw [swP_swG] at hsw
  obtain ⟨l1, l2, l3⟩ := swG_law hs (sw_gok (w := w) hw _ _ hok) (by omega) (by omega)
  rw [hsw] at l1 l3
  refine ⟨l1, ?_⟩
  rw [l3, swR_swG]
  have e1 : encsL (dec s) = s.data.toList := by have := enc_dec hs; rw [← this]; conv => rhs; unfold enc; simp
                                                rw [this]
  have e2 : encsL (dec p) = p.data.toList := by have := enc_dec hpv; rw [← this]; conv => rhs; unfold enc; simp
                                                rw [this]
  have e3 : encsL (dec w) = w.data.toList := by have := enc_dec hw; rw [← this]; conv => rhs; unfold enc; simp
                                                rw [this]
  rw [← e1, ← e2, ← e3, rep_all hp (dec_scalar hpv) (dec_scalar hs) (dec_scalar hw)]
  rfl
end Go.SK
