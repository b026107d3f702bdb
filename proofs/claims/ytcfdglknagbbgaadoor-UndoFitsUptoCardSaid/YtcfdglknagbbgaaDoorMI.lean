/- Plain words: an edit undone twice is itself; piles of edits behind an edit of the text. Plain words: a history of what was done, step by step, and what its laws ask. Memory: piles of edits that are only read. Plain words: what the calls of a history ask of its piles, and how they go over them. Plain words: what the laws of histories meet. -/
import Derived.Test.YtcfdglknagbbgaaDoorMH
import Derived.Test.YtcfdglknagbbgaaDoorK8
import Derived.Test.YtcfdglknagbbgaaDoorMC
set_option linter.unusedVariables false
set_option linter.unusedSimpArgs false
set_option maxRecDepth 100000
namespace Go.SK
open Go
/-! ### The inverse of the inverse -/
def inv1 (p : Part) (m : List Int) : Part := if p.kind = 1 then p else if p.kind = 3 then putP (enc (m.take p.n.toNat)) else dropP p.n
theorem invGo_cons (p : Part) (r : List Part) (m : List Int) : invGo (p :: r) m = inv1 p m :: invGo r (rs p m) := by
  rw [invGo, inv1, rs]
  by_cases k : p.kind = 1
  · simp only [if_pos k]
  · by_cases k3 : p.kind = 3
    · simp only [if_neg k, if_pos k3]
    · simp only [if_neg k, if_neg k3]
theorem invGo_append : ∀ (a b : List Part) (m : List Int), invGo (a ++ b) m = invGo a m ++ invGo b (runS id a m).2
  | [], b, m => rfl
  | p :: a, b, m => by rw [List.cons_append, invGo_cons, invGo_cons, invGo_append a b, runS_cons]; rfl
theorem inv1_fit {p : Part} (hp : FitU p) {m : List Int} (hs : ∀ x ∈ m, scalar x) (hl : (if p.kind = 2 then 0 else p.n) ≤ (m.length : Int)) : FitU (inv1 p m) := by
  have h1 := hp.1
  rcases hp.kinds with k | k | k
  · unfold inv1; rw [if_pos k]; exact hp
  · unfold inv1; rw [if_neg (by omega), if_neg (by omega)]; exact ⟨h1, .inr (.inl ⟨rfl, rfl⟩)⟩
  · unfold inv1; rw [if_neg (by omega), if_pos k]
    rw [if_neg (by omega)] at hl
    have ht : ∀ x ∈ m.take p.n.toNat, scalar x := fun x hx => hs x (List.mem_of_mem_take hx)
    have hn : (putP (enc (m.take p.n.toNat))).n = (m.take p.n.toNat).length := by show ((rcount (enc _) : Nat) : Int) = _; rw [rcount_dec, dec_enc ht]
    exact ⟨by rw [hn, List.length_take]; omega, .inr (.inr ⟨rfl, valid_enc ht, by show ((dec (enc _)).length : Int) = _; rw [dec_enc ht, hn]⟩)⟩
section
variable {β : Type} (ι : Int → β)
theorem rs_more {q p : Part} (hq : FitU q) (hp : FitU p) (h : q.kind = p.kind) (m : List Int) : rs (q.more p) m = rs p (rs q m) := by
  have h1 := hq.1; have h2 := hp.1
  unfold rs
  show (if q.kind = 1 then m.drop (q.n + p.n).toNat else if q.kind = 3 then m.drop (q.n + p.n).toNat else m) = _
  rw [← h]
  by_cases k : q.kind = 1
  · simp only [if_pos k, List.drop_drop]; rw [show (q.n + p.n).toNat = q.n.toNat + p.n.toNat by omega]
  · by_cases k3 : q.kind = 3
    · simp only [if_neg k, if_pos k3, List.drop_drop]; rw [show (q.n + p.n).toNat = q.n.toNat + p.n.toNat by omega]
    · simp only [if_neg k, if_neg k3]
theorem inv_more {q p : Part} (hq : FitU q) (hp : FitU p) (h : q.kind = p.kind) (r : List Part) {m : List Int} (hs : ∀ x ∈ m, scalar x) (hl : (if q.kind = 2 then 0 else q.n + p.n) ≤ (m.length : Int)) (l : List β) :
    runS ι (invGo (q.more p :: r) m) l = runS ι (invGo (q :: p :: r) m) l := by
  have h1 := hq.1; have h2 := hp.1
  have hsd : ∀ x ∈ rs q m, scalar x := fun x hx => by
    unfold rs at hx
    split at hx
    · exact hs x (List.mem_of_mem_drop hx)
    · split at hx
      · exact hs x (List.mem_of_mem_drop hx)
      · exact hs x hx
  have f1 := inv1_fit hq hs (by split <;> rename_i k <;> simp only [k, if_true, if_false] at hl <;> omega)
  have hlen : (if p.kind = 2 then 0 else p.n) ≤ ((rs q m).length : Int) := by
    rw [← h]
    split
    · omega
    · rename_i k
      rw [if_neg k] at hl
      have : rs q m = m.drop q.n.toNat := by unfold rs; rcases hq.kinds with k' | k' | k'; rw [if_pos k']; exact absurd k' k; rw [if_neg (by omega), if_pos k']
      rw [this, List.length_drop]; omega
  have f2 := inv1_fit hp hsd hlen
  have e : inv1 (q.more p) m = (inv1 q m).more (inv1 p (rs q m)) := by
    have hk : (q.more p).kind = q.kind := rfl
    have hn : (q.more p).n = q.n + p.n := rfl
    rcases hq.kinds with k | k | k
    · unfold inv1; rw [hk, if_pos k, if_pos k, if_pos (h ▸ k)]
    · unfold inv1; rw [hk, if_neg (by omega), if_neg (by omega), if_neg (by omega), if_neg (by omega), if_neg (by omega), if_neg (by omega), hn]; rfl
    · unfold inv1 rs; rw [hk, if_neg (by omega), if_pos k, if_neg (by omega), if_pos k, if_neg (by omega), if_pos (h ▸ k), if_neg (by omega), if_pos k, hn]
      have ht : ∀ x ∈ m.take q.n.toNat, scalar x := fun x hx => hs x (List.mem_of_mem_take hx)
      have hu : ∀ x ∈ (m.drop q.n.toNat).take p.n.toNat, scalar x := fun x hx => hs x (List.mem_of_mem_drop (List.mem_of_mem_take hx))
      have hc : m.take (q.n + p.n).toNat = m.take q.n.toNat ++ (m.drop q.n.toNat).take p.n.toNat := by rw [show (q.n + p.n).toNat = q.n.toNat + p.n.toNat by omega, List.take_add]
      unfold putP Part.more
      simp only [Part.mk.injEq, true_and]
      rw [hc, enc_append]
      refine ⟨?_, rfl⟩
      rw [rcount_dec, rcount_dec, rcount_dec, dec_append (valid_enc ht) (valid_enc hu), dec_enc ht, dec_enc hu, List.length_append]; omega
  rw [invGo_cons, invGo_cons, invGo_cons, rs_more hq hp h, e]
  refine runS_more ι f1 f2 ?_ _ l
  unfold inv1
  rw [← h]
  split
  · exact h
  · split <;> rfl
theorem inv_swap {q p : Part} (hq : q.kind = 3) (hp : p.kind = 2) (r : List Part) (m : List Int) (l : List β) : runS ι (invGo (q :: p :: r) m) l = runS ι (invGo (p :: q :: r) m) l := by
  rw [invGo_cons, invGo_cons, invGo_cons, invGo_cons]
  have e1 : rs p (rs q m) = rs q (rs p m) := by
    simp [rs, hq, hp]
  have e2 : inv1 p (rs q m) = dropP p.n := by unfold inv1; rw [if_neg (by omega), if_neg (by omega)]
  have e3 : inv1 p m = dropP p.n := by unfold inv1; rw [if_neg (by omega), if_neg (by omega)]
  have e4 : rs p m = m := by unfold rs; rw [if_neg (by omega), if_neg (by omega)]
  have e5 : inv1 q m = putP (enc (m.take q.n.toNat)) := by unfold inv1; rw [if_neg (by omega), if_pos hq]
  rw [e1, e2, e3, e4, e5]
  exact (runS_swap ι (q := dropP p.n) (p := putP _) rfl rfl _ l).symm
theorem runS_tail_sc : ∀ (a : List Part) (m : List Int), (∀ x ∈ m, scalar x) → ∀ x ∈ (runS id a m).2, scalar x
  | [], m, h => h
  | p :: a, m, h => by
    rw [runS_cons]
    refine runS_tail_sc a _ fun x hx => ?_
    unfold rs at hx
    split at hx
    · exact h x (List.mem_of_mem_drop hx)
    · split at hx
      · exact h x (List.mem_of_mem_drop hx)
      · exact h x hx
theorem inv_congr (a u v : List Part) (m : List Int) (h : ∀ l : List β, runS ι (invGo u (runS id a m).2) l = runS ι (invGo v (runS id a m).2) l) (l : List β) : runS ι (invGo (a ++ u) m) l = runS ι (invGo (a ++ v) m) l := by
  rw [invGo_append, invGo_append, runS_append, runS_append, h]
theorem FitsU.rev {a : List Part} (h : FitsU a) : FitsU a.reverse := fun q hq => h q (List.mem_reverse.1 hq)
theorem addR_inv : ∀ (r : List Part) (p : Part), FitsU r → FitU p → ∀ (t : List Part) (m : List Int) (l : List β), FitsU t → (∀ x ∈ m, scalar x) → fromS (r.reverse ++ p :: t) ≤ m.length → runS ι (invGo ((addR r p).reverse ++ t) m) l = runS ι (invGo (r.reverse ++ p :: t) m) l
  | [], p, hr, hp, t, m, l, _, hs, hl => by rw [addR_nil (by have := hp.1; omega)]; rfl
  | q :: r, p, hr, hp, t, m, l, ht, hs, hl => by
    have hz : ¬ p.n = 0 := by have := hp.1; omega
    have hq := hr q (.head _)
    have htp := fromS_posU ht
    have hrt : (runS id r.reverse m).2.length + fromS r.reverse = m.length := by
      have h1 := fromS_posU hr.tail.rev
      have hl' := hl
      rw [List.reverse_cons, List.append_assoc, (fromS_append _ _).1] at hl'
      have h2 := fromS_posU (e := [q] ++ p :: t) (FitsU.cons hq (FitsU.cons hp ht))
      have := (runS_len id r.reverse m hr.tail.rev (by omega)).2
      omega
    have hsd := runS_tail_sc r.reverse m hs
    by_cases c1 : q.kind = p.kind
    · rw [addR_more hz c1, List.reverse_cons, List.reverse_cons, List.append_assoc, List.append_assoc]
      refine inv_congr ι r.reverse _ _ m (fun l => inv_more ι hq hp c1 t hsd ?_ l) l
      rw [List.reverse_cons, List.append_assoc, (fromS_append _ _).1] at hl
      simp only [List.singleton_append, fromS] at hl
      rw [← c1] at hl
      split
      · omega
      · rename_i k; rw [if_neg k, if_neg k] at hl; omega
    · by_cases c2 : p.kind ≠ 2 ∨ q.kind ≠ 3
      · rw [addR_push hz c1 c2]; simp only [List.reverse_cons, List.append_assoc, List.singleton_append]; rfl
      · have hq3 : q.kind = 3 := Decidable.not_not.1 fun h => c2 (.inr h)
        have hp2 : p.kind = 2 := Decidable.not_not.1 fun h => c2 (.inl h)
        rw [addR_deep hz c1 c2, List.reverse_cons, List.reverse_cons, List.append_assoc, List.append_assoc]
        have hl2 : fromS (r.reverse ++ p :: ([q] ++ t)) ≤ m.length := by
          rw [List.reverse_cons, List.append_assoc, (fromS_append _ _).1] at hl
          rw [(fromS_append _ _).1]
          simp only [List.singleton_append, fromS] at hl ⊢
          omega
        rw [addR_inv r p hr.tail hp ([q] ++ t) m l (FitsU.cons hq ht) hs hl2]
        exact (inv_congr ι r.reverse _ _ m (fun l => inv_swap ι hq3 hp2 t _ l) l).symm
theorem addRs_inv : ∀ (ps r : List Part), MK r → FitsU ps → ∀ (m : List Int) (l : List β), (∀ x ∈ m, scalar x) → fromS (r.reverse ++ ps) ≤ m.length → runS ι (invGo (addRs r ps).reverse m) l = runS ι (invGo (r.reverse ++ ps) m) l
  | [], r, _, _, m, l, _, _ => by rw [List.append_nil]; rfl
  | p :: ps, r, hm, hp, m, l, hs, hl => by
    have hp0 := hp p (.head _)
    rw [addRs_cons, addRs_inv ps (addR r p) (hm.add hp0) hp.tail m l hs ?_]
    · exact addR_inv ι r p hm.fit hp0 ps m l hp.tail hs hl
    · rw [(fromS_append _ _).1, (fromS_rev _).1, (addR_sum r p hp0).1]
      rw [(fromS_append _ _).1, (fromS_rev _).1] at hl
      simp only [fromS] at hl; omega
end
theorem inv_inv : ∀ (e : List Part) (l : List Int), Fits e → fromS e = l.length → (∀ x ∈ l, scalar x) → invGo (invGo e l) (runS id e l).1 = e
  | [], l, _, _, _ => rfl
  | p :: r, l, h, hn, hs => by
    have hp := fitU_of (h p (.head _))
    have h1 := hp.1
    have hr := fromS_posU (fitsU_of h.tail)
    simp only [fromS] at hn
    rw [invGo_cons, runS_cons, invGo_cons]
    rcases hp.2 with ⟨k, kt⟩ | ⟨k, kt⟩ | ⟨k, kv, kn⟩
    · rw [if_neg (by omega)] at hn
      rw [(ot_keep id k l).1, (ot_keep id k l).2]
      have e1 : inv1 p l = p := if_pos k
      rw [e1]
      have e2 : rs p (l.take p.n.toNat ++ (runS id r (l.drop p.n.toNat)).1) = (runS id r (l.drop p.n.toNat)).1 := by
        rw [(ot_keep id k _).2, List.drop_append_of_le_length (by rw [List.length_take]; omega), List.drop_eq_nil_of_le (by rw [List.length_take]; omega)]; rfl
      rw [e2, inv_inv r _ h.tail (by rw [List.length_drop]; omega) (fun x hx => hs x (List.mem_of_mem_drop hx)), show inv1 p _ = p from if_pos k]
    · rw [if_neg (by omega)] at hn
      rw [(ot_drop id k l).1, (ot_drop id k l).2]
      have ht : ∀ x ∈ l.take p.n.toNat, scalar x := fun x hx => hs x (List.mem_of_mem_take hx)
      have e1 : inv1 p l = putP (enc (l.take p.n.toNat)) := by unfold inv1; rw [if_neg (by omega), if_pos k]
      rw [e1, List.nil_append, (ot_put id (p := putP (enc (l.take p.n.toNat))) rfl _).2, inv_inv r _ h.tail (by rw [List.length_drop]; omega) (fun x hx => hs x (List.mem_of_mem_drop hx))]
      have e3 : inv1 (putP (enc (l.take p.n.toNat))) (runS id r (l.drop p.n.toNat)).1 = p := by
        unfold inv1
        rw [if_neg (show ¬ (putP (enc (l.take p.n.toNat))).kind = 1 by show ¬ (2 : Int) = 1; decide), if_neg (show ¬ (putP (enc (l.take p.n.toNat))).kind = 3 by show ¬ (2 : Int) = 3; decide)]
        have hn2 : (putP (enc (l.take p.n.toNat))).n = p.n := by show ((rcount (enc _) : Nat) : Int) = _; rw [rcount_dec, dec_enc ht, List.length_take]; omega
        rw [hn2]
        cases p; simp only at k kt; subst k kt; rfl
      rw [e3]
    · rw [if_pos k] at hn
      rw [(ot_put id k l).1, (ot_put id k l).2]
      have e1 : inv1 p l = dropP p.n := by unfold inv1; rw [if_neg (by omega), if_neg (by omega)]
      have hlen : ((dec p.text).map id).length = p.n.toNat := by rw [List.length_map]; omega
      have e2 : rs (dropP p.n) ((dec p.text).map id ++ (runS id r l).1) = (runS id r l).1 := by
        rw [(ot_drop id (p := dropP p.n) rfl _).2, show (dropP p.n).n.toNat = p.n.toNat from rfl, ← hlen, List.drop_left]
      rw [e1, e2, inv_inv r _ h.tail (by omega) hs]
      have e3 : inv1 (dropP p.n) ((dec p.text).map id ++ (runS id r l).1) = p := by
        unfold inv1
        rw [if_neg (show ¬ (dropP p.n).kind = 1 by show ¬ (3 : Int) = 1; decide), if_pos (show (dropP p.n).kind = 3 from rfl), show (dropP p.n).n.toNat = p.n.toNat from rfl, ← hlen, List.take_left, List.map_id]
        rw [enc_dec kv]
        unfold putP
        rw [rcount_dec, kn]
        cases p; simp only at k; subst k; rfl
      rw [e3]
/-- The inverse of the inverse is the edit itself. -/
theorem inv_inv_law {e : List Part} {s : ByteArray} (z : applyE e s = 0) : invF (invF e s) (applyF e s) = e := by
  obtain ⟨hv, oe, hn⟩ := applyE_z z
  have hs := dec_scalar hv
  obtain ⟨a1, a2, a3, a4, a5⟩ := apply_law hv oe hn
  obtain ⟨b1, b2, b3, b4, b5, b6⟩ := inv_law hv oe hn
  obtain ⟨c1, c2, c3, c4, c5, c6⟩ := inv_law a3 b2 (by omega)
  obtain ⟨f1, f2, f3, _⟩ := inv_run e (dec s) oe.fits hn hs
  obtain ⟨_, _, b7⟩ := invE_z b1
  obtain ⟨_, _, c7⟩ := invE_z c1
  have hm := dec_scalar a3
  refine form_unique c2 oe (by omega) fun l hl => ?_
  rw [c7]
  unfold invR
  have g := inv_run (invF e s) (dec (applyF e s)) b2.fits (by omega) hm
  rw [maker_run Sum.inr g.1 l]
  have h1 : invF e s = (addRs [] (invGo e (dec s))).reverse := b7
  rw [h1]
  have h2 := addRs_inv (β := Gen) Sum.inr (invGo e (dec s)) [] MK.nil f1 (dec (applyF e s)) l hm (by show fromS (invGo e (dec s)) ≤ _; rw [f2]; omega)
  rw [h2]
  show (runS Sum.inr (invGo (invGo e (dec s)) (dec (applyF e s))) l).1 = _
  rw [a4, inv_inv e (dec s) oe.fits hn hs]
end Go.SK

set_option linter.unusedVariables false
set_option linter.unusedSimpArgs false
set_option maxRecDepth 100000
namespace Go.SK
open Go
/-! ### Piles (the last edit first) -/
abbrev Pile := List (List Part)
def onH (p : Pile) (e : List Part) : Pile := (e :: p).take 50
def besE : Pile → List Part → Bool
  | [], _ => true
  | x :: r, e => decide (trE x e = 0) && besE r (trF2 x e)
def besF : Pile → List Part → Pile
  | [], _ => []
  | x :: r, e => trF1 x e :: besF r (trF2 x e)
/-- Each edit is of what the one above it makes; none puts more than so much. -/
def PO (A : Int) : Int → Pile → Prop
  | _, [] => True
  | n, x :: r => Ok x ∧ fromS x = n ∧ putsN x ≤ A ∧ PO A (toS x) r
theorem PO.take {A : Int} : ∀ {n : Int} {p : Pile} (k : Nat), PO A n p → PO A n (p.take k)
  | n, [], k, _ => by simp [PO]
  | n, x :: r, 0, _ => by simp [PO]
  | n, x :: r, k + 1, ⟨h1, h2, h3, h4⟩ => ⟨h1, h2, h3, h4.take k⟩
theorem PO.on {A n : Int} {p : Pile} {e : List Part} (h : PO A n p) (oe : Ok e) (ht : toS e = n) (hp : putsN e ≤ A) : PO A (fromS e) (onH p e) := PO.take 50 ⟨oe, rfl, hp, by rw [ht]; exact h⟩
theorem onH_len (p : Pile) (e : List Part) : (onH p e).length = min 50 (p.length + 1) := by unfold onH; rw [List.length_take]; rfl
theorem tr_room {x e : List Part} {A : Int} (ox : Ok x) (oe : Ok e) (h : fromS x = fromS e) (hx : putsN x ≤ A) (hr : toS e + A ≤ 1099511627776) : trE x e = 0 ∧ Ok (trF1 x e) ∧ Ok (trF2 x e) ∧ fromS (trF1 x e) = toS e ∧ fromS (trF2 x e) = toS x ∧ toS (trF1 x e) = toS (trF2 x e) ∧ toS (trF2 x e) ≤ toS e + A ∧ putsN (trF1 x e) = putsN x := by
  obtain ⟨m1, m2, f1, f2, t, hp, _, r⟩ := tr_law ox oe h
  have hu : FitsU (trR1 x e).reverse := fun q hq => m1.fit q (List.mem_reverse.1 hq)
  have h1 := (toS_puts hu).1
  obtain ⟨c1, c2, c3, o1, o2⟩ := tr_law_ok ox oe h (by omega)
  exact ⟨c1, o1, o2, by rw [c2]; exact f1, by rw [c3]; exact f2, by rw [c2, c3]; exact t, by rw [c3, ← t]; omega, by rw [c2]; exact hp⟩
/-- A pile goes behind an edit of the text. -/
theorem bes_ok {A : Int} (hA : 0 ≤ A) : ∀ (p : Pile) (e : List Part) (n : Int), PO A n p → Ok e → fromS e = n → toS e + (p.length : Int) * A ≤ 1099511627776 - A → besE p e = true ∧ PO A (toS e) (besF p e) ∧ (besF p e).length = p.length
  | [], e, n, _, _, _, _ => ⟨rfl, trivial, rfl⟩
  | x :: r, e, n, ⟨h1, h2, h3, h4⟩, oe, hn, hr => by
    have hlen : ((x :: r).length : Int) * A = (r.length : Int) * A + A := by rw [List.length_cons]; push_cast; rw [Int.add_mul]; omega
    have hm : 0 ≤ (r.length : Int) * A := Int.mul_nonneg (by omega) hA
    obtain ⟨z, o1, o2, f1, f2, t, b, q⟩ := tr_room h1 oe (by omega) h3 (by omega)
    obtain ⟨g1, g2, g3⟩ := bes_ok hA r (trF2 x e) (toS x) h4 o2 f2 (by omega)
    refine ⟨by rw [besE, g1, decide_eq_true z]; rfl, ⟨o1, f1, by omega, ?_⟩, by rw [besF, List.length_cons, g3]; rfl⟩
    rw [t]; exact g2
/-! ### A history -/
structure HS where
  back : Pile
  again : Pile
  n : Int
def HS.fit (h : HS) (e : List Part) : Prop := sizeE e = 0 ∧ (sizeF e).1 = h.n ∧ (sizeF e).2 ≤ 1048576
instance (h : HS) (e : List Part) : Decidable (h.fit e) := by unfold HS.fit; infer_instance
def HS.mineE (h : HS) (e : List Part) (s : ByteArray) : Int := if h.fit e then invE e s else 30
def HS.mine (h : HS) (e : List Part) (s : ByteArray) : HS := if h.mineE e s = 0 then ⟨onH h.back (invF e s), [], (sizeF e).2⟩ else h
def HS.theirsE (h : HS) (e : List Part) : Int := if h.fit e then (if besE h.back e = true ∧ besE h.again e = true then 0 else 4) else 30
def HS.theirs (h : HS) (e : List Part) : HS := if h.theirsE e = 0 then ⟨besF h.back e, besF h.again e, (sizeF e).2⟩ else h
def moveE (p : Pile) (n : Int) (s : ByteArray) : Int := match p with
  | [] => 160
  | x :: _ => if valid s = false ∨ (rcount s : Int) ≠ n then 30 else invE x s
def moveF (p : Pile) (n : Int) (s : ByteArray) : List Part := if moveE p n s = 0 then p.headD [] else []
def HS.undoE (h : HS) (s : ByteArray) : Int := moveE h.back h.n s
def HS.undoF (h : HS) (s : ByteArray) : List Part := moveF h.back h.n s
def HS.undo (h : HS) (s : ByteArray) : HS := if h.undoE s = 0 then ⟨h.back.tail, onH h.again (invF (h.back.headD []) s), (sizeF (h.back.headD [])).2⟩ else h
def HS.redoE (h : HS) (s : ByteArray) : Int := moveE h.again h.n s
def HS.redoF (h : HS) (s : ByteArray) : List Part := moveF h.again h.n s
def HS.redo (h : HS) (s : ByteArray) : HS := if h.redoE s = 0 then ⟨onH h.back (invF (h.again.headD []) s), h.again.tail, (sizeF (h.again.headD [])).2⟩ else h
/-- A history that goes with a text. -/
structure HG (A : Int) (h : HS) (s : ByteArray) : Prop where
  v : valid s = true
  n : h.n = (dec s).length
  nle : h.n ≤ 1048576
  b : PO A h.n h.back
  a : PO A h.n h.again
  bl : h.back.length ≤ 50
  al : h.again.length ≤ 50
section
variable {A : Int} {h : HS} {s : ByteArray} {e : List Part}
theorem inv_puts {e : List Part} {s : ByteArray} (hv : valid s = true) (oe : Ok e) (hn : fromS e = (dec s).length) : putsN (invF e s) ≤ (dec s).length := by
  obtain ⟨_, b2, b3, b4, _⟩ := inv_law hv oe hn
  have := puts_le' b2.1
  omega
theorem HG.fits (g : HG A h s) (z : applyE e s = 0) (ht : toS e ≤ 1048576) : h.fit e := by
  obtain ⟨hv, oe, hn⟩ := applyE_z z
  obtain ⟨a1, a2, a3⟩ := ok_size oe
  exact ⟨a1, by rw [a2, g.n]; exact hn, by rw [a3]; exact ht⟩
theorem HG.mine (g : HG A h s) (z : applyE e s = 0) (ht : toS e ≤ 1048576) (hA : 1048576 ≤ A) : h.mineE e s = 0 ∧ HG A (h.mine e s) (applyF e s) ∧ (h.mine e s).back = onH h.back (invF e s) ∧ (h.mine e s).again = [] := by
  obtain ⟨hv, oe, hn⟩ := applyE_z z
  have hf := g.fits z ht
  obtain ⟨a1, a2, a3, a4, a5⟩ := apply_law hv oe hn
  obtain ⟨b1, b2, b3, b4, _⟩ := inv_law hv oe hn
  have hz : h.mineE e s = 0 := by unfold HS.mineE; rw [if_pos hf]; exact b1
  have hm : h.mine e s = ⟨onH h.back (invF e s), [], (sizeF e).2⟩ := if_pos hz
  have hs := (ok_size oe).2.2
  have hp := inv_puts hv oe hn
  have hgn := g.n; have hgl := g.nle
  rw [hm]
  refine ⟨hz, ⟨a3, by show (sizeF e).2 = _; rw [hs]; omega, by show (sizeF e).2 ≤ _; omega, ?_, trivial, ?_, by show ([] : Pile).length ≤ 50; simp⟩, rfl, rfl⟩
  · show PO A (sizeF e).2 (onH h.back (invF e s))
    rw [hs, ← b3]
    exact g.b.on b2 (by omega) (by omega)
  · show (onH h.back (invF e s)).length ≤ 50
    rw [onH_len]; omega
theorem HG.theirs (g : HG A h s) (z : applyE e s = 0) (ht : toS e ≤ 1048576) (hA : 0 ≤ A) (hA2 : A ≤ 16777216) : h.theirsE e = 0 ∧ HG A (h.theirs e) (applyF e s) ∧ (h.theirs e).back = besF h.back e ∧ (h.theirs e).again = besF h.again e := by
  obtain ⟨hv, oe, hn⟩ := applyE_z z
  have hf := g.fits z ht
  obtain ⟨a1, a2, a3, a4, a5⟩ := apply_law hv oe hn
  have hb := g.bl; have ha := g.al
  have m1 : (h.back.length : Int) * A ≤ 50 * A := Int.mul_le_mul_of_nonneg_right (by omega) hA
  have m2 : (h.again.length : Int) * A ≤ 50 * A := Int.mul_le_mul_of_nonneg_right (by omega) hA
  obtain ⟨p1, p2, p3⟩ := bes_ok hA h.back e h.n g.b oe (by rw [g.n]; exact hn) (by omega)
  obtain ⟨q1, q2, q3⟩ := bes_ok hA h.again e h.n g.a oe (by rw [g.n]; exact hn) (by omega)
  have hz : h.theirsE e = 0 := by unfold HS.theirsE; rw [if_pos hf, if_pos ⟨p1, q1⟩]
  have hm : h.theirs e = ⟨besF h.back e, besF h.again e, (sizeF e).2⟩ := if_pos hz
  have hs := (ok_size oe).2.2
  rw [hm]
  refine ⟨hz, ⟨a3, by show (sizeF e).2 = _; rw [hs]; omega, by show (sizeF e).2 ≤ _; omega, by show PO A (sizeF e).2 _; rw [hs]; exact p2, by show PO A (sizeF e).2 _; rw [hs]; exact q2, by show (besF h.back e).length ≤ 50; omega, by show (besF h.again e).length ≤ 50; omega⟩, rfl, rfl⟩
theorem moveE_cons {x : List Part} {r : Pile} {n : Int} (hv : valid s = true) (hn : n = (dec s).length) (ox : Ok x) (hx : fromS x = n) : moveE (x :: r) n s = 0 ∧ moveF (x :: r) n s = x ∧ applyE x s = 0 := by
  have h1 := (inv_law hv ox (by omega)).1
  have hz : moveE (x :: r) n s = 0 := by
    show (if valid s = false ∨ (rcount s : Int) ≠ n then (30 : Int) else invE x s) = 0
    rw [if_neg (by rw [hv, rcount_dec]; simp only [Bool.true_eq_false, false_or]; omega)]; exact h1
  exact ⟨hz, by unfold moveF; rw [if_pos hz]; rfl, (apply_law hv ox (by omega)).1⟩
/-- The last edit undone. -/
theorem HG.undo (g : HG A h s) {x : List Part} {r : Pile} (hb : h.back = x :: r) (ht : toS x ≤ 1048576) (hA : 1048576 ≤ A) : h.undoE s = 0 ∧ h.undoF s = x ∧ applyE x s = 0 ∧ HG A (h.undo s) (applyF x s) ∧ (h.undo s).back = r ∧ (h.undo s).again = onH h.again (invF x s) := by
  have gb := g.b
  rw [hb] at gb
  obtain ⟨ox, hx, hp, hr⟩ := gb
  have hgn := g.n; have hgl := g.nle
  have hu : h.undoE s = moveE (x :: r) h.n s := by unfold HS.undoE; rw [hb]
  have huf : h.undoF s = moveF (x :: r) h.n s := by unfold HS.undoF; rw [hb]
  obtain ⟨z1, z2, z3⟩ := moveE_cons (r := r) g.v g.n ox hx
  obtain ⟨a1, a2, a3, a4, a5⟩ := apply_law g.v ox (by omega)
  obtain ⟨b1, b2, b3, b4, _⟩ := inv_law g.v ox (by omega)
  have hs := (ok_size ox).2.2
  have hpp := inv_puts g.v ox (by omega)
  have hm : h.undo s = ⟨r, onH h.again (invF x s), (sizeF x).2⟩ := by unfold HS.undo; rw [if_pos (by rw [hu]; exact z1), hb]; rfl
  have hbl := g.bl
  rw [hb, List.length_cons] at hbl
  rw [hm]
  refine ⟨by rw [hu]; exact z1, by rw [huf]; exact z2, z3, ⟨a3, by show (sizeF x).2 = _; rw [hs]; omega, by show (sizeF x).2 ≤ _; omega, by show PO A (sizeF x).2 r; rw [hs]; exact hr, ?_, by show r.length ≤ 50; omega, by show (onH h.again (invF x s)).length ≤ 50; rw [onH_len]; omega⟩, rfl, rfl⟩
  show PO A (sizeF x).2 (onH h.again (invF x s))
  rw [hs, ← b3]
  exact g.a.on b2 (by omega) (by omega)
theorem HG.redo (g : HG A h s) {x : List Part} {r : Pile} (hb : h.again = x :: r) (ht : toS x ≤ 1048576) (hA : 1048576 ≤ A) : h.redoE s = 0 ∧ h.redoF s = x ∧ applyE x s = 0 ∧ HG A (h.redo s) (applyF x s) ∧ (h.redo s).again = r ∧ (h.redo s).back = onH h.back (invF x s) := by
  have gb := g.a
  rw [hb] at gb
  obtain ⟨ox, hx, hp, hr⟩ := gb
  have hgn := g.n; have hgl := g.nle
  have hu : h.redoE s = moveE (x :: r) h.n s := by unfold HS.redoE; rw [hb]
  have huf : h.redoF s = moveF (x :: r) h.n s := by unfold HS.redoF; rw [hb]
  obtain ⟨z1, z2, z3⟩ := moveE_cons (r := r) g.v g.n ox hx
  obtain ⟨a1, a2, a3, a4, a5⟩ := apply_law g.v ox (by omega)
  obtain ⟨b1, b2, b3, b4, _⟩ := inv_law g.v ox (by omega)
  have hs := (ok_size ox).2.2
  have hpp := inv_puts g.v ox (by omega)
  have hm : h.redo s = ⟨onH h.back (invF x s), r, (sizeF x).2⟩ := by unfold HS.redo; rw [if_pos (by rw [hu]; exact z1), hb]; rfl
  have hbl := g.al
  rw [hb, List.length_cons] at hbl
  rw [hm]
  refine ⟨by rw [hu]; exact z1, by rw [huf]; exact z2, z3, ⟨a3, by show (sizeF x).2 = _; rw [hs]; omega, by show (sizeF x).2 ≤ _; omega, ?_, by show PO A (sizeF x).2 r; rw [hs]; exact hr, by show (onH h.back (invF x s)).length ≤ 50; rw [onH_len]; omega, by show r.length ≤ 50; omega⟩, rfl, rfl⟩
  show PO A (sizeF x).2 (onH h.back (invF x s))
  rw [hs, ← b3]
  exact g.b.on b2 (by omega) (by omega)
theorem HG.start (hv : valid s = true) (hn : (dec s).length ≤ 1048576) : HG A ⟨[], [], (dec s).length⟩ s := ⟨hv, rfl, by show ((dec s).length : Int) ≤ _; omega, trivial, trivial, by simp, by simp⟩
end
end Go.SK

set_option linter.unusedVariables false
set_option linter.unusedSimpArgs false
set_option maxRecDepth 100000
namespace Go.SK
open Go Go.RowKit
section
variable {S : Nat → Prop} {w0 w : World} {L : List Res}
theorem nd_cross : ∀ {L : List Res}, L.Pairwise Res.Ok → ∀ {s t : Res}, s ∈ L → t ∈ L → ¬ s.rw → t.rw → ∀ g, s.keys g → t.keys g → False
  | a :: l, hn, s, t, hs, ht, h1, h2, g, k1, k2 => by
    have hc := List.pairwise_cons.1 hn
    rcases List.mem_cons.1 hs with e | hs'
    · rcases List.mem_cons.1 ht with e' | ht'
      · subst e; subst e'; exact h1 h2
      · subst e; exact hc.1 t ht' (.inr h2) g k1 k2
    · rcases List.mem_cons.1 ht with e' | ht'
      · subst e'; exact hc.1 s hs' (.inl h2) g k2 k1
      · exact nd_cross hc.2 hs' ht' h1 h2 g k1 k2
/-- What is only read, told of what is only read. -/
theorem Hp.derive (h : Hp S w0 w L) {q : Res} (hq : q.holds w) (hr : ¬ q.rw) (hk : ∀ g, q.keys g → ∃ s ∈ L, ¬ s.rw ∧ s.keys g) : Hp S w0 w (q :: L) := by
  refine ⟨h.kp, fun t ht => ?_, fun t ht hw => ?_, .cons (fun t ht hw g hg hg' => ?_) h.nd⟩
  · rcases List.mem_cons.1 ht with rfl | ht
    · exact hq
    · exact h.at_ t ht
  · rcases List.mem_cons.1 ht with rfl | ht
    · exact absurd hw hr
    · exact h.own t ht hw
  · obtain ⟨s, hs, h1, h2⟩ := hk g hg
    exact nd_cross h.nd hs ht h1 (hw.resolve_left hr) g h2 hg'
/-- Something in the list, only read, tells what a slice reads. -/
def Src (L : List Res) (v : Value) (sz n : Nat) (xs : List Value) : Prop := ∃ s ∈ L, ¬ s.rw ∧ (∀ w, s.holds w → RdRow w v sz n xs) ∧ ∀ g, (Res.rd v sz n xs).keys g → s.keys g
theorem Src.cons {r : Res} {v : Value} {sz n : Nat} {xs : List Value} (h : Src L v sz n xs) : Src (r :: L) v sz n xs := by
  obtain ⟨s, h1, h2⟩ := h; exact ⟨s, .tail _ h1, h2⟩
theorem Src.rdb {v : Value} {sz n : Nat} {xs : List Value} (h : Src L v sz n xs) : Rdb L v sz n xs := fun S w0 w hp => by
  obtain ⟨s, h1, _, h2, _⟩ := h; exact h2 w (hp.at_ s h1)
theorem Src.rd {v : Value} {sz n : Nat} {xs : List Value} (h : Res.rd v sz n xs ∈ L) : Src L v sz n xs := ⟨_, h, fun x => x, fun w hw => hw, fun g hg => hg⟩
theorem Src.col {sz : Nat} {es : List Ent} {x : Ent} (hm : Go.SK.col sz es ∈ L) (hx : x ∈ es) : Src L x.1 sz x.2.1 x.2.2 := ⟨_, hm, fun x => x, fun w hw => (hw : ∀ x ∈ es, RdRow w x.1 sz x.2.1 x.2.2) x hx, fun g hg => ⟨x, hx, hg⟩⟩
theorem Src.nil (e : Nat) {sz : Nat} (h : Res.rd (.slice none 0 0) sz 0 [] ∈ L) : Src L (.slice none 0 0) sz 0 [] := Src.rd h
abbrev PE := Value × List Part
abbrev pv (ps : List PE) : List Value := ps.map Prod.fst
/-- A pile (the oldest edit first): a slice of edits, and each of them. -/
def pileR (bv : Value) (ps : List PE) : Res := .ro (fun g => (Res.rd bv 1 ps.length (pv ps)).keys g ∨ ∃ x ∈ ps, (Res.rd x.1 3 x.2.length (encs x.2)).keys g)
  (fun w => (Res.rd bv 1 ps.length (pv ps)).holds w ∧ ∀ x ∈ ps, (Res.rd x.1 3 x.2.length (encs x.2)).holds w)
  (fun w w' hm h => ⟨Res.stable _ w w' (fun g hg => hm g (.inl hg)) h.1, fun x hx => Res.stable _ w w' (fun g hg => hm g (.inr ⟨x, hx, hg⟩)) (h.2 x hx)⟩)
  (fun w h g hg => by
    rcases hg with hg | ⟨x, hx, hg⟩
    · exact Res.bound _ w h.1 g hg
    · exact Res.bound _ w (h.2 x hx) g hg)
theorem Src.pile {bv : Value} {ps : List PE} (hm : pileR bv ps ∈ L) : Src L bv 1 ps.length (pv ps) := ⟨_, hm, fun x => x, fun w hw => hw.1, fun g hg => .inl hg⟩
theorem Src.pileE {bv : Value} {ps : List PE} {x : PE} (hm : pileR bv ps ∈ L) (hx : x ∈ ps) : Src L x.1 3 x.2.length (encs x.2) := ⟨_, hm, fun x => x, fun w hw => hw.2 x hx, fun g hg => .inr ⟨x, hx, hg⟩⟩
theorem mk_pile {bv : Value} {ps : List PE} (h : Hp S w0 w L) (hb : Src L bv 1 ps.length (pv ps)) (he : ∀ x ∈ ps, Src L x.1 3 x.2.length (encs x.2)) : Hp S w0 w (pileR bv ps :: L) :=
  h.derive ⟨hb.rdb S w0 w h, fun x hx => (he x hx).rdb S w0 w h⟩ (fun x => x) (fun g hg => by
    rcases hg with hg | ⟨x, hx, hg⟩
    · obtain ⟨s, h1, h2, _, h3⟩ := hb; exact ⟨s, h1, h2, h3 g hg⟩
    · obtain ⟨s, h1, h2, _, h3⟩ := he x hx; exact ⟨s, h1, h2, h3 g hg⟩)
theorem mk_col0 {sz : Nat} (h : Hp S w0 w L) : Hp S w0 w (col sz [] :: L) := h.derive (fun x hx => by cases hx) (fun x => x) (fun g ⟨x, hx, _⟩ => by cases hx)
theorem mk_col1 {v : Value} {sz n : Nat} {xs : List Value} (h : Hp S w0 w L) (hb : Src L v sz n xs) : Hp S w0 w (col sz [(v, n, xs)] :: L) :=
  h.derive (fun x hx => by rw [List.mem_singleton.1 hx]; exact hb.rdb S w0 w h) (fun x => x) (fun g ⟨x, hx, hg⟩ => by
    rw [List.mem_singleton.1 hx] at hg
    obtain ⟨s, h1, h2, _, h3⟩ := hb; exact ⟨s, h1, h2, h3 g hg⟩)
theorem nil_pile (h : Hp S w0 w L) : Hp S w0 w (pileR (.slice none 0 0) [] :: L) :=
  h.derive ⟨⟨rfl, none, 0, rfl, Nat.le_refl _, Nat.zero_le _, by simp, by simp⟩, fun x hx => by cases hx⟩ (fun x => x) (fun g hg => by
    rcases hg with hg | ⟨x, hx, hg⟩
    · exact absurd rfl hg.2
    · cases hx)
theorem row_pile {v : Value} {t m : Nat} {xs : List Value} {ps : List PE} (h : Hp S w0 w (.row v t 1 m xs :: L)) (hx : xs = pv ps) (he : ∀ x ∈ ps, Src L x.1 3 x.2.length (encs x.2)) : Hp S w0 w (pileR v ps :: L) := by
  subst hx
  have h1 : w.ownsRow 0 t 1 v m (pv ps) := h.at_ _ (.head _)
  have h2 : ps.length = m := by have := h1.1; simp only [List.length_map] at this; omega
  subst h2
  exact (mk_pile (row_rd h) (Src.rd (.head _)) (fun x hx => (he x hx).cons)).drop1
theorem rd_pile {v : Value} {m : Nat} {xs : List Value} {ps : List PE} (h : Hp S w0 w (.rd v 1 m xs :: L)) (hx : xs = pv ps) (he : ∀ x ∈ ps, Src L x.1 3 x.2.length (encs x.2)) : Hp S w0 w (pileR v ps :: L) := by
  subst hx
  have h1 : RdRow w v 1 m (pv ps) := h.at_ _ (.head _)
  have h2 : ps.length = m := by have := h1.1; simp only [List.length_map] at this; omega
  subst h2
  exact (mk_pile h (Src.rd (.head _)) (fun x hx => (he x hx).cons)).drop1
theorem row_lenW {v : Value} {e m : Nat} {l : List Value} (h : Hp S w0 w (.row v e 1 m l :: L)) : Hp S w0 w (.row v e 1 l.length l :: L) := by
  have h1 : w.ownsRow 0 e 1 v m l := h.at_ _ (.head _)
  have h2 : l.length = m := by have := h1.1; omega
  rw [h2]; exact h
theorem pile_one {v : Value} {ps : List PE} (hm : pileR v ps ∈ L) (h : Hp S w0 w L) : ∀ u ∈ pv ps, u.oneCell' = true := fun u hu => by
  obtain ⟨x, hx, rfl⟩ := List.mem_map.1 hu
  exact (Src.pileE hm hx).rdb.one h
theorem pile_len {v : Value} {ps : List PE} (hm : pileR v ps ∈ L) (h : Hp S w0 w L) : ps.length ≤ 9223372036854775807 := (Src.pile hm).rdb.lenLe h
theorem Src.mono {L' : List Res} {v : Value} {sz n : Nat} {xs : List Value} (h : Src L v sz n xs) (hs : ∀ r ∈ L, r ∈ L') : Src L' v sz n xs := by
  obtain ⟨s, h1, h2⟩ := h; exact ⟨s, hs s h1, h2⟩
end
end Go.SK

set_option linter.unusedVariables false
set_option linter.unusedSimpArgs false
set_option maxRecDepth 100000
namespace Go.SK
open Go
def Sm (e : List Part) : Prop := small e ∧ e.length ≤ 137438953472
def sn (ps : List PE) : Pile := (ps.map Prod.snd).reverse
def hsOf (pb pa : List PE) (n : Int) : HS := ⟨sn pb, sn pa, n⟩
def BesB : Pile → List Part → Prop
  | [], _ => True
  | x :: r, e => Sm x ∧ Sm e ∧ BesB r (trF2 x e)
def onP (ps : List PE) (x : PE) : List PE := if 50 < ps.length + 1 then (ps ++ [x]).drop 1 else ps ++ [x]
theorem sn_len (ps : List PE) : (sn ps).length = ps.length := by unfold sn; rw [List.length_reverse, List.length_map]
theorem sn_nil : sn [] = [] := rfl
theorem sn_add (ps : List PE) (x : PE) : sn (ps ++ [x]) = x.2 :: sn ps := by unfold sn; rw [List.map_append, List.reverse_append]; rfl
theorem sn_onP {ps : List PE} (h : ps.length ≤ 50) (x : PE) : sn (onP ps x) = onH (sn ps) x.2 := by
  unfold onP onH
  by_cases c : 50 < ps.length + 1
  · rw [if_pos c]
    have hl : ps.length = 50 := by omega
    unfold sn
    rw [List.map_drop, List.reverse_drop, List.map_append, List.reverse_append]
    simp only [List.length_map, List.length_append, List.length_singleton, hl]
    rfl
  · rw [if_neg c, sn_add, List.take_of_length_le (by rw [List.length_cons, sn_len]; omega)]
theorem onP_mem {ps : List PE} {x y : PE} (h : y ∈ onP ps x) : y ∈ ps ∨ y = x := by
  unfold onP at h
  split at h
  · have := List.mem_of_mem_drop h; simpa using this
  · simpa using h
theorem onP_len {ps : List PE} {x : PE} (h : ps.length ≤ 50) : (onP ps x).length ≤ 50 := by
  unfold onP; split <;> simp <;> omega
/-! ### Going over a pile -/
structure BI (P0 : List PE) (e0 : List Part) (v0 : Value) (k : Nat) (ve : Value) (e : List Part) (news : List PE) (es : List Ent) : Prop where
  kle : k ≤ P0.length
  len : k + news.length = P0.length
  z : besE (sn (P0.take k)) e = besE (sn P0) e0
  f : (besF (sn (P0.take k)) e).reverse ++ news.map Prod.snd = (besF (sn P0) e0).reverse
  b : BesB (sn (P0.take k)) e
  me : ∀ L : List Res, Rdb L v0 3 e0.length (encs e0) → col 3 es ∈ L → Rdb L ve 3 e.length (encs e)
  mn : ∀ x ∈ news, ((x.1, x.2.length, encs x.2) : Ent) ∈ es
theorem BI.start {P0 : List PE} {e0 : List Part} {ve : Value} (h : BesB (sn P0) e0) : BI P0 e0 ve P0.length ve e0 [] [] :=
  ⟨Nat.le_refl _, rfl, by rw [List.take_of_length_le (Nat.le_refl _)], by rw [List.take_of_length_le (Nat.le_refl _)]; simp, by rw [List.take_of_length_le (Nat.le_refl _)]; exact h, fun _ h _ => h, by simp⟩
theorem take_sn {P0 : List PE} {j : Nat} {x : PE} (h : j < P0.length) (hx : P0.getD j default = x) : sn (P0.take (j + 1)) = x.2 :: sn (P0.take j) := by
  rw [← sn_add]
  congr 1
  rw [List.take_add_one, List.getElem?_eq_getElem h]
  rw [List.getD_eq_getElem?_getD, List.getElem?_eq_getElem h] at hx
  simp only [Option.getD_some] at hx
  rw [hx]; rfl
theorem BI.at_ {P0 : List PE} {e0 e : List Part} {j : Nat} {v0 ve : Value} {news : List PE} {es : List Ent} {x : PE} (h : BI P0 e0 v0 (j + 1) ve e news es) (hx : P0.getD j default = x) : Sm x.2 ∧ Sm e := by
  have hb := h.b
  rw [take_sn h.kle hx] at hb
  exact ⟨hb.1, hb.2.1⟩
theorem BI.step {P0 : List PE} {e0 e : List Part} {j : Nat} {v0 ve v1 v2 : Value} {news : List PE} {es : List Ent} {x : PE} (h : BI P0 e0 v0 (j + 1) ve e news es) (hx : P0.getD j default = x) (hz : trE x.2 e = 0) :
    BI P0 e0 v0 j v2 (trF2 x.2 e) ((v1, trF1 x.2 e) :: news) ((v2, (trF2 x.2 e).length, encs (trF2 x.2 e)) :: (v1, (trF1 x.2 e).length, encs (trF1 x.2 e)) :: es) := by
  obtain ⟨h1, h2, h3, h4, h5, h6, h7⟩ := h
  rw [take_sn h1 hx] at h3 h4 h5
  refine ⟨by omega, by rw [List.length_cons]; omega, ?_, ?_, h5.2.2, fun L _ hm => (Src.col (x := (v2, (trF2 x.2 e).length, encs (trF2 x.2 e))) hm (.head _)).rdb, fun y hy => ?_⟩
  · rw [← h3, besE, decide_eq_true hz]; rfl
  · rw [← h4, besF, List.reverse_cons, List.map_cons, List.append_assoc]; rfl
  · rcases List.mem_cons.1 hy with rfl | hy
    · simp
    · exact .tail _ (.tail _ (h7 y hy))
theorem BI.bad {P0 : List PE} {e0 e : List Part} {j : Nat} {v0 ve : Value} {news : List PE} {es : List Ent} {x : PE} (h : BI P0 e0 v0 (j + 1) ve e news es) (hx : P0.getD j default = x) (hz : trE x.2 e ≠ 0) : besE (sn P0) e0 = false := by
  rw [← h.z, take_sn h.kle hx, besE, decide_eq_false hz]; rfl
theorem BI.stop {P0 : List PE} {e0 e : List Part} {v0 ve : Value} {news : List PE} {es : List Ent} (h : BI P0 e0 v0 0 ve e news es) : besE (sn P0) e0 = true ∧ sn news = besF (sn P0) e0 := by
  have h1 := h.z; have h2 := h.f
  rw [List.take_zero, sn_nil] at h1 h2
  refine ⟨h1.symm, ?_⟩
  have h3 : news.map Prod.snd = (besF (sn P0) e0).reverse := by simpa [besF] using h2
  unfold sn at h3 ⊢
  rw [h3, List.reverse_reverse]
theorem BI.src {P0 : List PE} {e0 e : List Part} {k : Nat} {v0 ve : Value} {news : List PE} {es : List Ent} {L : List Res} (h : BI P0 e0 v0 k ve e news es) (hm : col 3 es ∈ L) : ∀ x ∈ news, Src L x.1 3 x.2.length (encs x.2) := fun x hx => Src.col (x := (x.1, x.2.length, encs x.2)) hm (h.mn x hx)
theorem pv_get {P0 news : List PE} {j i : Nat} {x : PE} (h : j < P0.length) (hx : P0.getD j default = x) (hi : i = j) : (pv (P0.take (j + 1)) ++ pv news)[i]? = some x.1 := by
  subst hi
  rw [List.getElem?_append_left (by simp only [List.length_map, List.length_take]; omega)]
  show ((P0.take (i + 1)).map Prod.fst)[i]? = _
  rw [List.getElem?_map, List.getElem?_take_of_lt (by omega), List.getElem?_eq_getElem h]
  rw [List.getD_eq_getElem?_getD, List.getElem?_eq_getElem h] at hx
  simpa using congrArg Prod.fst hx
theorem pv_set {P0 news : List PE} {j i : Nat} {y : PE} (h : j < P0.length) (hi : i = j) : (pv (P0.take (j + 1)) ++ pv news).take i ++ [y.1] ++ (pv (P0.take (j + 1)) ++ pv news).drop (i + 1) = pv (P0.take j) ++ pv (y :: news) := by
  subst hi
  have hl : (pv (P0.take (i + 1))).length = i + 1 := by simp only [List.length_map, List.length_take]; omega
  rw [List.take_append_of_le_length (by omega), List.drop_append_of_le_length (by omega)]
  have h1 : (pv (P0.take (i + 1))).take i = pv (P0.take i) := by
    show ((P0.take (i + 1)).map Prod.fst).take i = _
    rw [← List.map_take, List.take_take, show min i (i + 1) = i by omega]
  have h2 : (pv (P0.take (i + 1))).drop (i + 1) = [] := List.drop_eq_nil_of_le (by omega)
  rw [h1, h2]
  simp
/-! ### What the calls answer -/
def fitE (e : List Part) (n : Int) : Int := if sizeE e = 0 ∧ (sizeF e).1 = n ∧ (sizeF e).2 ≤ 1048576 then 0 else 30
def fitT (e : List Part) (n : Int) : Int := if sizeE e = 0 ∧ (sizeF e).1 = n ∧ (sizeF e).2 ≤ 1048576 then (sizeF e).2 else 0
theorem fit_no {e : List Part} {n : Int} (h : ¬ (sizeE e = 0 ∧ (sizeF e).1 = n ∧ (sizeF e).2 ≤ 1048576)) : fitT e n = 0 ∧ fitE e n = 30 := ⟨if_neg h, if_neg h⟩
theorem fit_yes {e : List Part} {n : Int} (h : sizeE e = 0 ∧ (sizeF e).1 = n ∧ (sizeF e).2 ≤ 1048576) : fitT e n = (sizeF e).2 ∧ fitE e n = 0 := ⟨if_pos h, if_pos h⟩
theorem fit_of {e : List Part} {n : Int} (h : ¬ fitE e n ≠ 0) : sizeE e = 0 ∧ (sizeF e).1 = n ∧ (sizeF e).2 ≤ 1048576 := by
  by_cases c : sizeE e = 0 ∧ (sizeF e).1 = n ∧ (sizeF e).2 ≤ 1048576
  · exact c
  · exact absurd (by rw [(fit_no c).2]; decide) h
theorem fit_nz {e : List Part} {n : Int} (h : fitE e n ≠ 0) : fitE e n = 30 ∧ ¬ (sizeE e = 0 ∧ (sizeF e).1 = n ∧ (sizeF e).2 ≤ 1048576) := by
  by_cases c : sizeE e = 0 ∧ (sizeF e).1 = n ∧ (sizeF e).2 ≤ 1048576
  · exact absurd (fit_yes c).2 h
  · exact ⟨(fit_no c).2, c⟩
section
variable {pb pa : List PE} {n : Int} {e : List Part} {s : ByteArray} {vi : Value}
theorem mine_no (c : fitE e n ≠ 0) : fitE e n = (hsOf pb pa n).mineE e s ∧ hsOf pb pa n = (hsOf pb pa n).mine e s := by
  obtain ⟨h1, h2⟩ := fit_nz c
  have h3 : (hsOf pb pa n).mineE e s = 30 := if_neg h2
  exact ⟨by rw [h1, h3], (if_neg (by rw [h3]; decide)).symm⟩
theorem mine_bad (c : ¬ fitE e n ≠ 0) (c' : invE e s ≠ 0) : invE e s = (hsOf pb pa n).mineE e s ∧ hsOf pb pa n = (hsOf pb pa n).mine e s := by
  have h3 : (hsOf pb pa n).mineE e s = invE e s := if_pos (fit_of c)
  exact ⟨h3.symm, (if_neg (by rw [h3]; exact c')).symm⟩
theorem mine_ok (c : ¬ fitE e n ≠ 0) (c' : ¬ invE e s ≠ 0) (hl : pb.length ≤ 50) : 0 = (hsOf pb pa n).mineE e s ∧ hsOf (onP pb (vi, invF e s)) [] (fitT e n) = (hsOf pb pa n).mine e s := by
  have h3 : (hsOf pb pa n).mineE e s = 0 := by rw [show (hsOf pb pa n).mineE e s = invE e s from if_pos (fit_of c)]; omega
  refine ⟨h3.symm, ?_⟩
  rw [show (hsOf pb pa n).mine e s = _ from if_pos h3]
  unfold hsOf
  rw [sn_onP hl, sn_nil, (fit_yes (fit_of c)).1]
theorem theirs_no (c : fitE e n ≠ 0) : fitE e n = (hsOf pb pa n).theirsE e ∧ hsOf pb pa n = (hsOf pb pa n).theirs e := by
  obtain ⟨h1, h2⟩ := fit_nz c
  have h3 : (hsOf pb pa n).theirsE e = 30 := if_neg h2
  exact ⟨by rw [h1, h3], (if_neg (by rw [h3]; decide)).symm⟩
theorem theirs_bad (c : ¬ fitE e n ≠ 0) (c' : ¬ (besE (sn pb) e = true ∧ besE (sn pa) e = true)) : 4 = (hsOf pb pa n).theirsE e ∧ hsOf pb pa n = (hsOf pb pa n).theirs e := by
  have h3 : (hsOf pb pa n).theirsE e = 4 := (if_pos (fit_of c)).trans (if_neg c')
  exact ⟨h3.symm, (if_neg (by rw [h3]; decide)).symm⟩
theorem theirs_ok (c : ¬ fitE e n ≠ 0) (c' : besE (sn pb) e = true ∧ besE (sn pa) e = true) {qb qa : List PE} (h1 : sn qb = besF (sn pb) e) (h2 : sn qa = besF (sn pa) e) : 0 = (hsOf pb pa n).theirsE e ∧ hsOf qb qa (fitT e n) = (hsOf pb pa n).theirs e := by
  have h3 : (hsOf pb pa n).theirsE e = 0 := (if_pos (fit_of c)).trans (if_pos c')
  refine ⟨h3.symm, ?_⟩
  rw [show (hsOf pb pa n).theirs e = _ from if_pos h3]
  unfold hsOf
  rw [h1, h2, (fit_yes (fit_of c)).1]
/-- What taking the last edit from a pile answers. -/
theorem last_sn {pf : List PE} {j : Nat} {x : PE} (hj : pf.length = j + 1) (hx : pf.getD j default = x) : sn pf = x.2 :: sn (pf.take j) := by
  rw [← take_sn (by omega) hx, List.take_of_length_le (by omega)]
theorem move_none : moveE (sn []) n s = 160 ∧ moveF (sn []) n s = [] := ⟨rfl, by unfold moveF; exact if_neg (by show ¬ (160 : Int) = 0; decide)⟩
theorem move_bad {pf : List PE} {j : Nat} (hj : pf.length = j + 1) (c : valid s = false ∨ (rcount s : Int) ≠ n) : moveE (sn pf) n s = 30 ∧ moveF (sn pf) n s = [] := by
  have h1 : moveE (sn pf) n s = 30 := by rw [last_sn hj rfl]; exact if_pos c
  exact ⟨h1, by unfold moveF; rw [if_neg (by rw [h1]; decide)]⟩
theorem move_nz {pf : List PE} {j : Nat} {x : PE} (hj : pf.length = j + 1) (hx : pf.getD j default = x) (c : ¬ (valid s = false ∨ (rcount s : Int) ≠ n)) (c' : invE x.2 s ≠ 0) : moveE (sn pf) n s = invE x.2 s ∧ moveF (sn pf) n s = [] := by
  have h1 : moveE (sn pf) n s = invE x.2 s := by rw [last_sn hj hx]; exact if_neg c
  exact ⟨h1, by unfold moveF; rw [if_neg (by rw [h1]; exact c')]⟩
theorem move_ok {pf : List PE} {j : Nat} {x : PE} (hj : pf.length = j + 1) (hx : pf.getD j default = x) (c : ¬ (valid s = false ∨ (rcount s : Int) ≠ n)) (c' : ¬ invE x.2 s ≠ 0) : moveE (sn pf) n s = 0 ∧ moveF (sn pf) n s = x.2 ∧ (sn pf).tail = sn (pf.take j) ∧ (sn pf).headD [] = x.2 := by
  have h1 : moveE (sn pf) n s = 0 := by rw [last_sn hj hx]; exact (if_neg c).trans (by omega)
  exact ⟨h1, by unfold moveF; rw [if_pos h1, last_sn hj hx]; rfl, by rw [last_sn hj hx]; rfl, by rw [last_sn hj hx]; rfl⟩
theorem undo_no (c : ¬ moveE (sn pb) n s = 0) : hsOf pb pa n = (hsOf pb pa n).undo s := (if_neg c).symm
theorem undo_ok (c : moveE (sn pb) n s = 0) {qb qa : List PE} {n' : Int} (h : sn qb = (sn pb).tail ∧ sn qa = onH (sn pa) (invF ((sn pb).headD []) s) ∧ n' = (sizeF ((sn pb).headD [])).2) : hsOf qb qa n' = (hsOf pb pa n).undo s := by
  rw [show (hsOf pb pa n).undo s = _ from if_pos c]
  unfold hsOf
  rw [h.1, h.2.1, h.2.2]
theorem redo_no (c : ¬ moveE (sn pa) n s = 0) : hsOf pb pa n = (hsOf pb pa n).redo s := (if_neg c).symm
theorem redo_ok (c : moveE (sn pa) n s = 0) {qb qa : List PE} {n' : Int} (h : sn qa = (sn pa).tail ∧ sn qb = onH (sn pb) (invF ((sn pa).headD []) s) ∧ n' = (sizeF ((sn pa).headD [])).2) : hsOf qb qa n' = (hsOf pb pa n).redo s := by
  rw [show (hsOf pb pa n).redo s = _ from if_pos c]
  unfold hsOf
  rw [h.1, h.2.1, h.2.2]
end
/-! ### How long an edit is -/
theorem len_parts : ∀ {e : List Part}, FitsU e → (e.length : Int) ≤ fromS e + putsN e
  | [], _ => by simp [fromS, putsN]
  | p :: r, h => by
    have h1 := len_parts (e := r) (fun q hq => h q (.tail _ hq))
    have h2 := (h p (.head _)).1
    rw [List.length_cons, fromS, putsN]
    split <;> (push_cast; omega)
theorem sm_of {e : List Part} (o : Ok e) {B : Int} (hb : fromS e + putsN e ≤ B) (hB : B ≤ 137438953472) : Sm e :=
  ⟨small_of o.fits, by have := len_parts o.1; omega⟩
theorem po_sm {A : Int} (hA : A ≤ 16777216) : ∀ {p : Pile} {n : Int}, PO A n p → n + p.length * A ≤ 68719476736 → ∀ x ∈ p, Sm x
  | [], _, _, _ => by simp
  | x :: r, n, ⟨h1, h2, h3, h4⟩, hn => fun y hy => by
    have hl : (((x :: r).length : Nat) : Int) * A = (r.length : Int) * A + A := by rw [List.length_cons]; push_cast; rw [Int.add_mul]; omega
    have ht := (toS_puts h1.1).1
    have hp := (toS_puts h1.1)
    rcases List.mem_cons.1 hy with rfl | hy
    · exact sm_of h1 (B := n + A) (by omega) (by have : 0 ≤ (r.length : Int) * A := Int.mul_nonneg (by omega) (by omega); omega)
    · exact po_sm hA h4 (by omega) y hy
end Go.SK

set_option linter.unusedVariables false
set_option linter.unusedSimpArgs false
set_option maxRecDepth 100000
namespace Go.SK
open Go
theorem bes_sm {A : Int} (hA : A ≤ 16777216) : ∀ (p : Pile) (e : List Part) (n : Int), PO A n p → Ok e → fromS e = n → n + p.length * A ≤ 68719476736 → toS e + p.length * A ≤ 68719476736 → BesB p e
  | [], _, _, _, _, _, _, _ => trivial
  | x :: r, e, n, ⟨h1, h2, h3, h4⟩, oe, hn, hl, ht => by
    have hlen : (((x :: r).length : Nat) : Int) * A = (r.length : Int) * A + A := by rw [List.length_cons]; push_cast; rw [Int.add_mul]; omega
    have hp := toS_puts h1.1
    have hm : 0 ≤ (r.length : Int) * A := Int.mul_nonneg (by omega) (by omega)
    obtain ⟨z, o1, o2, f1, f2, t, b, q⟩ := tr_room h1 oe (by omega) h3 (by omega)
    have hpe := puts_le' oe.1
    have hpo := fromS_posU oe.1
    exact ⟨sm_of h1 (B := n + A) (by omega) (by omega), sm_of oe (B := fromS e + toS e) (by omega) (by omega), bes_sm hA r (trF2 x e) (toS x) h4 o2 f2 (by omega) (by omega)⟩
theorem HG.smb {h : HS} {s : ByteArray} (g : HG 1048576 h s) : ∀ x ∈ h.back, Sm x := po_sm (by decide) g.b (by have := g.bl; have := g.nle; omega)
theorem HG.sma {h : HS} {s : ByteArray} (g : HG 1048576 h s) : ∀ x ∈ h.again, Sm x := po_sm (by decide) g.a (by have := g.al; have := g.nle; omega)
theorem sn_mem {ps : List PE} {x : PE} (h : x ∈ ps) : x.2 ∈ sn ps := by unfold sn; rw [List.mem_reverse]; exact List.mem_map.2 ⟨x, h, rfl⟩
theorem sm_sn {ps : List PE} (h : ∀ x ∈ sn ps, Sm x) : ∀ x ∈ ps, Sm x.2 := fun x hx => h _ (sn_mem hx)
theorem hs_eq {pb pa : List PE} {n : Int} {h : HS} (e : hsOf pb pa n = h) : sn pb = h.back ∧ sn pa = h.again ∧ n = h.n ∧ pb.length = h.back.length ∧ pa.length = h.again.length := by
  subst e; exact ⟨rfl, rfl, rfl, (sn_len pb).symm, (sn_len pa).symm⟩
theorem back_of {ps : List PE} {n : Nat} (h : (sn ps).length = n) : ps.length = n := by rw [← h, sn_len]
/-! ### A row of x -/
def sX : ByteArray := ⟨#[120]⟩
def xs : Nat → ByteArray
  | 0 => ⟨#[]⟩
  | i + 1 => xs i ++ sX
theorem xs_facts : ∀ i, valid (xs i) = true ∧ dec (xs i) = List.replicate i 120 ∧ (xs i).size = i
  | 0 => ⟨rfl, rfl, rfl⟩
  | i + 1 => by
    obtain ⟨h1, h2, h3⟩ := xs_facts i
    have hv : valid sX = true := by kernel_rfl
    have hd : dec sX = [120] := by kernel_rfl
    refine ⟨valid_append h1 hv, ?_, ?_⟩
    · rw [xs, dec_append h1 hv, h2, hd, List.replicate_succ']
    · rw [xs, ByteArray.size_append, h3]; rfl
def rep (i : Nat) : List Part := replF i i 0 sX
theorem rcX : rcount sX = 1 := by kernel_rfl
theorem rep_bad (i : Nat) (h : i ≤ 1000) : ¬ replBad i i 0 sX := by
  have hv : valid sX = true := by kernel_rfl
  unfold replBad; rw [hv, rcX]; simp only [Bool.true_eq_false, false_or]; omega
theorem rep_is (i : Nat) (h : i ≤ 1000) : rep i = if i = 0 then [putP sX] else [keepP i, putP sX] := by
  unfold rep replF
  rw [if_neg (rep_bad i h)]
  have hp : ¬ (putP sX).n = 0 := by show ¬ ((rcount sX : Nat) : Int) = 0; rw [rcX]; decide
  have h0 : (i : Int) - i - 0 = 0 := by omega
  rw [h0]
  by_cases c : i = 0
  · subst c
    rw [if_pos rfl, addRs_cons, addR_zero (show (keepP ((0 : Nat) : Int)).n = 0 from rfl), addRs_cons, addR_nil hp, addRs_cons, addR_zero (show (dropP 0).n = 0 from rfl), addRs_cons, addR_zero (show (keepP 0).n = 0 from rfl)]; rfl
  · have hk : ¬ (keepP (i : Int)).n = 0 := by show ¬ (i : Int) = 0; omega
    rw [if_neg c, addRs_cons, addR_nil hk, addRs_cons, addR_push hp (by decide : ¬ (1 : Int) = 2) (.inr (by decide : (1 : Int) ≠ 3)), addRs_cons, addR_zero (show (dropP 0).n = 0 from rfl), addRs_cons, addR_zero (show (keepP 0).n = 0 from rfl)]; rfl
theorem rep_ok (i : Nat) (h : i ≤ 1000) : Ok (rep i) ∧ fromS (rep i) = i ∧ toS (rep i) = i + 1 ∧ applyE (rep i) (xs i) = 0 ∧ applyF (rep i) (xs i) = xs (i + 1) := by
  obtain ⟨o, f, t⟩ := repl_ok (rep_bad i h)
  obtain ⟨x1, x2, x3⟩ := xs_facts i
  obtain ⟨y1, y2, y3⟩ := xs_facts (i + 1)
  have hn : fromS (rep i) = (dec (xs i)).length := by rw [x2, List.length_replicate]; exact f
  obtain ⟨a1, a2, a3, a4, a5⟩ := apply_law x1 o hn
  refine ⟨o, f, by show toS (replF i i 0 sX) = _; rw [t, rcX]; omega, a1, dec_inj a3 y1 ?_⟩
  have hd : dec sX = [120] := by kernel_rfl
  have a4' : dec (applyF (rep i) (xs i)) = (runS id (rep i) (dec (xs i))).1 := a4
  rw [a4', x2, y2, rep_is i h]
  by_cases c : i = 0
  · subst c; rw [if_pos rfl]; show (dec sX ++ []) = _; rw [hd]; rfl
  · rw [if_neg c, runS_cons, runS_cons]
    show ((List.replicate i 120).take (Int.toNat (i : Int))) ++ (dec sX ++ []) = _
    rw [hd, Int.toNat_natCast, List.take_of_length_le (by simp), List.replicate_succ']; rfl
/-! ### So many edits done, and undone -/
def allInv : Nat → Pile
  | 0 => []
  | i + 1 => invF (rep i) (xs i) :: allInv i
theorem allInv_len : ∀ i, (allInv i).length = i
  | 0 => rfl
  | i + 1 => by rw [allInv, List.length_cons, allInv_len]
structure UM (i : Nat) (h : HS) : Prop where
  g : HG 1048576 h (xs i)
  b : h.back = (allInv i).take 50
  a : h.again = []
theorem UM.start : UM 0 ⟨[], [], 0⟩ := ⟨HG.start (s := xs 0) rfl (by show (0 : Nat) ≤ _; decide), rfl, rfl⟩
theorem UM.step {i : Nat} {h : HS} (u : UM i h) (hi : i < 70) : h.mineE (rep i) (xs i) = 0 ∧ UM (i + 1) (h.mine (rep i) (xs i)) := by
  obtain ⟨o, f, t, z, ap⟩ := rep_ok i (by omega)
  obtain ⟨m1, m2, m3, m4⟩ := u.g.mine z (by omega) (Int.le_refl _)
  rw [ap] at m2
  refine ⟨m1, m2, ?_, m4⟩
  rw [m3, u.b, onH, allInv, List.take_succ_cons, List.take_succ_cons, List.take_take, show min 49 50 = 49 by rfl]
structure UV (m b k : Nat) (h : HS) : Prop where
  g : HG 1048576 h (xs (m - k))
  b : h.back = (allInv (m - k)).take (b - k)
theorem UM.turn {m : Nat} {h : HS} (u : UM m h) : UV m (min m 50) 0 h := ⟨u.g, by
  rw [u.b, Nat.sub_zero, Nat.sub_zero]
  by_cases c : m ≤ 50
  · rw [show min m 50 = m by omega, List.take_of_length_le (by rw [allInv_len]; omega), List.take_of_length_le (by rw [allInv_len]; omega)]
  · rw [show min m 50 = 50 by omega]⟩
theorem UV.step {m b k : Nat} {h : HS} (u : UV m b k h) (hk : k < b) (hb : b ≤ m) (hm : m ≤ 70) : h.undoE (xs (m - k)) = 0 ∧ applyF (h.undoF (xs (m - k))) (xs (m - k)) = xs (m - (k + 1)) ∧ Sm (h.undoF (xs (m - k))) ∧ UV m b (k + 1) (h.undo (xs (m - k))) := by
  obtain ⟨g, hb'⟩ := u
  obtain ⟨j, hj⟩ : ∃ j, m - k = j + 1 := ⟨m - k - 1, by omega⟩
  obtain ⟨c, hc⟩ : ∃ c, b - k = c + 1 := ⟨b - k - 1, by omega⟩
  have hj' : m - (k + 1) = j := by omega
  have hc' : b - (k + 1) = c := by omega
  rw [hj] at g hb'
  rw [hc, allInv, List.take_succ_cons] at hb'
  obtain ⟨o, f, t, z, ap⟩ := rep_ok j (by omega)
  obtain ⟨x1, x2, x3⟩ := xs_facts j
  obtain ⟨v1, v2, v3, v4, v5, v6⟩ := inv_law x1 o (by rw [f, x2, List.length_replicate])
  rw [ap] at v6
  obtain ⟨u1, u2, u3, u4, u5, u6⟩ := g.undo hb' (by omega) (Int.le_refl _)
  have hsm := g.smb (invF (rep j) (xs j)) (by rw [hb']; exact .head _)
  rw [v6] at u4
  rw [hj]
  refine ⟨u1, by rw [u2, v6, hj'], by rw [u2]; exact hsm, ?_, ?_⟩
  · rw [hj']; exact u4
  · rw [hj', hc']; exact u5
/-! ### The example -/
def sab : ByteArray := ⟨#[97, 98]⟩
def sY : ByteArray := ⟨#[121]⟩
def saxb : ByteArray := ⟨#[97, 120, 98]⟩
def syaxb : ByteArray := ⟨#[121, 97, 120, 98]⟩
def syab : ByteArray := ⟨#[121, 97, 98]⟩
def AW0 : HS := ⟨[], [], 2⟩
def AW1 : HS := AW0.mine (replF 2 1 0 sX) sab
def AW2 : HS := AW1.theirs (replF 3 0 0 sY)
def AW3 : HS := AW2.undo syaxb
theorem exz1 : applyE (replF 2 1 0 sX) sab = 0 := by kernel_rfl
theorem exf1 : applyF (replF 2 1 0 sX) sab = saxb := by kernel_rfl
theorem exz2 : applyE (replF 3 0 0 sY) saxb = 0 := by kernel_rfl
theorem exf2 : applyF (replF 3 0 0 sY) saxb = syaxb := by kernel_rfl
theorem ext1 : toS (replF 2 1 0 sX) = 3 ∧ toS (replF 3 0 0 sY) = 4 := ⟨by kernel_rfl, by kernel_rfl⟩
theorem exg0 : HG 1048576 AW0 sab := HG.start (s := sab) (by kernel_rfl) (by show (2 : Nat) ≤ _; decide)
theorem exg1 : AW0.mineE (replF 2 1 0 sX) sab = 0 ∧ HG 1048576 AW1 saxb := by
  obtain ⟨a, b, _⟩ := exg0.mine exz1 (by rw [ext1.1]; decide) (Int.le_refl _)
  rw [exf1] at b
  exact ⟨a, b⟩
theorem exg2 : AW1.theirsE (replF 3 0 0 sY) = 0 ∧ HG 1048576 AW2 syaxb := by
  obtain ⟨a, b, _⟩ := exg1.2.theirs exz2 (by rw [ext1.2]; decide) (by decide) (by decide)
  rw [exf2] at b
  exact ⟨a, b⟩
theorem exu : AW2.undoE syaxb = 0 := by kernel_rfl
theorem exb : AW2.back = [AW2.undoF syaxb] := by kernel_rfl
theorem exa : applyF (AW2.undoF syaxb) syaxb = syab := by kernel_rfl
theorem ext : toS (AW2.undoF syaxb) = 3 := by kernel_rfl
theorem exg3 : HG 1048576 AW3 syab := by
  obtain ⟨_, _, _, b, _⟩ := exg2.2.undo exb (by rw [ext]; decide) (Int.le_refl _)
  rw [exa] at b
  exact b
theorem exr : AW3.redoE syab = 0 ∧ applyF (AW3.redoF syab) syab = syaxb ∧ (AW3.redo syab).n = 4 := ⟨by kernel_rfl, by kernel_rfl, by kernel_rfl⟩
theorem bes_of {h : HS} {s : ByteArray} {e : List Part} (g : HG 1048576 h s) (oe : Ok e) (hn : fromS e = h.n) (ht : toS e ≤ 1048576) : BesB h.back e ∧ BesB h.again e := by
  have := g.bl; have := g.al; have := g.nle
  exact ⟨bes_sm (by decide) _ _ _ g.b oe hn (by omega) (by omega), bes_sm (by decide) _ _ _ g.a oe hn (by omega) (by omega)⟩
theorem moveF_sm {p : Pile} {n : Int} {s : ByteArray} (h : ∀ x ∈ p, Sm x) : Sm (moveF p n s) := by
  unfold moveF
  have h0 : Sm [] := ⟨fun p hp => (by cases hp), by decide⟩
  split
  · cases p with
    | nil => exact h0
    | cons x r => exact h x (.head _)
  · exact h0
theorem exbes : BesB AW1.back (replF 3 0 0 sY) ∧ BesB AW1.again (replF 3 0 0 sY) := by
  obtain ⟨_, oe, hn⟩ := applyE_z exz2
  exact bes_of exg1.2 oe (by rw [hn, exg1.2.n]) (by rw [ext1.2]; decide)
theorem sm_repl (n a k : Int) (s : ByteArray) : Sm (replF n a k s) := ⟨repl_small n a k s, by have := repl_len n a k s; omega⟩
end Go.SK
