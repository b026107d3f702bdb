/- Plain words: what transformation makes. -/
import Derived.Test.YtgklklmcmdcpgaaDoorP13
set_option linter.unusedVariables false
set_option linter.unusedSimpArgs false
set_option maxRecDepth 100000
namespace Go.SK
open Go
theorem dv_append : ∀ (a b : List Part), dv (a ++ b) = dv a ++ dv b
  | [], b => rfl
  | p :: a, b => by rw [List.cons_append, dv, dv, dv_append a b, List.append_assoc]
theorem putsN_append : ∀ (a b : List Part), putsN (a ++ b) = putsN a + putsN b
  | [], b => by simp [putsN]
  | p :: a, b => by rw [List.cons_append, putsN, putsN, putsN_append a b]; omega
theorem dv_more {q p : Part} (hq : FitU q) (hp : FitU p) (h : q.kind = p.kind) (r : List Part) : dv (q.more p :: r) = dv (q :: p :: r) ∧ putsN (q.more p :: r) = putsN (q :: p :: r) := by
  have h1 := hq.1; have h2 := hp.1
  have hn : (q.more p).n = q.n + p.n := rfl
  have hN : (q.n + p.n).toNat = q.n.toNat + p.n.toNat := by omega
  have hk : (q.more p).kind = q.kind := rfl
  simp only [dv, dvP, putsN, hk, hn, ← h]
  constructor
  · rw [← List.append_assoc]
    congr 1
    split
    · rw [hN, List.replicate_append_replicate]
    · split
      · rw [hN, List.replicate_append_replicate]
      · rfl
  · split <;> omega
theorem addR_dv : ∀ (r : List Part) (p : Part), FitsU r → FitU p → ∀ (t : List Part), dv ((addR r p).reverse ++ t) = dv (r.reverse ++ p :: t) ∧ putsN ((addR r p).reverse ++ t) = putsN (r.reverse ++ p :: t)
  | [], p, _, hp, t => by rw [addR_nil (by have := hp.1; omega)]; exact ⟨rfl, rfl⟩
  | q :: r, p, h, hp, t => by
    have hn : ¬ p.n = 0 := by have := hp.1; omega
    have hq := h q (.head _)
    by_cases h1 : q.kind = p.kind
    · rw [addR_more hn h1]
      simp only [List.reverse_cons, List.append_assoc, List.cons_append, List.nil_append]
      rw [dv_append, putsN_append, dv_append, putsN_append, (dv_more hq hp h1 t).1, (dv_more hq hp h1 t).2]
      exact ⟨rfl, rfl⟩
    · by_cases h2 : p.kind ≠ 2 ∨ q.kind ≠ 3
      · rw [addR_push hn h1 h2]
        simp only [List.reverse_cons, List.append_assoc, List.cons_append, List.nil_append]
        exact ⟨trivial, trivial⟩
      · rw [addR_deep hn h1 h2]
        simp only [List.reverse_cons, List.append_assoc, List.cons_append, List.nil_append]
        have ih := addR_dv r p h.tail hp (q :: t)
        rw [ih.1, ih.2, dv_append, dv_append, putsN_append, putsN_append]
        have e : dvP p = [] := by unfold dvP; rw [if_neg (by omega), if_neg (by omega)]
        simp only [dv, putsN, e, List.nil_append, true_and]
        omega
theorem addRs_dv : ∀ (ps r : List Part), MK r → FitsU ps → ∀ (t : List Part), dv ((addRs r ps).reverse ++ t) = dv (r.reverse ++ (ps ++ t)) ∧ putsN ((addRs r ps).reverse ++ t) = putsN (r.reverse ++ (ps ++ t))
  | [], r, _, _, t => ⟨rfl, rfl⟩
  | p :: ps, r, h, hp, t => by
    rw [addRs_cons, (addRs_dv ps (addR r p) (h.add (hp p (.head _))) hp.tail t).1, (addRs_dv ps (addR r p) (h.add (hp p (.head _))) hp.tail t).2, (addR_dv r p h.fit (hp p (.head _)) _).1, (addR_dv r p h.fit (hp p (.head _)) _).2]
    exact ⟨rfl, rfl⟩
theorem maker_dv {ps : List Part} (hp : FitsU ps) : dv (addRs [] ps).reverse = dv ps ∧ putsN (addRs [] ps).reverse = putsN ps := by
  have := addRs_dv ps [] MK.nil hp []
  simpa using this
theorem toS_puts : ∀ {e : List Part}, FitsU e → toS e ≤ fromS e + putsN e ∧ 0 ≤ putsN e
  | [], _ => by simp [toS, fromS, putsN]
  | p :: r, h => by
    have h1 := (h p (.head _)).1
    have := toS_puts h.tail
    simp only [toS, fromS, putsN]
    constructor
    · split <;> split <;> omega
    · split <;> omega
/-- What transformation makes of two edits of one text. -/
theorem tr_law {a b : List Part} (oa : Ok a) (ob : Ok b) (e : fromS a = fromS b) :
    MK (trR1 a b) ∧ MK (trR2 a b) ∧ fromS (trR1 a b).reverse = toS b ∧ fromS (trR2 a b).reverse = toS a ∧ toS (trR1 a b).reverse = toS (trR2 a b).reverse ∧
    putsN (trR1 a b).reverse = putsN a ∧ dv (trR1 a b).reverse = (runS fls b (dv a)).1 ∧
    ∀ {β : Type} (ι : Int → β) (l : List β), (l.length : Int) = fromS a → (runS ι (trR1 a b).reverse (runS ι b l).1).1 = (runS ι (trR2 a b).reverse (runS ι a l).1).1 := by
  have pa := fromS_posU oa.1
  have hl := len_list (fromS a) pa.1
  have key := fun {β : Type} (ι : Int → β) (l : List β) (hl : (l.length : Int) = fromS a) => tr_run ι (a.length + b.length) a b l oa.fits ob.fits e (Nat.le_refl _) hl
  obtain ⟨h1, h2, h3, h4, _⟩ := key (id : Int → Int) (List.replicate (fromS a).toNat 0) hl
  obtain ⟨d1, d2⟩ := tr_dv (a.length + b.length) a b oa.fits ob.fits e (Nat.le_refl _)
  obtain ⟨m1, m2, m3⟩ := addRs_mk (trGo (a.length + b.length) a b).1 [] MK.nil h1
  obtain ⟨n1, n2, n3⟩ := addRs_mk (trGo (a.length + b.length) a b).2 [] MK.nil h2
  have z0 : fromS ([] : List Part) = 0 := rfl
  have z1 : toS ([] : List Part) = 0 := rfl
  have r1 := fromS_rev (trR1 a b); have r2 := fromS_rev (trR2 a b)
  have R1 : trR1 a b = addRs [] (trGo (a.length + b.length) a b).1 := rfl
  have R2 : trR2 a b = addRs [] (trGo (a.length + b.length) a b).2 := rfl
  have f1 : fromS (trR1 a b).reverse = toS b := by rw [r1.1, R1]; omega
  have f2 : fromS (trR2 a b).reverse = toS a := by rw [r2.1, R2]; omega
  have run : ∀ {β : Type} (ι : Int → β) (l : List β), (l.length : Int) = fromS a → (runS ι (trR1 a b).reverse (runS ι b l).1).1 = (runS ι (trR2 a b).reverse (runS ι a l).1).1 := fun ι l hl => by
    rw [R1, R2, maker_run ι h1, maker_run ι h2]; exact (key ι l hl).2.2.2.2
  have g1 : FitsU (trR1 a b).reverse := fun p hp => m1.fit p (List.mem_reverse.1 hp)
  have g2 : FitsU (trR2 a b).reverse := fun p hp => n1.fit p (List.mem_reverse.1 hp)
  refine ⟨m1, n1, f1, f2, ?_, by rw [R1, (maker_dv h1).2, d1], by rw [R1, (maker_dv h1).1, d2], run⟩
  have l1 := (runS_len id b (List.replicate (fromS a).toNat 0) ob.1 (by omega)).1
  have l2 := (runS_len id a (List.replicate (fromS a).toNat 0) oa.1 (by omega)).1
  have l3 := (runS_len id _ (runS id b (List.replicate (fromS a).toNat 0)).1 g1 (by omega)).1
  have l4 := (runS_len id _ (runS id a (List.replicate (fromS a).toNat 0)).1 g2 (by omega)).1
  rw [run id _ hl] at l3
  omega
theorem tr_law_ok {a b : List Part} (oa : Ok a) (ob : Ok b) (e : fromS a = fromS b) (h : toS (trR1 a b).reverse ≤ 1099511627776) :
    trE a b = 0 ∧ trF1 a b = (trR1 a b).reverse ∧ trF2 a b = (trR2 a b).reverse ∧ Ok (trF1 a b) ∧ Ok (trF2 a b) := by
  obtain ⟨m1, m2, f1, f2, t, _⟩ := tr_law oa ob e
  have r1 := fromS_rev (trR1 a b); have r2 := fromS_rev (trR2 a b)
  have o1 : Ok (trR1 a b).reverse := m1.ok (by have := ob.2.2.2; omega) (by omega)
  have o2 : Ok (trR2 a b).reverse := m2.ok (by have := oa.2.2.2; omega) (by omega)
  have nl : ¬ trLong a b := by
    unfold trLong
    rw [ok_iff.2 o1, ok_iff.2 o2]; simp
  obtain ⟨c1, c2, c3⟩ := tr_ok (trBad_iff.2 ⟨oa, ob, e⟩) nl
  exact ⟨c1, c2, c3, by rw [c2]; exact o1, by rw [c3]; exact o2⟩
theorem tr_long_law {a b : List Part} (oa : Ok a) (ob : Ok b) (e : fromS a = fromS b) (h : 1099511627776 < toS (trR1 a b).reverse) : trE a b = 4 := by
  have nl : trLong a b := by
    unfold trLong
    left
    refine not_ok fun ho => ?_
    have := ho.2.2.2; omega
  exact (tr_long (trBad_iff.2 ⟨oa, ob, e⟩) nl).1
end Go.SK
