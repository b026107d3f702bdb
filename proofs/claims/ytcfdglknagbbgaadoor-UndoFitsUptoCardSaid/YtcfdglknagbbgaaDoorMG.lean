/- Plain words: an edit spread out, what that does, and its one form. Plain words: composition, inverse, application and cursors of edits that are spread out. Plain words: how the document's own answer goes over edits that are spread out, step by step. Plain words: how large what the document's own answer makes is. -/
import Derived.Test.YtcfdglknagbbgaaDoorMD
set_option linter.unusedVariables false
set_option linter.unusedSimpArgs false
set_option maxRecDepth 100000
namespace Go.SK
open Go
/-! ### Spread out: what is put ahead of each, and at the end; whether each is dropped (`dv`) -/
def addH (t : List Int) : List (List Int) → List (List Int)
  | [] => [t]
  | h :: r => (t ++ h) :: r
def spP : List Part → List (List Int)
  | [] => [[]]
  | p :: r => if p.kind = 2 then addH (dec p.text) (spP r) else List.replicate p.n.toNat [] ++ spP r
theorem addH_len (t : List Int) {P : List (List Int)} (h : 0 < P.length) : (addH t P).length = P.length := by
  cases P with
  | nil => simp at h
  | cons a r => rfl
theorem spP_len : ∀ {e : List Part}, FitsU e → (spP e).length = (dv e).length + 1
  | [], _ => rfl
  | p :: r, h => by
    have ih := spP_len h.tail
    have h1 := (h p (.head _)).1
    rw [spP, dv]
    rcases (h p (.head _)).kinds with k | k | k
    · rw [if_neg (by omega), List.length_append, List.length_append, List.length_replicate, ih]
      unfold dvP; rw [if_pos k, List.length_replicate]; omega
    · rw [if_pos k, addH_len _ (by omega), ih]
      unfold dvP; rw [if_neg (by omega), if_neg (by omega)]; simp
    · rw [if_neg (by omega), List.length_append, List.length_append, List.length_replicate, ih]
      unfold dvP; rw [if_neg (by omega), if_pos k, List.length_replicate]; omega
def scP (P : List (List Int)) : Prop := ∀ t ∈ P, ∀ x ∈ t, scalar x
theorem scP.tail {t : List Int} {P : List (List Int)} (h : scP (t :: P)) : scP P := fun u hu => h u (.tail _ hu)
theorem scP.addH {t : List Int} {P : List (List Int)} (ht : ∀ x ∈ t, scalar x) (h : scP P) : scP (addH t P) := by
  cases P with
  | nil => intro u hu; rw [List.mem_singleton.1 hu]; exact ht
  | cons a r =>
    intro u hu
    rcases List.mem_cons.1 hu with rfl | hu
    · intro x hx; rcases List.mem_append.1 hx with hx | hx
      · exact ht x hx
      · exact h a (.head _) x hx
    · exact h u (.tail _ hu)
theorem spP_sc : ∀ {e : List Part}, FitsU e → scP (spP e)
  | [], _ => fun t ht => by rw [List.mem_singleton.1 ht]; intro x hx; cases hx
  | p :: r, h => by
    have ih := spP_sc h.tail
    rw [spP]
    split
    · rename_i k
      refine ih.addH ?_
      rcases (h p (.head _)).2 with ⟨k', _⟩ | ⟨k', _⟩ | ⟨_, hv, _⟩
      · omega
      · omega
      · exact dec_scalar hv
    · intro t ht
      rcases List.mem_append.1 ht with ht | ht
      · rw [(List.mem_replicate.1 ht).2]; intro x hx; cases hx
      · exact ih t ht
section
variable {β : Type} (ι : Int → β)
def runW : List (List Int) → List Bool → List β → List β
  | P, [], _ => (P.headD []).map ι
  | P, d :: D, l => (P.headD []).map ι ++ ((if d then [] else l.take 1) ++ runW P.tail D (l.drop 1))
theorem runW_addH (t : List Int) {P : List (List Int)} (h : 0 < P.length) (D : List Bool) (l : List β) : runW ι (addH t P) D l = t.map ι ++ runW ι P D l := by
  cases P with
  | nil => simp at h
  | cons a r => cases D <;> simp [runW, addH, List.append_assoc]
theorem runW_keep (n : Nat) (P : List (List Int)) (D : List Bool) : ∀ l : List β, runW ι (List.replicate n [] ++ P) (List.replicate n false ++ D) l = l.take n ++ runW ι P D (l.drop n) := by
  induction n with
  | zero => intro l; simp
  | succ n ih =>
    intro l
    simp only [List.replicate_succ, List.cons_append, runW, List.headD_cons, List.map_nil, List.nil_append, Bool.false_eq_true, if_false, List.tail_cons, ih (l.drop 1), List.drop_drop]
    rw [← List.append_assoc]
    congr 1
    · cases l <;> simp [List.take_succ_cons]
    · rw [Nat.add_comm]
theorem runW_drop (n : Nat) (P : List (List Int)) (D : List Bool) : ∀ l : List β, runW ι (List.replicate n [] ++ P) (List.replicate n true ++ D) l = runW ι P D (l.drop n) := by
  induction n with
  | zero => intro l; simp
  | succ n ih =>
    intro l
    simp only [List.replicate_succ, List.cons_append, runW, List.headD_cons, List.map_nil, List.nil_append, if_true, List.tail_cons, ih (l.drop 1), List.drop_drop]
    rw [Nat.add_comm]
theorem spread_run : ∀ (e : List Part) (l : List β), FitsU e → runW ι (spP e) (dv e) l = (runS ι e l).1
  | [], l, _ => by simp [spP, dv, runW, runS]
  | p :: r, l, h => by
    have hl := spP_len h.tail
    rw [spP, dv, runS_cons]
    rcases (h p (.head _)).kinds with k | k | k
    · rw [if_neg (by omega), show dvP p = List.replicate p.n.toNat false from if_pos k, runW_keep, (ot_keep ι k l).1, (ot_keep ι k l).2, spread_run r _ h.tail]
    · rw [if_pos k, show dvP p = [] by unfold dvP; rw [if_neg (by omega), if_neg (by omega)], List.nil_append, runW_addH ι _ (by omega), (ot_put ι k l).1, (ot_put ι k l).2, spread_run r _ h.tail]
    · rw [if_neg (by omega), show dvP p = List.replicate p.n.toNat true by unfold dvP; rw [if_neg (by omega), if_pos k], runW_drop, (ot_drop ι k l).1, (ot_drop ι k l).2, spread_run r _ h.tail]; rfl
end
/-! ### Closed -/
def closeGo : List (List Int) → List Bool → List Int → Int → List Part → List Part
  | P, [], ahead, drops, r => bothR r (enc (ahead ++ P.headD [])) drops
  | P, true :: D, ahead, drops, r => closeGo P.tail D (ahead ++ P.headD []) (drops + 1) r
  | P, false :: D, ahead, drops, r => closeGo P.tail D [] 0 (oneR (bothR r (enc (ahead ++ P.headD [])) drops) ⟨1, 1, ⟨#[]⟩⟩)
def closeF (P : List (List Int)) (D : List Bool) : List Part := (closeGo P D [] 0 []).reverse
def pt (t : List Int) : List Part := if t = [] then [] else [putP (enc t)]
def dt (d : Int) : List Part := if d = 0 then [] else [dropP d]
def closeP : List (List Int) → List Bool → List Int → Int → List Part
  | P, [], ahead, drops => pt (ahead ++ P.headD []) ++ dt drops
  | P, true :: D, ahead, drops => closeP P.tail D (ahead ++ P.headD []) (drops + 1)
  | P, false :: D, ahead, drops => pt (ahead ++ P.headD []) ++ (dt drops ++ (keepP 1 :: closeP P.tail D [] 0))
def noDropHead (r : List Part) : Prop := ∀ q, r.head? = some q → q.kind ≠ 3
theorem oneR_addR {r : List Part} {p : Part} (hz : p.n ≠ 0) (h : p.kind ≠ 2 ∨ noDropHead r) : oneR r p = addR r p := by
  cases r with
  | nil => rw [addR_nil hz]; rfl
  | cons q r =>
    by_cases c : q.kind = p.kind
    · rw [addR_more hz c, oneR_same c]
    · rw [addR_push hz c (h.imp id fun hn => hn q rfl), oneR_push c]
theorem enc_empty {t : List Int} : enc t = ⟨#[]⟩ ↔ t = [] := by
  constructor
  · intro h
    have := (enc_size t).1
    rw [h] at this
    exact List.length_eq_zero_iff.1 (Nat.le_zero.1 this)
  · rintro rfl; rfl
theorem pt_n {t : List Int} (ht : ∀ x ∈ t, scalar x) : (putP (enc t)).n = t.length := by
  show ((rcount (enc t) : Nat) : Int) = _
  rw [rcount_dec, dec_enc ht]
theorem both_add {r : List Part} {t : List Int} {d : Int} (ht : ∀ x ∈ t, scalar x) (hd : 0 ≤ d) (hr : noDropHead r) : bothR r (enc t) d = addRs r (pt t ++ dt d) := by
  have h1 : (if enc t = ⟨#[]⟩ then r else oneR r (putP (enc t))) = addRs r (pt t) := by
    unfold pt
    by_cases c : t = []
    · rw [if_pos (enc_empty.2 c), if_pos c]; rfl
    · rw [if_neg (fun h => c (enc_empty.1 h)), if_neg c, oneR_addR (by rw [pt_n ht]; have := List.length_pos_iff.2 c; omega) (.inr hr)]; rfl
  unfold bothR
  rw [h1, addRs_append]
  unfold dt
  by_cases c : d = 0
  · rw [if_neg (by omega), if_pos c]; rfl
  · rw [if_pos (by omega), if_neg c, oneR_addR (p := dropP d) c (.inl (show ¬ (3 : Int) = 2 by decide))]; rfl
theorem addR_keep_head {r : List Part} (h : ¬ (keepP 1).n = 0 := by decide) : noDropHead (addR r (keepP 1)) := by
  intro q hq
  rcases addR_head h q hq with h | h
  · rw [h]; decide
  · exact absurd h.2 (by decide)
theorem close_add : ∀ (D : List Bool) (P : List (List Int)) (ahead : List Int) (drops : Int) (r : List Part), scP P → (∀ x ∈ ahead, scalar x) → 0 ≤ drops → noDropHead r → P.length = D.length + 1 → closeGo P D ahead drops r = addRs r (closeP P D ahead drops)
  | [], h :: P, ahead, drops, r, hs, ha, hd, hr, hl => by
    rw [closeGo, closeP]
    exact both_add (by intro x hx; rcases List.mem_append.1 hx with hx | hx; exact ha x hx; exact hs h (.head _) x hx) hd hr
  | true :: D, h :: P, ahead, drops, r, hs, ha, hd, hr, hl => by
    rw [closeGo, closeP]
    exact close_add D P _ _ r hs.tail (by intro x hx; rcases List.mem_append.1 hx with hx | hx; exact ha x hx; exact hs h (.head _) x hx) (by omega) hr (by simpa using hl)
  | false :: D, h :: P, ahead, drops, r, hs, ha, hd, hr, hl => by
    have hx : ∀ x ∈ ahead ++ h, scalar x := by intro x hx; rcases List.mem_append.1 hx with hx | hx; exact ha x hx; exact hs h (.head _) x hx
    rw [closeGo, closeP]
    simp only [List.headD_cons, List.tail_cons]
    rw [both_add hx hd hr, oneR_addR (p := ⟨1, 1, ⟨#[]⟩⟩) (by decide) (.inl (by decide))]
    show closeGo P D [] 0 (addR (addRs r (pt (ahead ++ h) ++ dt drops)) (keepP 1)) = _
    rw [close_add D P [] 0 _ hs.tail (by intro x hx; cases hx) (by omega) addR_keep_head (by simpa using hl)]
    rw [show pt (ahead ++ h) ++ (dt drops ++ keepP 1 :: closeP P D [] 0) = (pt (ahead ++ h) ++ dt drops) ++ ([keepP 1] ++ closeP P D [] 0) by simp]
    simp only [addRs_append]
    rfl
theorem pt_fit {t : List Int} (ht : ∀ x ∈ t, scalar x) : FitsU (pt t) ∧ fromS (pt t) = 0 := by
  unfold pt
  split
  · exact ⟨fun _ h => (by cases h), rfl⟩
  · rename_i c
    have := List.length_pos_iff.2 c
    refine ⟨fun q hq => ?_, by simp [fromS, putP]⟩
    rw [List.mem_singleton.1 hq]
    exact ⟨by rw [pt_n ht]; omega, .inr (.inr ⟨rfl, valid_enc ht, by rw [pt_n ht]; show ((dec (enc t)).length : Int) = _; rw [dec_enc ht]⟩)⟩
theorem dt_fit {d : Int} (h : 0 ≤ d) : FitsU (dt d) ∧ fromS (dt d) = d := by
  unfold dt
  split
  · exact ⟨fun _ h => (by cases h), by simp only [fromS]; omega⟩
  · refine ⟨fun q hq => ?_, by simp [fromS, dropP]⟩
    rw [List.mem_singleton.1 hq]
    exact ⟨by show 1 ≤ d; omega, .inr (.inl ⟨rfl, rfl⟩)⟩
theorem FitsU.append {a b : List Part} (h : FitsU a) (h' : FitsU b) : FitsU (a ++ b) := fun q hq => (List.mem_append.1 hq).elim (h q) (h' q)
theorem close_fit : ∀ (D : List Bool) (P : List (List Int)) (ahead : List Int) (drops : Int), scP P → (∀ x ∈ ahead, scalar x) → 0 ≤ drops → P.length = D.length + 1 → FitsU (closeP P D ahead drops) ∧ fromS (closeP P D ahead drops) = drops + D.length
  | [], h :: P, ahead, drops, hs, ha, hd, hl => by
    have hx : ∀ x ∈ ahead ++ h, scalar x := by intro x hx; rcases List.mem_append.1 hx with hx | hx; exact ha x hx; exact hs h (.head _) x hx
    rw [closeP]
    exact ⟨(pt_fit hx).1.append (dt_fit hd).1, by rw [(fromS_append _ _).1]; have := (pt_fit hx).2; have := (dt_fit hd).2; simp only [List.headD_cons, List.length_nil] at *; omega⟩
  | true :: D, h :: P, ahead, drops, hs, ha, hd, hl => by
    rw [closeP]
    have := close_fit D P (ahead ++ h) (drops + 1) hs.tail (by intro x hx; rcases List.mem_append.1 hx with hx | hx; exact ha x hx; exact hs h (.head _) x hx) (by omega) (by simpa using hl)
    exact ⟨this.1, by simp only [List.headD_cons, List.tail_cons, List.length_cons] at *; rw [this.2]; omega⟩
  | false :: D, h :: P, ahead, drops, hs, ha, hd, hl => by
    have hx : ∀ x ∈ ahead ++ h, scalar x := by intro x hx; rcases List.mem_append.1 hx with hx | hx; exact ha x hx; exact hs h (.head _) x hx
    rw [closeP]
    have := close_fit D P [] 0 hs.tail (by intro x hx; cases hx) (by omega) (by simpa using hl)
    refine ⟨(pt_fit hx).1.append ((dt_fit hd).1.append (FitsU.cons (keepP_fit (by omega)) this.1)), ?_⟩
    have h1 := (pt_fit hx).2; have h2 := (dt_fit hd).2
    rw [(fromS_append _ _).1, (fromS_append _ _).1]
    simp only [List.headD_cons, List.tail_cons, List.length_cons, fromS] at *
    rw [this.2]
    rw [if_neg (show ¬ (keepP 1).kind = 2 by decide), show (keepP 1).n = 1 from rfl]
    omega
section
variable {β : Type} (ι : Int → β)
theorem pt_run {t : List Int} (ht : ∀ x ∈ t, scalar x) (r : List Part) (l : List β) : runS ι (pt t ++ r) l = (t.map ι ++ (runS ι r l).1, (runS ι r l).2) := by
  unfold pt
  split
  · rename_i c; subst c; simp
  · rw [List.singleton_append, runS_cons, (ot_put ι (p := putP (enc t)) rfl l).1, (ot_put ι (p := putP (enc t)) rfl l).2]
    rw [show dec (putP (enc t)).text = t from dec_enc ht]
theorem dt_run {d : Int} (h : 0 ≤ d) (r : List Part) (l : List β) : runS ι (dt d ++ r) l = runS ι r (l.drop d.toNat) := by
  unfold dt
  split
  · rename_i c; subst c; simp
  · rw [List.singleton_append, runS_cons, (ot_drop ι (p := dropP d) rfl l).1, (ot_drop ι (p := dropP d) rfl l).2]; rfl
theorem close_run : ∀ (D : List Bool) (P : List (List Int)) (ahead : List Int) (drops : Int) (l : List β), scP P → (∀ x ∈ ahead, scalar x) → 0 ≤ drops → P.length = D.length + 1 →
    (runS ι (closeP P D ahead drops) l).1 = ahead.map ι ++ runW ι P D (l.drop drops.toNat)
  | [], h :: P, ahead, drops, l, hs, ha, hd, hl => by
    have hx : ∀ x ∈ ahead ++ h, scalar x := by intro x hx; rcases List.mem_append.1 hx with hx | hx; exact ha x hx; exact hs h (.head _) x hx
    rw [closeP, ← List.append_nil (dt drops), List.headD_cons, pt_run ι hx, dt_run ι hd]
    simp [runS, runW]
  | true :: D, h :: P, ahead, drops, l, hs, ha, hd, hl => by
    have hx : ∀ x ∈ ahead ++ h, scalar x := by intro x hx; rcases List.mem_append.1 hx with hx | hx; exact ha x hx; exact hs h (.head _) x hx
    rw [closeP]
    simp only [List.headD_cons, List.tail_cons]
    rw [close_run D P (ahead ++ h) (drops + 1) l hs.tail hx (by omega) (by simpa using hl)]
    simp only [runW, List.headD_cons, List.tail_cons, if_true, List.nil_append, List.map_append, List.append_assoc, List.drop_drop]
    rw [show (drops + 1).toNat = drops.toNat + 1 by omega]
  | false :: D, h :: P, ahead, drops, l, hs, ha, hd, hl => by
    have hx : ∀ x ∈ ahead ++ h, scalar x := by intro x hx; rcases List.mem_append.1 hx with hx | hx; exact ha x hx; exact hs h (.head _) x hx
    rw [closeP]
    simp only [List.headD_cons, List.tail_cons]
    rw [pt_run ι hx, dt_run ι hd, runS_cons, (ot_keep ι (p := keepP 1) rfl _).1, (ot_keep ι (p := keepP 1) rfl _).2]
    simp only [show (keepP 1).n.toNat = 1 from rfl]
    rw [close_run D P [] 0 _ hs.tail (by intro x hx; cases hx) (by omega) (by simpa using hl)]
    simp only [runW, List.headD_cons, List.tail_cons, Bool.false_eq_true, if_false, List.map_append, List.append_assoc, List.drop_drop, List.map_nil, List.nil_append, Int.toNat_zero, List.drop_zero]
end
/-- What is spread out, closed: known by what it does. -/
theorem close_law {P : List (List Int)} {D : List Bool} (hs : scP P) (hl : P.length = D.length + 1) (hn : D.length ≤ 1099511627776) (ht : (runW (fun _ => ()) P D (List.replicate D.length ())).length ≤ 1099511627776) :
    Ok (closeF P D) ∧ fromS (closeF P D) = D.length ∧ ∀ {β : Type} (ι : Int → β) (l : List β), (runS ι (closeF P D) l).1 = runW ι P D l := by
  have e : closeF P D = (addRs [] (closeP P D [] 0)).reverse := by
    unfold closeF; rw [close_add D P [] 0 [] hs (fun x hx => by cases hx) (by omega) (fun q hq => by cases hq) hl]
  obtain ⟨f1, f2⟩ := close_fit D P [] 0 hs (fun x hx => by cases hx) (by omega) hl
  obtain ⟨m1, m2, m3⟩ := addRs_mk _ [] MK.nil f1
  have hr : ∀ {β : Type} (ι : Int → β) (l : List β), (runS ι (closeF P D) l).1 = runW ι P D l := fun ι l => by
    rw [e, maker_run ι f1 l, close_run ι D P [] 0 l hs (fun x hx => by cases hx) (by omega) hl]; simp
  have ff : fromS (addRs [] (closeP P D [] 0)) = D.length := by rw [m2, f2]; simp only [fromS]; omega
  have hf : fromS (closeF P D) = D.length := by rw [e, (fromS_rev _).1, ff]
  have hu : FitsU (closeF P D) := by rw [e]; exact fun q hq => m1.fit q (List.mem_reverse.1 hq)
  have h1 := (runS_len (fun _ => ()) (closeF P D) (List.replicate D.length ()) hu (by rw [hf, List.length_replicate]; omega)).1
  rw [hr] at h1
  refine ⟨?_, hf, hr⟩
  rw [e]
  exact m1.ok (by rw [ff]; omega) (by rw [← (fromS_rev _).2, ← e]; omega)
theorem close_is {P : List (List Int)} {D : List Bool} {e : List Part} (oe : Ok e) (hs : scP P) (hl : P.length = D.length + 1) (hn : fromS e = D.length)
    (h : ∀ {β : Type} (ι : Int → β) (l : List β), (l.length : Int) = fromS e → runW ι P D l = (runS ι e l).1) : closeF P D = e := by
  have hb := oe.2.2
  have ht := (runS_len (fun _ => ()) e (List.replicate D.length ()) oe.1 (by rw [hn, List.length_replicate]; omega)).1
  rw [← h (fun _ => ()) _ (by rw [hn, List.length_replicate])] at ht
  obtain ⟨o, f, r⟩ := close_law hs hl (by omega) (by omega)
  exact form_unique o oe (by omega) fun l hl' => by rw [r, h Sum.inr l (by omega)]
end Go.SK

set_option linter.unusedVariables false
set_option linter.unusedSimpArgs false
set_option maxRecDepth 100000
namespace Go.SK
open Go
/-! ### Composition -/
/-- A text taken through a spread edit: what comes of it, and what is left of the edit. -/
def wv : List Int → List (List Int) → List Bool → List Int × List (List Int) × List Bool
  | [], P, D => ([], P, D)
  | c :: t, P, D => (P.headD [] ++ ((if D.headD false then [] else [c]) ++ (wv t P.tail D.tail).1), (wv t P.tail D.tail).2)
def cz : List (List Int) → List Bool → List (List Int) → List Bool → List (List Int) × List Bool
  | P, [], yP, yD => ([(wv (P.headD []) yP yD).1 ++ (wv (P.headD []) yP yD).2.1.headD []], [])
  | P, true :: D, yP, yD => ((wv (P.headD []) yP yD).1 :: (cz P.tail D (wv (P.headD []) yP yD).2.1 (wv (P.headD []) yP yD).2.2).1, true :: (cz P.tail D (wv (P.headD []) yP yD).2.1 (wv (P.headD []) yP yD).2.2).2)
  | P, false :: D, yP, yD => (((wv (P.headD []) yP yD).1 ++ (wv (P.headD []) yP yD).2.1.headD []) :: (cz P.tail D (wv (P.headD []) yP yD).2.1.tail (wv (P.headD []) yP yD).2.2.tail).1, (wv (P.headD []) yP yD).2.2.headD false :: (cz P.tail D (wv (P.headD []) yP yD).2.1.tail (wv (P.headD []) yP yD).2.2.tail).2)
/-- How many code points a spread edit makes. -/
def madeN : List (List Int) → List Bool → Nat
  | P, [] => (P.headD []).length
  | P, d :: D => (P.headD []).length + ((if d then 0 else 1) + madeN P.tail D)
theorem wv_left : ∀ (t : List Int) (P : List (List Int)) (D : List Bool), (wv t P D).2 = (P.drop t.length, D.drop t.length)
  | [], P, D => rfl
  | c :: t, P, D => by
    rw [wv]
    show (wv t P.tail D.tail).2 = _
    rw [wv_left t P.tail D.tail, List.length_cons]
    simp
section
variable {β : Type} (ι : Int → β)
theorem wv_run : ∀ (t : List Int) (P : List (List Int)) (D : List Bool) (m : List β), t.length ≤ D.length → runW ι P D (t.map ι ++ m) = (wv t P D).1.map ι ++ runW ι (P.drop t.length) (D.drop t.length) m
  | [], P, D, m, _ => by simp [wv]
  | c :: t, P, [], m, h => by simp at h
  | c :: t, P, d :: D, m, h => by
    simp only [List.map_cons, List.cons_append, runW, wv, List.headD_cons, List.tail_cons, List.length_cons, List.drop_succ_cons, List.take_succ_cons, List.take_zero, List.drop_zero]
    rw [wv_run t P.tail D m (by simpa using h)]
    cases d <;> simp [List.append_assoc]
theorem cz_run : ∀ (D : List Bool) (P : List (List Int)) (yP : List (List Int)) (yD : List Bool) (l : List β), P.length = D.length + 1 → madeN P D = yD.length → l.length = D.length →
    runW ι (cz P D yP yD).1 (cz P D yP yD).2 l = runW ι yP yD (runW ι P D l)
  | [], h :: P, yP, yD, l, hl, hm, hn => by
    simp only [madeN, List.headD_cons] at hm
    have := wv_run ι h yP yD [] (by omega)
    rw [List.append_nil] at this
    simp only [cz, runW, List.headD_cons, wv_left]
    rw [this, List.drop_eq_nil_of_le (as := yD) (by omega)]
    simp [runW]
  | true :: D, h :: P, yP, yD, l, hl, hm, hn => by
    simp only [madeN, List.headD_cons, if_true, List.tail_cons] at hm
    simp only [cz, List.headD_cons, List.tail_cons, wv_left]
    rw [runW, runW]
    simp only [List.headD_cons, List.tail_cons, if_true, List.nil_append]
    rw [wv_run ι h yP yD _ (by omega), cz_run D P _ _ (l.drop 1) (by simpa using hl) (by rw [List.length_drop]; omega) (by rw [List.length_drop, hn]; simp)]
  | false :: D, h :: P, yP, yD, l, hl, hm, hn => by
    simp only [madeN, List.headD_cons, Bool.false_eq_true, if_false, List.tail_cons] at hm
    simp only [cz, List.headD_cons, List.tail_cons, wv_left]
    rw [runW, runW]
    simp only [List.headD_cons, List.tail_cons, Bool.false_eq_true, if_false]
    rw [wv_run ι h yP yD _ (by omega)]
    obtain ⟨x, l, rfl⟩ : ∃ x l', l = x :: l' := by cases l with | nil => simp at hn | cons x l => exact ⟨x, l, rfl⟩
    have hd : (yD.drop h.length) ≠ [] := by intro e; have := congrArg List.length e; rw [List.length_drop, List.length_nil] at this; omega
    obtain ⟨d, D', hd'⟩ := List.exists_cons_of_ne_nil hd
    rw [hd']
    simp only [List.headD_cons, List.tail_cons, List.take_succ_cons, List.take_zero, List.drop_succ_cons, List.drop_zero, List.singleton_append]
    have hD : yD.length = h.length + 1 + D'.length := by have := congrArg List.length hd'; rw [List.length_drop, List.length_cons] at this; omega
    rw [cz_run D P _ D' l (by simpa using hl) (by omega) (by simpa using hn)]
    rw [runW]
    cases d <;> simp [List.append_assoc]
end
theorem cz_len : ∀ (D : List Bool) (P : List (List Int)) (yP : List (List Int)) (yD : List Bool), (cz P D yP yD).1.length = D.length + 1 ∧ (cz P D yP yD).2.length = D.length
  | [], P, yP, yD => ⟨rfl, rfl⟩
  | true :: D, P, yP, yD => by have := cz_len D P.tail (wv (P.headD []) yP yD).2.1 (wv (P.headD []) yP yD).2.2; simp only [cz, List.length_cons]; omega
  | false :: D, P, yP, yD => by have := cz_len D P.tail (wv (P.headD []) yP yD).2.1.tail (wv (P.headD []) yP yD).2.2.tail; simp only [cz, List.length_cons]; omega
theorem sc_headD {P : List (List Int)} (h : scP P) : ∀ x ∈ P.headD [], scalar x := by
  cases P with
  | nil => intro x hx; cases hx
  | cons a r => exact h a (.head _)
theorem sc_tail {P : List (List Int)} (h : scP P) : scP P.tail := by
  cases P with
  | nil => exact h
  | cons a r => exact h.tail
theorem sc_drop {P : List (List Int)} (h : scP P) (n : Nat) : scP (P.drop n) := fun t ht => h t (List.mem_of_mem_drop ht)
theorem wv_sc : ∀ (t : List Int) (P : List (List Int)) (D : List Bool), (∀ x ∈ t, scalar x) → scP P → ∀ x ∈ (wv t P D).1, scalar x
  | [], P, D, _, _ => by simp [wv]
  | c :: t, P, D, ht, hp => by
    intro x hx
    rw [wv] at hx
    rcases List.mem_append.1 hx with hx | hx
    · exact sc_headD hp x hx
    · rcases List.mem_append.1 hx with hx | hx
      · split at hx
        · cases hx
        · rw [List.mem_singleton.1 hx]; exact ht c (.head _)
      · exact wv_sc t _ _ (fun y hy => ht y (.tail _ hy)) (sc_tail hp) x hx
theorem cz_sc : ∀ (D : List Bool) (P : List (List Int)) (yP : List (List Int)) (yD : List Bool), scP P → scP yP → scP (cz P D yP yD).1
  | [], P, yP, yD, h1, h2 => by
    intro t ht x hx
    simp only [cz, wv_left] at ht
    rw [List.mem_singleton.1 ht] at hx
    rcases List.mem_append.1 hx with hx | hx
    · exact wv_sc _ _ _ (sc_headD h1) h2 x hx
    · exact sc_headD (sc_drop h2 _) x hx
  | true :: D, P, yP, yD, h1, h2 => by
    intro t ht
    simp only [cz, wv_left] at ht
    rcases List.mem_cons.1 ht with rfl | ht
    · exact wv_sc _ _ _ (sc_headD h1) h2
    · exact cz_sc D _ _ _ (sc_tail h1) (sc_drop h2 _) t ht
  | false :: D, P, yP, yD, h1, h2 => by
    intro t ht
    simp only [cz, wv_left] at ht
    rcases List.mem_cons.1 ht with rfl | ht
    · intro x hx
      rcases List.mem_append.1 hx with hx | hx
      · exact wv_sc _ _ _ (sc_headD h1) h2 x hx
      · exact sc_headD (sc_drop h2 _) x hx
    · exact cz_sc D _ _ _ (sc_tail h1) (sc_tail (sc_drop h2 _)) t ht
theorem madeN_addH (t : List Int) {P : List (List Int)} (h : 0 < P.length) (D : List Bool) : madeN (addH t P) D = t.length + madeN P D := by
  cases P with
  | nil => simp at h
  | cons a r => cases D <;> simp [madeN, addH, Nat.add_assoc]
theorem madeN_rep (b : Bool) (n : Nat) (P : List (List Int)) (D : List Bool) : madeN (List.replicate n [] ++ P) (List.replicate n b ++ D) = (if b then 0 else n) + madeN P D := by
  induction n with
  | zero => simp
  | succ n ih => simp only [List.replicate_succ, List.cons_append, madeN, List.headD_cons, List.length_nil, List.tail_cons, ih]; cases b <;> simp <;> omega
theorem madeN_sp : ∀ {e : List Part}, FitsU e → (madeN (spP e) (dv e) : Int) = toS e
  | [], _ => rfl
  | p :: r, h => by
    have ih := madeN_sp h.tail
    have hl := spP_len h.tail
    have h1 := (h p (.head _)).1
    rw [spP, dv]; simp only [toS]
    rcases (h p (.head _)).2 with ⟨k, _⟩ | ⟨k, _⟩ | ⟨k, _, k2⟩
    · rw [if_neg (by omega), show dvP p = List.replicate p.n.toNat false from if_pos k, madeN_rep, if_neg (show ¬ false = true by simp), if_neg (by omega)]; omega
    · rw [if_neg (by omega), show dvP p = List.replicate p.n.toNat true by unfold dvP; rw [if_neg (by omega), if_pos k], madeN_rep, if_pos rfl, if_pos k]; omega
    · rw [if_pos k, show dvP p = [] by unfold dvP; rw [if_neg (by omega), if_neg (by omega)], List.nil_append, madeN_addH _ (by omega), if_neg (by omega)]; omega
theorem cz_law {a b : List Part} (oa : Ok a) (ob : Ok b) (e : toS a = fromS b) : closeF (cz (spP a) (dv a) (spP b) (dv b)).1 (cz (spP a) (dv a) (spP b) (dv b)).2 = compF a b := by
  obtain ⟨c1, c2, c3, c4, c5⟩ := comp_law oa ob e
  have hl := cz_len (dv a) (spP a) (spP b) (dv b)
  have da := dv_len oa.1
  have db := dv_len ob.1
  have hp := fromS_posU oa.1
  refine close_is c2 (cz_sc _ _ _ _ (spP_sc oa.1) (spP_sc ob.1)) (by omega) (by omega) fun ι l hn => ?_
  rw [c5 ι l (by omega), cz_run ι (dv a) (spP a) (spP b) (dv b) l (by have := spP_len oa.1; omega) (by have := madeN_sp oa.1; omega) (by omega), spread_run ι a l oa.1, spread_run ι b _ ob.1]
/-! ### Inverse -/
def psh (k : Nat) (cur : List Int) : List (List Int) := if k = 0 then [] else cur :: List.replicate (k - 1) []
def cur' (k : Nat) (cur : List Int) : List Int := if k = 0 then cur else []
def iv : List (List Int) → List Bool → List Int → List Int → List (List Int) × List Bool
  | P, [], l, cur => (cur :: List.replicate (P.headD []).length [], List.replicate (P.headD []).length true)
  | P, true :: D, l, cur => (psh (P.headD []).length cur ++ (iv P.tail D (l.drop 1) (cur' (P.headD []).length cur ++ l.take 1)).1, List.replicate (P.headD []).length true ++ (iv P.tail D (l.drop 1) (cur' (P.headD []).length cur ++ l.take 1)).2)
  | P, false :: D, l, cur => (psh (P.headD []).length cur ++ (cur' (P.headD []).length cur :: (iv P.tail D (l.drop 1) []).1), List.replicate (P.headD []).length true ++ (false :: (iv P.tail D (l.drop 1) []).2))
def ivF (P : List (List Int)) (D : List Bool) (l : List Int) : List (List Int) × List Bool := iv P D l []
theorem iv_len : ∀ (D : List Bool) (P : List (List Int)) (l cur : List Int), (iv P D l cur).1.length = (iv P D l cur).2.length + 1
  | [], P, l, cur => by simp [iv]
  | true :: D, P, l, cur => by
    have := iv_len D P.tail (l.drop 1) (cur' (P.headD []).length cur ++ l.take 1)
    simp only [iv, psh, List.length_append, List.length_replicate]
    split <;> simp only [List.length_cons, List.length_nil, List.length_replicate] <;> omega
  | false :: D, P, l, cur => by
    have := iv_len D P.tail (l.drop 1) []
    simp only [iv, psh, List.length_append, List.length_replicate, List.length_cons]
    split <;> simp only [List.length_cons, List.length_nil, List.length_replicate] <;> omega
theorem iv_D : ∀ (D : List Bool) (P : List (List Int)) (l cur : List Int), (iv P D l cur).2.length = madeN P D
  | [], P, l, cur => by simp [iv, madeN]
  | true :: D, P, l, cur => by simp only [iv, madeN, List.length_append, List.length_replicate, iv_D D, if_true]; omega
  | false :: D, P, l, cur => by simp only [iv, madeN, List.length_append, List.length_replicate, List.length_cons, iv_D D, Bool.false_eq_true, if_false]; omega
theorem iv_sc : ∀ (D : List Bool) (P : List (List Int)) (l cur : List Int), (∀ x ∈ l, scalar x) → (∀ x ∈ cur, scalar x) → scP (iv P D l cur).1
  | [], P, l, cur, hl, hc => by
    intro t ht
    simp only [iv] at ht
    rcases List.mem_cons.1 ht with rfl | ht
    · exact hc
    · rw [(List.mem_replicate.1 ht).2]; intro x hx; cases hx
  | d :: D, P, l, cur, hl, hc => by
    have hps : ∀ t ∈ psh (P.headD []).length cur, ∀ x ∈ t, scalar x := by
      intro t ht
      unfold psh at ht
      split at ht
      · cases ht
      · rcases List.mem_cons.1 ht with rfl | ht
        · exact hc
        · rw [(List.mem_replicate.1 ht).2]; intro x hx; cases hx
    have hcc : ∀ x ∈ cur' (P.headD []).length cur, scalar x := by
      unfold cur'; split
      · exact hc
      · intro x hx; cases hx
    have hld : ∀ x ∈ l.drop 1, scalar x := fun x hx => hl x (List.mem_of_mem_drop hx)
    have hlt : ∀ x ∈ l.take 1, scalar x := fun x hx => hl x (List.mem_of_mem_take hx)
    cases d with
    | true =>
      intro t ht
      simp only [iv] at ht
      rcases List.mem_append.1 ht with ht | ht
      · exact hps t ht
      · exact iv_sc D _ _ _ hld (fun x hx => (List.mem_append.1 hx).elim (hcc x) (hlt x)) t ht
    | false =>
      intro t ht
      simp only [iv] at ht
      rcases List.mem_append.1 ht with ht | ht
      · exact hps t ht
      · rcases List.mem_cons.1 ht with rfl | ht
        · exact hcc
        · exact iv_sc D _ _ _ hld (fun x hx => by cases hx) t ht
section
variable {β : Type} (ι : Int → β)
theorem psh_run (k : Nat) (cur : List Int) (P : List (List Int)) (D : List Bool) (m : List β) : runW ι (psh k cur ++ addH (cur' k cur) P) (List.replicate k true ++ D) m = cur.map ι ++ runW ι (addH [] P) D (m.drop k) := by
  unfold psh cur'
  cases k with
  | zero => cases P <;> cases D <;> simp [addH, runW]
  | succ k =>
    rw [if_neg (by omega), if_neg (by omega)]
    simp only [List.replicate_succ, List.cons_append, runW, List.headD_cons, if_true, List.nil_append, List.tail_cons, Nat.add_sub_cancel]
    rw [runW_drop, List.drop_drop, Nat.add_comm]
theorem iv_addH : ∀ (D : List Bool) (P : List (List Int)) (l cur : List Int), ∃ Q, (iv P D l cur).1 = addH cur Q ∧ (iv P D l []).1 = addH [] Q ∧ (iv P D l cur).2 = (iv P D l []).2
  | [], P, l, cur => ⟨[] :: List.replicate (P.headD []).length [], by simp [iv, addH], by simp [iv, addH], rfl⟩
  | true :: D, P, l, cur => by
    by_cases k : (P.headD []).length = 0
    · obtain ⟨Q, h1, h2, h3⟩ := iv_addH D P.tail (l.drop 1) (cur ++ l.take 1)
      obtain ⟨Q', g1, g2, g3⟩ := iv_addH D P.tail (l.drop 1) (l.take 1)
      have hq : addH [] Q = addH [] Q' := by rw [← h2, ← g2]
      refine ⟨addH (l.take 1) Q, ?_, ?_, ?_⟩
      · simp only [iv, psh, cur', k, if_true, List.nil_append, h1]
        cases Q <;> simp [addH, List.append_assoc]
      · simp only [iv, psh, cur', k, if_true, List.nil_append, g1]
        cases Q <;> cases Q' <;> simp_all [addH]
      · simp only [iv, psh, cur', k, if_true, List.nil_append, h3, g3]
    · refine ⟨[] :: (List.replicate ((P.headD []).length - 1) [] ++ (iv P.tail D (l.drop 1) (l.take 1)).1), ?_, ?_, ?_⟩
      · simp only [iv, psh, cur', if_neg k, addH, List.append_nil, List.nil_append, List.cons_append]
      · simp only [iv, psh, cur', if_neg k, addH, List.append_nil, List.nil_append, List.cons_append]
      · simp only [iv, psh, cur', if_neg k]
  | false :: D, P, l, cur => by
    by_cases k : (P.headD []).length = 0
    · exact ⟨[] :: (iv P.tail D (l.drop 1) []).1, by simp only [iv, psh, cur', k, if_true, List.nil_append, addH, List.append_nil], by simp only [iv, psh, cur', k, if_true, List.nil_append, addH], by simp only [iv]⟩
    · refine ⟨[] :: (List.replicate ((P.headD []).length - 1) [] ++ ([] :: (iv P.tail D (l.drop 1) []).1)), ?_, ?_, ?_⟩
      · simp only [iv, psh, cur', if_neg k, addH, List.append_nil, List.nil_append, List.cons_append]
      · simp only [iv, psh, cur', if_neg k, addH, List.append_nil, List.nil_append, List.cons_append]
      · simp only [iv]
theorem iv_cur (D : List Bool) (P : List (List Int)) (l cur : List Int) (m : List β) : runW ι (iv P D l cur).1 (iv P D l cur).2 m = cur.map ι ++ runW ι (iv P D l []).1 (iv P D l []).2 m := by
  obtain ⟨Q, h1, h2, h3⟩ := iv_addH D P l cur
  rw [h1, h2, h3]
  cases Q <;> generalize (iv P D l []).2 = D' <;> cases D' <;> simp [addH, runW, List.append_assoc]
/-- One step of the inverse: so many dropped, then what stood there put back or kept. -/
theorem iv_step (d : Bool) (D : List Bool) (P : List (List Int)) (l : List Int) (m : List β) : runW ι (iv P (d :: D) l []).1 (iv P (d :: D) l []).2 m =
    (if d then (l.take 1).map ι ++ runW ι (iv P.tail D (l.drop 1) []).1 (iv P.tail D (l.drop 1) []).2 (m.drop (P.headD []).length) else (m.drop (P.headD []).length).take 1 ++ runW ι (iv P.tail D (l.drop 1) []).1 (iv P.tail D (l.drop 1) []).2 ((m.drop (P.headD []).length).drop 1)) := by
  have hc : cur' (P.headD []).length [] = [] := by unfold cur'; split <;> rfl
  cases d with
  | true =>
    simp only [iv, hc, List.nil_append, if_true]
    obtain ⟨Q, h1, h2, h3⟩ := iv_addH D P.tail (l.drop 1) (l.take 1)
    have hp := psh_run ι (P.headD []).length [] (addH (l.take 1) Q) (iv P.tail D (l.drop 1) (l.take 1)).2 m
    rw [hc] at hp
    have ha : addH [] (addH (l.take 1) Q) = addH (l.take 1) Q := by cases Q <;> simp [addH]
    rw [ha, ← h1] at hp
    rw [hp, iv_cur]; simp
  | false =>
    simp only [iv, hc, Bool.false_eq_true, if_false]
    have hp := psh_run ι (P.headD []).length [] ([] :: (iv P.tail D (l.drop 1) []).1) (false :: (iv P.tail D (l.drop 1) []).2) m
    rw [hc] at hp
    simp only [addH, List.append_nil, List.map_nil, List.nil_append] at hp
    rw [hp, runW]
    simp
theorem iv_put (t : List Int) {P : List (List Int)} (h : 0 < P.length) (D : List Bool) (l : List Int) (m : List β) : runW ι (iv (addH t P) D l []).1 (iv (addH t P) D l []).2 m = runW ι (iv P D l []).1 (iv P D l []).2 (m.drop t.length) := by
  obtain ⟨a, r, rfl⟩ : ∃ a r, P = a :: r := by cases P with | nil => simp at h | cons a r => exact ⟨a, r, rfl⟩
  cases D with
  | nil =>
    simp only [iv, addH, List.headD_cons]
    have h1 : ∀ (k : Nat) (m : List β), runW ι ([] :: List.replicate k []) (List.replicate k true) m = [] := by
      intro k
      induction k with
      | zero => intro m; rfl
      | succ k ih => intro m; simp only [List.replicate_succ, runW, List.headD_cons, List.map_nil, if_true, List.nil_append, List.tail_cons]; exact ih _
    rw [h1, h1]
  | cons d D =>
    rw [iv_step, iv_step]
    simp only [addH, List.headD_cons, List.tail_cons, List.length_append, List.drop_drop]
theorem iv_keep (n : Nat) (P : List (List Int)) (D : List Bool) : ∀ (l : List Int) (m : List β), runW ι (iv (List.replicate n [] ++ P) (List.replicate n false ++ D) l []).1 (iv (List.replicate n [] ++ P) (List.replicate n false ++ D) l []).2 m = m.take n ++ runW ι (iv P D (l.drop n) []).1 (iv P D (l.drop n) []).2 (m.drop n) := by
  induction n with
  | zero => intro l m; simp
  | succ n ih =>
    intro l m
    simp only [List.replicate_succ, List.cons_append]
    rw [iv_step]
    simp only [List.headD_cons, List.length_nil, List.drop_zero, Bool.false_eq_true, if_false, List.tail_cons, ih, List.drop_drop]
    rw [← List.append_assoc]
    congr 1
    · cases m <;> simp [List.take_succ_cons]
    · rw [Nat.add_comm]
theorem iv_drop (n : Nat) (P : List (List Int)) (D : List Bool) : ∀ (l : List Int) (m : List β), runW ι (iv (List.replicate n [] ++ P) (List.replicate n true ++ D) l []).1 (iv (List.replicate n [] ++ P) (List.replicate n true ++ D) l []).2 m = (l.take n).map ι ++ runW ι (iv P D (l.drop n) []).1 (iv P D (l.drop n) []).2 m := by
  induction n with
  | zero => intro l m; simp
  | succ n ih =>
    intro l m
    simp only [List.replicate_succ, List.cons_append]
    rw [iv_step]
    simp only [List.headD_cons, List.length_nil, List.drop_zero, if_true, List.tail_cons, ih, List.drop_drop]
    rw [← List.append_assoc, ← List.map_append, Nat.add_comm 1 n]
    congr 2
    cases l <;> simp [List.take_succ_cons]
theorem iv_run : ∀ (e : List Part) (l : List Int) (m : List β), Fits e → fromS e = l.length → (∀ x ∈ l, scalar x) → runW ι (iv (spP e) (dv e) l []).1 (iv (spP e) (dv e) l []).2 m = (runS ι (invGo e l) m).1
  | [], l, m, _, _, _ => by simp [spP, dv, iv, invGo, runS, runW]
  | p :: r, l, m, h, hn, hs => by
    have hu := fitsU_of h
    have hl := spP_len hu.tail
    have h1 := (hu p (.head _)).1
    have hr := fromS_posU hu.tail
    simp only [fromS] at hn
    rw [spP, dv, invGo]
    rcases (hu p (.head _)).2 with ⟨k, _⟩ | ⟨k, _⟩ | ⟨k, _, k2⟩
    · rw [if_neg (by omega), show dvP p = List.replicate p.n.toNat false from if_pos k, iv_keep, if_pos k, runS_cons, (ot_keep ι k m).1, (ot_keep ι k m).2]
      rw [if_neg (by omega)] at hn
      rw [iv_run r (l.drop p.n.toNat) _ h.tail (by rw [List.length_drop]; omega) (fun x hx => hs x (List.mem_of_mem_drop hx))]
    · rw [if_neg (by omega), show dvP p = List.replicate p.n.toNat true by unfold dvP; rw [if_neg (by omega), if_pos k], iv_drop, if_neg (by omega), if_pos k, runS_cons, (ot_put ι (p := putP _) rfl m).1, (ot_put ι (p := putP _) rfl m).2]
      rw [if_neg (by omega)] at hn
      rw [iv_run r (l.drop p.n.toNat) _ h.tail (by rw [List.length_drop]; omega) (fun x hx => hs x (List.mem_of_mem_drop hx))]
      rw [show dec (putP (enc (l.take p.n.toNat))).text = l.take p.n.toNat from dec_enc (fun x hx => hs x (List.mem_of_mem_take hx))]
    · rw [if_pos k, show dvP p = [] by unfold dvP; rw [if_neg (by omega), if_neg (by omega)], List.nil_append, iv_put ι _ (by omega), if_neg (by omega), if_neg (by omega), runS_cons, (ot_drop ι (p := dropP p.n) rfl m).1, (ot_drop ι (p := dropP p.n) rfl m).2]
      rw [if_pos k] at hn
      rw [iv_run r l _ h.tail (by omega) hs, show (dropP p.n).n.toNat = (dec p.text).length by show p.n.toNat = _; omega]; rfl
end
theorem iv_law {e : List Part} {s : ByteArray} (hv : valid s = true) (oe : Ok e) (hn : fromS e = (dec s).length) : closeF (iv (spP e) (dv e) (dec s) []).1 (iv (spP e) (dv e) (dec s) []).2 = invF e s := by
  obtain ⟨b1, b2, b3, b4, _⟩ := inv_law hv oe hn
  obtain ⟨_, _, b7⟩ := invE_z b1
  have hs := dec_scalar hv
  obtain ⟨f1, f2, f3, _⟩ := inv_run e (dec s) oe.fits hn hs
  have hD := iv_D (dv e) (spP e) (dec s) []
  have hm := madeN_sp oe.1
  refine close_is b2 (iv_sc _ _ _ _ hs (fun x hx => by cases hx)) (iv_len _ _ _ _) (by omega) fun ι l hl => ?_
  rw [iv_run ι e (dec s) l oe.fits hn hs, b7]
  unfold invR
  rw [maker_run ι f1 l]
/-! ### Cursors -/
def curW : List (List Int) → List Bool → Nat → Bool → Int
  | P, _, 0, ah => if ah then (P.headD []).length else 0
  | P, [], _, ah => (P.headD []).length
  | P, d :: D, i + 1, ah => (P.headD []).length + ((if d then 0 else 1) + curW P.tail D i ah)
theorem curW_addH (t : List Int) {P : List (List Int)} (h : 0 < P.length) (D : List Bool) (i : Nat) (ah : Bool) : curW (addH t P) D i ah = (if 0 < i ∨ ah = true then (t.length : Int) else 0) + curW P D i ah := by
  obtain ⟨a, r, rfl⟩ : ∃ a r, P = a :: r := by cases P with | nil => simp at h | cons a r => exact ⟨a, r, rfl⟩
  cases i with
  | zero => cases ah <;> simp [curW, addH]
  | succ i => cases D <;> simp [curW, addH] <;> omega
theorem curW_rep (b : Bool) (n : Nat) (P : List (List Int)) (D : List Bool) : ∀ (i : Nat) (ah : Bool), curW (List.replicate n [] ++ P) (List.replicate n b ++ D) i ah = if i < n then (if b then 0 else (i : Int)) else (if b then 0 else (n : Int)) + curW P D (i - n) ah := by
  induction n with
  | zero => intro i ah; simp
  | succ n ih =>
    intro i ah
    simp only [List.replicate_succ, List.cons_append]
    cases i with
    | zero => rw [if_pos (by omega)]; cases ah <;> cases b <;> simp [curW]
    | succ i =>
      simp only [curW, List.headD_cons, List.length_nil, List.tail_cons, Nat.add_sub_add_right]
      rw [ih]
      by_cases c : i < n
      · simp only [if_pos c, if_pos (show i + 1 < n + 1 by omega)]; cases b <;> simp <;> omega
      · simp only [if_neg c, if_neg (show ¬ i + 1 < n + 1 by omega)]; cases b <;> simp <;> omega
theorem curW_go : ∀ (e : List Part) (i : Nat) (ah : Bool), FitsU e → (i : Int) ≤ fromS e → curW (spP e) (dv e) i ah = curGo e i ah 0
  | [], i, ah, _, hi => by
    simp only [fromS] at hi
    obtain rfl : i = 0 := by omega
    cases ah <;> simp [spP, dv, curW, curGo]
  | p :: r, i, ah, h, hi => by
    have hl := spP_len h.tail
    have h1 := (h p (.head _)).1
    have hr := fromS_posU h.tail
    simp only [fromS] at hi
    rw [spP, dv]
    rcases (h p (.head _)).2 with ⟨k, _⟩ | ⟨k, _⟩ | ⟨k, _, k2⟩
    · rw [if_neg (by omega)] at hi
      have nc : ¬ (p.kind = 2 ∧ (0 < (i : Int) ∨ ah = true)) := fun w => by omega
      rw [if_neg (by omega), show dvP p = List.replicate p.n.toNat false from if_pos k, curW_rep]
      simp only [Bool.false_eq_true, if_false]
      by_cases z : i = 0
      · rw [cur_zero nc (by omega), if_pos (by omega)]; omega
      · by_cases l : i < p.n.toNat
        · rw [if_pos l, cur_part nc (by omega) (by omega), if_pos k]; omega
        · rw [if_neg l, cur_next nc (by omega) (by omega), if_pos k, curW_go r _ ah h.tail (by omega), cur_shift r _ ah (0 + p.n), show ((i - p.n.toNat : Nat) : Int) = i - p.n by omega]; omega
    · rw [if_neg (by omega)] at hi
      have nc : ¬ (p.kind = 2 ∧ (0 < (i : Int) ∨ ah = true)) := fun w => by omega
      rw [if_neg (by omega), show dvP p = List.replicate p.n.toNat true by unfold dvP; rw [if_neg (by omega), if_pos k], curW_rep]
      simp only [if_true]
      by_cases z : i = 0
      · rw [cur_zero nc (by omega), if_pos (by omega)]
      · by_cases l : i < p.n.toNat
        · rw [if_pos l, cur_part nc (by omega) (by omega), if_neg (by omega)]
        · rw [if_neg l, cur_next nc (by omega) (by omega), if_neg (by omega), curW_go r _ ah h.tail (by omega), show ((i - p.n.toNat : Nat) : Int) = i - p.n by omega]; omega
    · rw [if_pos k] at hi
      rw [if_pos k, show dvP p = [] by unfold dvP; rw [if_neg (by omega), if_neg (by omega)], List.nil_append, curW_addH _ (by omega), curW_go r i ah h.tail (by omega)]
      by_cases c : 0 < (i : Int) ∨ ah = true
      · rw [if_pos (c.imp (fun w => by omega) id), cur_put ⟨k, c⟩, cur_shift r _ ah (0 + p.n)]; omega
      · have hi0 : i = 0 := by omega
        have ha : ah = false := by cases ah; rfl; exact absurd (.inr rfl) c
        rw [if_neg (fun w => c (w.imp (fun w => by omega) id)), cur_zero (fun w => c w.2) (by omega), hi0, ha]
        have := cur_zeroF r h.tail
        simp only [Int.natCast_zero] at *
        omega
end Go.SK

set_option linter.unusedVariables false
set_option linter.unusedSimpArgs false
set_option maxRecDepth 100000
namespace Go.SK
open Go Go.RowKit
abbrev sv (t : List Int) : Value := .string (enc t)
abbrev bv (b : Bool) : Value := .bool b
abbrev chv (c : Int) : Value := .string (enc [c])
theorem lkM {α : Type} {f : α → Value} {l : List α} {i k : Nat} {d x : α} (h : i < l.length) (hx : l.getD i d = x) (hk : k = i) : (l.map f)[k]? = some (f x) := by
  subst hk
  rw [List.getElem?_map, List.getElem?_eq_getElem h, ← hx, List.getD_eq_getElem?_getD, List.getElem?_eq_getElem h]; rfl
theorem stM {α : Type} {f : α → Value} {l : List α} {i k : Nat} {y : α} (h : i < l.length) (hk : k = i) : (l.map f).take k ++ [f y] ++ (l.map f).drop (k + 1) = (l.set i y).map f := by
  subst hk
  rw [List.set_eq_take_append_cons_drop, if_pos h]
  simp [List.map_take, List.map_drop]
theorem row_lenM {α : Type} {f : α → Value} {S : Nat → Prop} {w0 : World} {L : List Res} {v : Value} {e m : Nat} {ns : List α} {w : World} (h : Hp S w0 w (.row v e 1 m (ns.map f) :: L)) : Hp S w0 w (.row v e 1 ns.length (ns.map f) :: L) := by
  have h1 : w.ownsRow 0 e 1 v m (ns.map f) := h.at_ _ (.head _)
  have h2 : ns.length = m := by have := h1.1; simpa using this
  rw [h2]; exact h
theorem getD_drop {α : Type} {l : List α} {i : Nat} {d x : α} (h : i < l.length) (hx : l.getD i d = x) : l.drop i = x :: l.drop (i + 1) := by
  rw [List.drop_eq_getElem_cons h, ← hx, List.getD_eq_getElem?_getD, List.getElem?_eq_getElem h]; rfl
theorem set_mid {α : Type} {A R : List α} {a b : α} {i : Nat} (h : A.length = i) : (A ++ a :: R).set i b = A ++ b :: R := by
  subst h
  rw [List.set_append_right _ _ (Nat.le_refl _), Nat.sub_self]; rfl
theorem get_mid {α : Type} {A R : List α} {a d : α} {i : Nat} (h : A.length = i) : (A ++ a :: R).getD i d = a := by
  subst h
  rw [List.getD_eq_getElem?_getD, List.getElem?_append_right (Nat.le_refl _), Nat.sub_self]; rfl
theorem rep_cons {α : Type} {n : Nat} {a : α} (h : 0 < n) : List.replicate n a = a :: List.replicate (n - 1) a := by
  obtain ⟨m, rfl⟩ : ∃ m, n = m + 1 := ⟨n - 1, by omega⟩
  rfl
theorem addH_nil {P : List (List Int)} (h : 0 < P.length) : addH [] P = P := by
  cases P with
  | nil => simp at h
  | cons a r => rfl
theorem spP_pos {e : List Part} (h : FitsU e) : 0 < (spP e).length := by rw [spP_len h]; omega
theorem addH_addH (a b : List Int) {P : List (List Int)} (h : 0 < P.length) : addH a (addH b P) = addH (a ++ b) P := by
  cases P with
  | nil => simp at h
  | cons x r => simp [addH, List.append_assoc]
def psum : List (List Int) → Int
  | [] => 0
  | t :: r => t.length + psum r
theorem psum_append : ∀ (A B : List (List Int)), psum (A ++ B) = psum A + psum B
  | [], B => by simp [psum]
  | t :: A, B => by simp only [List.cons_append, psum, psum_append A B]; omega
theorem psum_pos : ∀ (P : List (List Int)), 0 ≤ psum P
  | [] => by simp [psum]
  | t :: r => by have := psum_pos r; simp only [psum]; omega
theorem psum_addH (t : List Int) (P : List (List Int)) : psum (addH t P) = t.length + psum P := by
  cases P with
  | nil => rfl
  | cons a r => simp only [addH, psum, List.length_append]; omega
theorem psum_rep (n : Nat) : psum (List.replicate n []) = 0 := by
  induction n with
  | zero => rfl
  | succ n ih => simp only [List.replicate_succ, psum, List.length_nil, ih]; rfl
theorem psum_sp : ∀ {e : List Part}, FitsU e → psum (spP e) = putsN e
  | [], _ => rfl
  | p :: r, h => by
    have ih := psum_sp h.tail
    rw [spP]; simp only [putsN]
    rcases (h p (.head _)).2 with ⟨k, _⟩ | ⟨k, _⟩ | ⟨k, _, k2⟩
    · rw [if_neg (by omega), if_neg (by omega), psum_append, psum_rep, ih]
    · rw [if_neg (by omega), if_neg (by omega), psum_append, psum_rep, ih]
    · rw [if_pos k, if_pos k, psum_addH, ih, k2]
theorem puts_le {e : List Part} (h : FitsU e) : putsN e ≤ toS e := by
  have := toS_eq h; have := dropN_le h; omega
/-! ### Spread -/
structure SInv (e : List Part) (n k i : Nat) (P : List (List Int)) (D : List Bool) : Prop where
  kle : k ≤ e.length
  at_ : (i : Int) + fromS (e.drop k) = n
  go : ∃ P0 t, P = P0 ++ t :: List.replicate (n - i) [] ∧ P0.length = i ∧ P0 ++ addH t (spP (e.drop k)) = spP e
  goD : ∃ D0, D = D0 ++ List.replicate (n - i) false ∧ D0.length = i ∧ D0 ++ dv (e.drop k) = dv e
theorem fitsU_drop {e : List Part} (h : FitsU e) (k : Nat) : FitsU (e.drop k) := fun q hq => h q (List.mem_of_mem_drop hq)
theorem SInv.start {e : List Part} {n : Nat} (h : FitsU e) (hn : fromS e = n) : SInv e n 0 0 (List.replicate (n + 1) []) (List.replicate n false) :=
  ⟨Nat.zero_le _, by simp only [List.drop_zero]; omega, ⟨[], [], by simp [List.replicate_succ], rfl, by simp only [List.drop_zero, List.nil_append]; exact addH_nil (spP_pos h)⟩, ⟨[], by simp, rfl, by simp⟩⟩
section
variable {e : List Part} {n k i : Nat} {P : List (List Int)} {D : List Bool} {p : Part}
theorem SInv.ile (h : SInv e n k i P D) (hf : FitsU e) : i ≤ n := by have := h.at_; have := (fromS_posU (fitsU_drop hf k)).1; omega
theorem SInv.lens (h : SInv e n k i P D) (hf : FitsU e) : P.length = n + 1 ∧ D.length = n := by
  have hi := h.ile hf
  obtain ⟨P0, t, h1, h2, _⟩ := h.go
  obtain ⟨D0, g1, g2, _⟩ := h.goD
  rw [h1, g1]; simp only [List.length_append, List.length_cons, List.length_replicate]; omega
theorem SInv.put (h : SInv e n k i P D) (hf : FitsU e) (hk : k < e.length) (hp : e.getD k default = p) (k2 : p.kind = 2) : SInv e n (k + 1) i (P.set i (P.getD i [] ++ dec p.text)) D := by
  have hi := h.ile hf
  obtain ⟨hkl, hat, ⟨P0, t, h1, h2, h3⟩, ⟨D0, g1, g2, g3⟩⟩ := h
  have hd := drop_getD hk hp
  rw [hd] at hat h3 g3
  have hfr : FitsU (e.drop (k + 1)) := fitsU_drop hf _
  refine ⟨by omega, by simp only [fromS, if_pos k2] at hat; omega, ⟨P0, t ++ dec p.text, ?_, h2, ?_⟩, ⟨D0, g1, g2, ?_⟩⟩
  · rw [h1, get_mid h2, set_mid h2]
  · rw [← h3, spP, if_pos k2, addH_addH _ _ (spP_pos hfr)]
  · rw [← g3, dv, show dvP p = [] by unfold dvP; rw [if_neg (by omega), if_neg (by omega)], List.nil_append]
def SIn (n i : Nat) (D : List Bool) (b : Bool) (j : Nat) (D' : List Bool) : Prop := ∃ D0, D = D0 ++ List.replicate (n - i) false ∧ D0.length = i ∧ D' = D0 ++ (List.replicate j b ++ List.replicate (n - i - j) false)
theorem SInv.inner (h : SInv e n k i P D) (b : Bool) : SIn n i D b 0 D := by
  obtain ⟨D0, g1, g2, _⟩ := h.goD
  exact ⟨D0, g1, g2, by rw [g1]; simp⟩
theorem SIn.step {b : Bool} {j : Nat} {D' : List Bool} (h : SIn n i D b j D') (hj : j < n - i) : i + j < D'.length ∧ SIn n i D b (j + 1) (D'.set (i + j) b) := by
  obtain ⟨D0, g1, g2, g3⟩ := h
  have hl : (D0 ++ List.replicate j b).length = i + j := by simp [g2]
  have e1 : D' = (D0 ++ List.replicate j b) ++ false :: List.replicate (n - i - j - 1) false := by rw [g3, rep_cons (n := n - i - j) (by omega)]; simp
  refine ⟨by rw [e1, List.length_append, hl, List.length_cons]; omega, D0, g1, g2, ?_⟩
  rw [e1, set_mid hl, List.replicate_succ', show n - i - (j + 1) = n - i - j - 1 by omega]; simp
theorem SInv.over (h : SInv e n k i P D) (hf : FitsU e) (hk : k < e.length) (hp : e.getD k default = p) (k2 : ¬ p.kind = 2) : 1 ≤ p.n ∧ p.n.toNat ≤ n - i ∧ i ≤ n := by
  have hi := h.ile hf
  have hat := h.at_
  rw [drop_getD hk hp] at hat
  have hr := fromS_posU (fitsU_drop hf (k + 1))
  have h1 := (hf p (by rw [← hp, List.getD_eq_getElem?_getD, List.getElem?_eq_getElem hk]; exact List.getElem_mem hk)).1
  simp only [fromS, if_neg k2] at hat
  omega
theorem SInv.next {D' : List Bool} (h : SInv e n k i P D) (hf : FitsU e) (hk : k < e.length) (hp : e.getD k default = p) (k2 : ¬ p.kind = 2) (hi : SIn n i D (decide (p.kind = 3)) p.n.toNat D') : SInv e n (k + 1) (i + p.n.toNat) P D' := by
  have ho := h.over hf hk hp k2
  have hkd := (hf p (by rw [← hp, List.getD_eq_getElem?_getD, List.getElem?_eq_getElem hk]; exact List.getElem_mem hk)).kinds
  obtain ⟨hkl, hat, ⟨P0, t, h1, h2, h3⟩, ⟨D0, g1, g2, g3⟩⟩ := h
  obtain ⟨D1, e1, e2, e3⟩ := hi
  have hd := drop_getD hk hp
  rw [hd] at hat h3 g3
  have hfr : FitsU (e.drop (k + 1)) := fitsU_drop hf _
  have hD : D1 = D0 := by
    have := e1.symm.trans g1
    exact (List.append_inj this (by omega)).1
  subst hD
  obtain ⟨m, hm⟩ : ∃ m, p.n.toNat = m + 1 := ⟨p.n.toNat - 1, by omega⟩
  refine ⟨by omega, by simp only [fromS, if_neg k2] at hat; omega, ⟨P0 ++ t :: List.replicate m [], [], ?_, by simp [h2]; omega, ?_⟩, ⟨D1 ++ List.replicate p.n.toNat (decide (p.kind = 3)), ?_, by simp [g2], ?_⟩⟩
  · rw [h1, List.append_assoc]
    congr 1
    rw [List.cons_append, show n - i = m + 1 + (n - (i + p.n.toNat)) by omega, ← List.replicate_append_replicate, List.replicate_succ']
    simp
  · rw [addH_nil (spP_pos hfr), ← h3, spP, if_neg k2, hm, List.replicate_succ, List.cons_append]
    simp [addH]
  · rw [e3, List.append_assoc, show n - i - p.n.toNat = n - (i + p.n.toNat) by omega]
  · rw [← g3, dv, List.append_assoc]
    congr 2
    unfold dvP
    rcases hkd with k | k | k
    · rw [if_pos k, decide_eq_false (by omega)]
    · omega
    · rw [if_neg (by omega), if_pos k, decide_eq_true k]
theorem SInv.stop (h : SInv e n k i P D) (hf : FitsU e) (hk : ¬ k < e.length) : P = spP e ∧ D = dv e := by
  obtain ⟨hkl, hat, ⟨P0, t, h1, h2, h3⟩, ⟨D0, g1, g2, g3⟩⟩ := h
  rw [List.drop_eq_nil_of_le (by omega)] at hat h3 g3
  simp only [fromS] at hat
  have hz : n - i = 0 := by omega
  rw [hz] at h1 g1
  exact ⟨by rw [h1, ← h3]; simp [spP, addH], by rw [g1, ← g3]; simp [dv]⟩
end
theorem SInv.text {e : List Part} {n k i : Nat} {P : List (List Int)} {D : List Bool} (h : SInv e n k i P D) (oe : Ok e) : (enc (P.getD i [])).size ≤ 4398046511104 := by
  obtain ⟨P0, t, h1, h2, h3⟩ := h.go
  rw [h1, get_mid h2]
  have e1 := congrArg psum h3
  rw [psum_append, psum_addH, psum_sp oe.1] at e1
  have := psum_pos P0; have := psum_pos (spP (e.drop k)); have := puts_le oe.1; have := oe.2.2.2; have := (enc_size t).2
  omega
/-! ### Closed -/
theorem psum_drop {P : List (List Int)} {i : Nat} {t : List Int} (h : i < P.length) (ht : P.getD i [] = t) : psum (P.drop i) = t.length + psum (P.drop (i + 1)) := by rw [getD_drop h ht]; rfl
structure CLB (P : List (List Int)) (D : List Bool) : Prop where
  sc : scP P
  len : P.length = D.length + 1
  n : psum P + D.length ≤ 4398046511104
  k : D.count false ≤ 4294967296
structure CLInv (P : List (List Int)) (D : List Bool) (i : Nat) (r : List Part) (ahead : List Int) (drops : Int) : Prop where
  ile : i ≤ D.length
  go : closeGo (P.drop i) (D.drop i) ahead drops r = closeGo P D [] 0 []
  sc : ∀ x ∈ ahead, scalar x
  d0 : 0 ≤ drops
  pos : ∀ q ∈ r, 0 ≤ q.n
  n : nsum r + ahead.length + drops + psum (P.drop i) + ((D.length : Int) - i) ≤ 4398046511104
  t : (tsum r : Int) + 4 * ahead.length + 4 * psum (P.drop i) ≤ 17592186044416
  len : r.length ≤ 3 * (D.take i).count false
theorem CLInv.start {P : List (List Int)} {D : List Bool} (h : CLB P D) : CLInv P D 0 [] [] 0 :=
  ⟨Nat.zero_le _, rfl, fun x hx => (by cases hx), by omega, fun q hq => (by cases hq), by have := h.n; simp only [nsum, List.length_nil, List.drop_zero]; omega, by have := h.n; simp only [tsum, List.length_nil, List.drop_zero]; omega, by simp⟩
section
variable {P : List (List Int)} {D : List Bool} {i : Nat} {r : List Part} {ahead t : List Int} {drops : Int} {b : Bool}
theorem rcount_enc {t : List Int} (h : ∀ x ∈ t, scalar x) : rcount (enc t) = t.length := by rw [rcount_dec, dec_enc h]
theorem CLInv.at_ (h : CLInv P D i r ahead drops) (hb : CLB P D) (ht : P.getD i [] = t) : i < P.length ∧ (∀ x ∈ ahead ++ t, scalar x) ∧ (enc ahead).size + (enc t).size ≤ 9223372036854775807 ∧ drops ≤ 4398046511104 ∧ valid (enc (ahead ++ t)) = true ∧ (enc (ahead ++ t)).size < 9223372036854775807 ∧ BothB r (enc (ahead ++ t)) drops := by
  have hi : i < P.length := by have := h.ile; have := hb.len; omega
  have hts : ∀ x ∈ t, scalar x := by rw [← ht, List.getD_eq_getElem?_getD, List.getElem?_eq_getElem hi]; exact hb.sc _ (List.getElem_mem hi)
  have hs : ∀ x ∈ ahead ++ t, scalar x := fun x hx => (List.mem_append.1 hx).elim (h.sc x) (hts x)
  have hp := psum_drop hi ht
  have hpp := psum_pos (P.drop (i + 1))
  have hn := h.n; have htt := h.t; have hd := h.d0; have hns := nsum_pos h.pos; have hile := h.ile
  have e1 := (enc_size ahead).2; have e2 := (enc_size t).2; have e3 := (enc_size (ahead ++ t)).2
  have hl := h.len
  have hk : (D.take i).count false ≤ D.count false := (List.take_sublist i D).count_le false
  have hkk := hb.k
  rw [List.length_append] at e3
  refine ⟨hi, hs, by omega, by omega, valid_enc hs, by omega, ⟨h.pos, hd, ?_, by omega, by omega⟩⟩
  rw [rcount_enc hs, List.length_append]; omega
theorem CLInv.stop (h : CLInv P D i r ahead drops) (hb : CLB P D) (ht : P.getD i [] = t) (hi : i = D.length) : bothR r (enc (ahead ++ t)) drops = closeGo P D [] 0 [] := by
  have h1 := (h.at_ hb ht).1
  rw [← h.go, getD_drop h1 ht, List.drop_eq_nil_of_le (as := D) (by omega), closeGo]; rfl
theorem CLInv.stepT (h : CLInv P D i r ahead drops) (hb : CLB P D) (ht : P.getD i [] = t) (hi : i < D.length) (hd : D.getD i false = true) : CLInv P D (i + 1) r (ahead ++ t) (drops + 1) := by
  obtain ⟨h1, h2, _⟩ := h.at_ hb ht
  have hp := psum_drop h1 ht
  have hn := h.n; have htt := h.t
  refine ⟨by omega, ?_, h2, by have := h.d0; omega, h.pos, by rw [List.length_append]; omega, by rw [List.length_append]; omega, ?_⟩
  · rw [← h.go, getD_drop h1 ht, getD_drop hi hd, closeGo]; rfl
  · have : (D.take (i + 1)).count false ≥ (D.take i).count false := by
      rw [List.take_add_one, List.count_append]; omega
    have := h.len; omega
theorem CLInv.stepF (h : CLInv P D i r ahead drops) (hb : CLB P D) (ht : P.getD i [] = t) (hi : i < D.length) (hd : D.getD i false = false) :
    OneB (bothR r (enc (ahead ++ t)) drops) ⟨1, 1, ⟨#[]⟩⟩ ∧ CLInv P D (i + 1) (oneR (bothR r (enc (ahead ++ t)) drops) ⟨1, 1, ⟨#[]⟩⟩) [] 0 := by
  obtain ⟨h1, h2, _, _, _, _, hB⟩ := h.at_ hb ht
  have hp := psum_drop h1 ht
  have hpp := psum_pos (P.drop (i + 1))
  have hn := h.n; have htt := h.t; have hl := h.len
  obtain ⟨f1, f2, f3, f4⟩ := bothR_facts hB
  rw [rcount_enc h2, List.length_append] at f2
  have e3 := (enc_size (ahead ++ t)).2
  rw [List.length_append] at e3
  have hk : (D.take i).count false ≤ D.count false := (List.take_sublist i D).count_le false
  have hkk := hb.k
  obtain ⟨g1, g2, g3, g4⟩ := oneR_facts (bothR r (enc (ahead ++ t)) drops) ⟨1, 1, ⟨#[]⟩⟩ f1 (by decide)
  have z1 : (⟨1, 1, ⟨#[]⟩⟩ : Part).n = 1 := rfl
  have z2 : (⟨1, 1, ⟨#[]⟩⟩ : Part).text.size = 0 := rfl
  rw [z1] at g2; rw [z2] at g3
  refine ⟨⟨f1, by decide, by rw [z1]; omega, by rw [z2]; omega, by omega⟩, ⟨by omega, ?_, fun x hx => (by cases hx), by omega, g1, ?_, ?_, ?_⟩⟩
  · rw [← h.go, getD_drop h1 ht, getD_drop hi hd, closeGo]; rfl
  · simp only [List.length_nil]; omega
  · simp only [List.length_nil]; omega
  · have : (D.take (i + 1)).count false = (D.take i).count false + 1 := by
      rw [List.take_add_one, List.count_append, List.getElem?_eq_getElem hi]
      rw [List.getD_eq_getElem?_getD, List.getElem?_eq_getElem hi] at hd
      simp at hd
      simp [hd]
    omega
end
/-! ### Applied, and cursors -/
def AWI (P : List (List Int)) (D : List Bool) (l R0 : List Int) (i : Nat) (acc : List Int) : Prop := i ≤ D.length ∧ acc ++ runW id (P.drop i) (D.drop i) (l.drop i) = R0
section
variable {P : List (List Int)} {D : List Bool} {l R0 acc t : List Int} {i : Nat} {c : Int}
theorem AWI.step (h : AWI P D l R0 i acc) (hi : i < D.length) (hP : i < P.length) (hl : i < l.length) (ht : P.getD i [] = t) (hc : l.getD i 0 = c) (b : Bool) (hb : D.getD i false = b) : AWI P D l R0 (i + 1) (if b then acc ++ t else acc ++ t ++ [c]) := by
  refine ⟨by omega, ?_⟩
  rw [← h.2, getD_drop hP ht, getD_drop hi hb, getD_drop hl hc, runW]
  cases b <;> simp [List.append_assoc]
theorem AWI.stop (h : AWI P D l R0 i acc) (hi : i = D.length) (hP : i < P.length) (ht : P.getD i [] = t) : acc ++ t = R0 := by
  rw [← h.2, getD_drop hP ht, List.drop_eq_nil_of_le (as := D) (by omega), runW]; simp
theorem AWI.len (h : AWI P D l R0 i acc) : acc.length ≤ R0.length := by rw [← h.2]; simp
theorem curW_pos : ∀ (i : Nat) (P : List (List Int)) (D : List Bool) (ah : Bool), 0 ≤ curW P D i ah
  | 0, P, D, ah => by cases ah <;> simp [curW]
  | i + 1, P, [], ah => by simp only [curW]; omega
  | i + 1, P, d :: D, ah => by have := curW_pos i P.tail D ah; simp only [curW]; split <;> omega
def CWI (P : List (List Int)) (D : List Bool) (k : Nat) (ah : Bool) (i : Nat) (to : Int) : Prop := i ≤ k ∧ 0 ≤ to ∧ to + curW (P.drop i) (D.drop i) (k - i) ah = curW P D k ah
theorem CWI.start (P : List (List Int)) (D : List Bool) (k : Nat) (ah : Bool) : CWI P D k ah 0 0 := ⟨Nat.zero_le _, by omega, by simp⟩
theorem CWI.le {k : Nat} {ah : Bool} {to : Int} (h : CWI P D k ah i to) : to ≤ curW P D k ah := by have := curW_pos (k - i) (P.drop i) (D.drop i) ah; have := h.2.2; omega
theorem CWI.step {k : Nat} {ah : Bool} {to : Int} (h : CWI P D k ah i to) (hk : i < k) (hi : i < D.length) (hP : i < P.length) (ht : P.getD i [] = t) (b : Bool) (hb : D.getD i false = b) : CWI P D k ah (i + 1) (to + t.length + (if b then 0 else 1)) := by
  obtain ⟨h1, h2, h3⟩ := h
  refine ⟨by omega, by split <;> omega, ?_⟩
  rw [getD_drop hP ht, getD_drop hi hb, show k - i = (k - (i + 1)) + 1 by omega, curW] at h3
  simp only [List.headD_cons, List.tail_cons] at h3
  cases b <;> simp at h3 ⊢ <;> omega
theorem CWI.stop {k : Nat} {ah : Bool} {to : Int} (h : CWI P D k ah i to) (hk : i = k) (hP : i < P.length) (ht : P.getD i [] = t) : curW P D k ah = if ah then to + t.length else to := by
  obtain ⟨h1, h2, h3⟩ := h
  rw [getD_drop hP ht, hk, Nat.sub_self, curW] at h3
  cases ah <;> simp at h3 ⊢ <;> omega
end
/-! ### Inverse -/
theorem psh_all (k : Nat) (cur : List Int) : psh k cur ++ [cur' k cur] = cur :: List.replicate k [] := by
  unfold psh cur'
  cases k with
  | zero => rfl
  | succ k => rw [if_neg (by omega), if_neg (by omega), List.cons_append, Nat.add_sub_cancel, ← List.replicate_succ']
theorem psh_succ (k : Nat) (cur : List Int) : (psh k cur ++ [cur' k cur]) ++ [[]] = psh (k + 1) cur ++ [cur' (k + 1) cur] := by
  rw [psh_all, psh_all, List.cons_append, ← List.replicate_succ']
structure VInv (wP : List (List Int)) (wD : List Bool) (l : List Int) (Z : List (List Int) × List Bool) (i : Nat) (P : List (List Int)) (D : List Bool) : Prop where
  ile : i ≤ wD.length + 1
  go : i ≤ wD.length → ∃ P0 cur, P = P0 ++ [cur] ∧ P0 ++ (iv (wP.drop i) (wD.drop i) (l.drop i) cur).1 = Z.1 ∧ D ++ (iv (wP.drop i) (wD.drop i) (l.drop i) cur).2 = Z.2
  fin : i = wD.length + 1 → P = Z.1 ∧ D = Z.2
theorem VInv.start (wP : List (List Int)) (wD : List Bool) (l : List Int) : VInv wP wD l (iv wP wD l []) 0 [[]] [] :=
  ⟨by omega, fun _ => ⟨[], [], rfl, by simp, by simp⟩, fun h => by omega⟩
/-- Within a step: so many code points put are dropped. -/
structure VIn (wP : List (List Int)) (wD : List Bool) (l : List Int) (Z : List (List Int) × List Bool) (i j : Nat) (P : List (List Int)) (D : List Bool) : Prop where
  jle : j ≤ ((wP.drop i).headD []).length
  go : ∃ P0 D0 cur, P = P0 ++ (psh j cur ++ [cur' j cur]) ∧ D = D0 ++ List.replicate j true ∧ P0 ++ (iv (wP.drop i) (wD.drop i) (l.drop i) cur).1 = Z.1 ∧ D0 ++ (iv (wP.drop i) (wD.drop i) (l.drop i) cur).2 = Z.2
section
variable {wP P : List (List Int)} {wD D : List Bool} {l t : List Int} {Z : List (List Int) × List Bool} {i j : Nat}
theorem VInv.inner (h : VInv wP wD l Z i P D) (hi : i ≤ wD.length) : VIn wP wD l Z i 0 P D := by
  obtain ⟨P0, cur, h1, h2, h3⟩ := h.go hi
  exact ⟨Nat.zero_le _, P0, D, cur, by rw [h1]; rfl, by simp, h2, h3⟩
theorem VIn.step (h : VIn wP wD l Z i j P D) (hj : j < ((wP.drop i).headD []).length) : VIn wP wD l Z i (j + 1) (P ++ [[]]) (D ++ [true]) := by
  obtain ⟨hj0, P0, D0, cur, h1, h2, h3, h4⟩ := h
  exact ⟨by omega, P0, D0, cur, by rw [h1, List.append_assoc, psh_succ], by rw [h2, List.append_assoc, List.replicate_succ'], h3, h4⟩
theorem iv_long : ∀ (wD : List Bool) (wP : List (List Int)) (l cur : List Int), (wP.headD []).length + 1 ≤ (iv wP wD l cur).1.length ∧ (wP.headD []).length ≤ (iv wP wD l cur).2.length
  | [], wP, l, cur => by simp [iv]
  | true :: D, wP, l, cur => by
    have h1 := iv_len D wP.tail (l.drop 1) (cur' (wP.headD []).length cur ++ l.take 1)
    simp only [iv, psh, List.length_append, List.length_replicate]
    split <;> simp only [List.length_cons, List.length_nil, List.length_replicate] <;> omega
  | false :: D, wP, l, cur => by
    have h1 := iv_len D wP.tail (l.drop 1) []
    simp only [iv, psh, List.length_append, List.length_replicate, List.length_cons]
    split <;> simp only [List.length_cons, List.length_nil, List.length_replicate] <;> omega
theorem VIn.lens (h : VIn wP wD l Z i j P D) : 0 < P.length ∧ P.length ≤ Z.1.length ∧ D.length ≤ Z.2.length := by
  obtain ⟨hj0, P0, D0, cur, h1, h2, h3, h4⟩ := h
  have hl := iv_long (wD.drop i) (wP.drop i) (l.drop i) cur
  have e1 := congrArg List.length h3; have e2 := congrArg List.length h4
  rw [List.length_append] at e1 e2
  rw [h1, h2, psh_all]
  simp only [List.length_append, List.length_cons, List.length_replicate]
  omega
theorem VIn.last (h : VIn wP wD l Z i j P D) : ∃ A a, P = A ++ [a] := by
  obtain ⟨hj0, P0, D0, cur, h1, _⟩ := h
  exact ⟨P0 ++ psh j cur, cur' j cur, by rw [h1, List.append_assoc]⟩
theorem headD_drop (hi : i < wP.length) (ht : wP.getD i [] = t) : (wP.drop i).headD [] = t := by rw [getD_drop hi ht]; rfl
theorem VIn.drop {c : Int} (h : VIn wP wD l Z i t.length P D) (hP : i < wP.length) (ht : wP.getD i [] = t) (hi : i < wD.length) (hd : wD.getD i false = true) (hl : i < l.length) (hc : l.getD i 0 = c) : VInv wP wD l Z (i + 1) (P.set (P.length - 1) (P.getD (P.length - 1) [] ++ [c])) D := by
  obtain ⟨hj0, P0, D0, cur, h1, h2, h3, h4⟩ := h
  rw [getD_drop hP ht, getD_drop hi hd, getD_drop hl hc] at h3 h4
  simp only [iv, List.headD_cons, List.tail_cons, List.drop_succ_cons, List.drop_zero, List.take_succ_cons, List.take_zero] at h3 h4
  have e : P = (P0 ++ psh t.length cur) ++ [cur' t.length cur] := by rw [h1, List.append_assoc]
  have hn : (P0 ++ psh t.length cur).length = P.length - 1 := by rw [e]; simp
  refine ⟨by omega, fun _ => ⟨P0 ++ psh t.length cur, cur' t.length cur ++ [c], ?_, ?_, ?_⟩, fun hh => by omega⟩
  · rw [show P.getD (P.length - 1) [] = cur' t.length cur by rw [e]; rw [e] at hn; exact get_mid hn]
    conv => lhs; rw [e]
    exact set_mid (by rw [hn]; rw [e])
  · rw [List.append_assoc]; exact h3
  · rw [h2, List.append_assoc]; exact h4
theorem VIn.keep {c : Int} (h : VIn wP wD l Z i t.length P D) (hP : i < wP.length) (ht : wP.getD i [] = t) (hi : i < wD.length) (hd : wD.getD i false = false) (hl : i < l.length) (hc : l.getD i 0 = c) : VInv wP wD l Z (i + 1) (P ++ [[]]) (D ++ [false]) := by
  obtain ⟨hj0, P0, D0, cur, h1, h2, h3, h4⟩ := h
  rw [getD_drop hP ht, getD_drop hi hd, getD_drop hl hc] at h3 h4
  simp only [iv, List.headD_cons, List.tail_cons, List.drop_succ_cons, List.drop_zero] at h3 h4
  refine ⟨by omega, fun _ => ⟨P0 ++ (psh t.length cur ++ [cur' t.length cur]), [], by rw [h1], ?_, ?_⟩, fun hh => by omega⟩
  · rw [← h3]; simp
  · rw [h2, ← h4]; simp
theorem VIn.fin (h : VIn wP wD l Z i t.length P D) (hP : i < wP.length) (ht : wP.getD i [] = t) (hi : i = wD.length) : VInv wP wD l Z (i + 1) P D := by
  obtain ⟨hj0, P0, D0, cur, h1, h2, h3, h4⟩ := h
  rw [getD_drop hP ht, List.drop_eq_nil_of_le (as := wD) (by omega)] at h3 h4
  simp only [iv, List.headD_cons] at h3 h4
  exact ⟨by omega, fun hh => by omega, fun _ => ⟨by rw [h1, psh_all]; exact h3, by rw [h2]; exact h4⟩⟩
end
/-! ### Composition -/
structure ZInv (xP : List (List Int)) (xD : List Bool) (yP : List (List Int)) (yD : List Bool) (Z : List (List Int) × List Bool) (i k : Nat) (P : List (List Int)) (D : List Bool) : Prop where
  ile : i ≤ xD.length
  made : madeN (xP.drop i) (xD.drop i) + k = yD.length
  go : ∃ P0 D0, P = P0 ++ List.replicate (xD.length + 1 - i) [] ∧ D = D0 ++ List.replicate (xD.length - i) false ∧ P0.length = i ∧ D0.length = i ∧ P0 ++ (cz (xP.drop i) (xD.drop i) (yP.drop k) (yD.drop k)).1 = Z.1 ∧ D0 ++ (cz (xP.drop i) (xD.drop i) (yP.drop k) (yD.drop k)).2 = Z.2
structure ZIn (xP : List (List Int)) (xD : List Bool) (yP : List (List Int)) (yD : List Bool) (Z : List (List Int) × List Bool) (i k : Nat) (t : List Int) (j : Nat) (acc : List Int) (P : List (List Int)) (D : List Bool) : Prop where
  ile : i ≤ xD.length
  jle : j ≤ t.length
  made : madeN (xP.drop i) (xD.drop i) + k = yD.length
  acc_ : acc ++ (wv (t.drop j) (yP.drop (k + j)) (yD.drop (k + j))).1 = (wv t (yP.drop k) (yD.drop k)).1
  go : ∃ P0 D0, P = P0 ++ acc :: List.replicate (xD.length - i) [] ∧ D = D0 ++ List.replicate (xD.length - i) false ∧ P0.length = i ∧ D0.length = i ∧ P0 ++ (cz (xP.drop i) (xD.drop i) (yP.drop k) (yD.drop k)).1 = Z.1 ∧ D0 ++ (cz (xP.drop i) (xD.drop i) (yP.drop k) (yD.drop k)).2 = Z.2
section
variable {xP yP P : List (List Int)} {xD yD D : List Bool} {t acc u : List Int} {Z : List (List Int) × List Bool} {i k j : Nat}
theorem ZInv.start (h : madeN xP xD = yD.length) : ZInv xP xD yP yD (cz xP xD yP yD) 0 0 (List.replicate (xD.length + 1) []) (List.replicate xD.length false) :=
  ⟨Nat.zero_le _, by simpa using h, [], [], by simp, by simp, rfl, rfl, by simp, by simp⟩
theorem ZInv.inner (h : ZInv xP xD yP yD Z i k P D) (t : List Int) : ZIn xP xD yP yD Z i k t 0 [] P D := by
  obtain ⟨h0, h1, P0, D0, h2, h3, h4, h5, h6, h7⟩ := h
  exact ⟨h0, Nat.zero_le _, h1, by simp, P0, D0, by rw [h2, rep_cons (n := xD.length + 1 - i) (by omega), show xD.length + 1 - i - 1 = xD.length - i by omega], h3, h4, h5, h6, h7⟩
theorem ZIn.lens (h : ZIn xP xD yP yD Z i k t j acc P D) : P.length = xD.length + 1 ∧ D.length = xD.length := by
  obtain ⟨h0, hj, h1, ha, P0, D0, h2, h3, h4, h5, h6, h7⟩ := h
  rw [h2, h3]; simp only [List.length_append, List.length_cons, List.length_replicate]; omega
theorem ZIn.get (h : ZIn xP xD yP yD Z i k t j acc P D) : P.getD i [] = acc := by
  obtain ⟨h0, hj, h1, ha, P0, D0, h2, h3, h4, h5, h6, h7⟩ := h
  rw [h2, get_mid h4]
theorem ZIn.room (h : ZIn xP xD yP yD Z i k t j acc P D) (hP : i < xP.length) (ht : xP.getD i [] = t) : k + t.length ≤ yD.length ∧ (i < xD.length → xD.getD i false = false → k + t.length < yD.length) := by
  have hm := h.made
  have hi := h.ile
  rcases Nat.lt_or_ge i xD.length with hlt | hge
  · rw [getD_drop hP ht, getD_drop hlt rfl] at hm
    simp only [madeN, List.headD_cons] at hm
    exact ⟨by omega, fun _ hd => by rw [hd] at hm; simp at hm; omega⟩
  · rw [getD_drop hP ht, List.drop_eq_nil_of_le (as := xD) hge] at hm
    simp only [madeN, List.headD_cons] at hm
    exact ⟨by omega, fun h => by omega⟩
/-- One code point on: what is put ahead of it, and itself unless it is dropped. -/
theorem ZIn.step {c : Int} {d : Bool} {q : List Int} (h : ZIn xP xD yP yD Z i k t j acc P D) (hj : j < t.length) (hc : t.getD j 0 = c) (hy : k + j < yD.length) (hyP : k + j < yP.length) (hq : yP.getD (k + j) [] = q) (hd : yD.getD (k + j) false = d) :
    ZIn xP xD yP yD Z i k t (j + 1) (if d then acc ++ q else acc ++ q ++ [c]) (P.set i (if d then acc ++ q else acc ++ q ++ [c])) D := by
  obtain ⟨h0, hj0, h1, ha, P0, D0, h2, h3, h4, h5, h6, h7⟩ := h
  refine ⟨h0, by omega, h1, ?_, P0, D0, by rw [h2, set_mid h4], h3, h4, h5, h6, h7⟩
  rw [← ha, getD_drop hj hc, getD_drop hy hd, getD_drop hyP hq, wv]
  simp only [List.headD_cons, List.tail_cons, show k + (j + 1) = k + j + 1 by omega]
  cases d <;> simp [List.append_assoc]
theorem ZIn.full (h : ZIn xP xD yP yD Z i k t t.length acc P D) : acc = (wv t (yP.drop k) (yD.drop k)).1 := by
  have := h.acc_
  rw [List.drop_length] at this
  simp only [wv, List.append_nil] at this
  exact this
theorem ZIn.dropT (h : ZIn xP xD yP yD Z i k t t.length acc P D) (hP : i < xP.length) (ht : xP.getD i [] = t) (hi : i < xD.length) (hd : xD.getD i false = true) : ZInv xP xD yP yD Z (i + 1) (k + t.length) P (D.set i true) := by
  have hf := h.full
  obtain ⟨h0, hj, h1, ha, P0, D0, h2, h3, h4, h5, h6, h7⟩ := h
  rw [getD_drop hP ht, getD_drop hi hd] at h1 h6 h7
  simp only [cz, List.headD_cons, List.tail_cons, wv_left, madeN, List.drop_drop] at h1 h6 h7
  simp only [if_true] at h1
  rw [rep_cons (n := xD.length - i) (by omega)] at h3
  refine ⟨by omega, by omega, P0 ++ [acc], D0 ++ [true], ?_, ?_, by simp [h4], by simp [h5], ?_, ?_⟩
  · rw [h2, show xD.length + 1 - (i + 1) = xD.length - i by omega]; simp
  · rw [h3, set_mid h5, show xD.length - (i + 1) = xD.length - i - 1 by omega]; simp
  · rw [← h6, hf, List.append_assoc]; rfl
  · rw [← h7, List.append_assoc]; rfl
theorem ZIn.dropF {q : List Int} {d : Bool} (h : ZIn xP xD yP yD Z i k t t.length acc P D) (hP : i < xP.length) (ht : xP.getD i [] = t) (hi : i < xD.length) (hd : xD.getD i false = false) (hy : k + t.length < yD.length) (hyP : k + t.length < yP.length) (hq : yP.getD (k + t.length) [] = q) (hd2 : yD.getD (k + t.length) false = d) :
    ZInv xP xD yP yD Z (i + 1) (k + t.length + 1) (P.set i (acc ++ q)) (D.set i d) := by
  have hf := h.full
  obtain ⟨h0, hj, h1, ha, P0, D0, h2, h3, h4, h5, h6, h7⟩ := h
  rw [getD_drop hP ht, getD_drop hi hd] at h1 h6 h7
  simp only [cz, List.headD_cons, List.tail_cons, wv_left, madeN, List.drop_drop] at h1 h6 h7
  simp only [Bool.false_eq_true, if_false] at h1
  rw [getD_drop hyP hq, getD_drop hy hd2] at h6 h7
  simp only [List.headD_cons, List.tail_cons] at h6 h7
  rw [rep_cons (n := xD.length - i) (by omega)] at h3
  refine ⟨by omega, by omega, P0 ++ [acc ++ q], D0 ++ [d], ?_, ?_, by simp [h4], by simp [h5], ?_, ?_⟩
  · rw [h2, set_mid h4, show xD.length + 1 - (i + 1) = xD.length - i by omega]; simp
  · rw [h3, set_mid h5, show xD.length - (i + 1) = xD.length - i - 1 by omega]; simp
  · rw [← h6, hf, List.append_assoc]; rfl
  · rw [← h7, List.append_assoc]; rfl
theorem ZIn.fin {q : List Int} (h : ZIn xP xD yP yD Z i k t t.length acc P D) (hP : i < xP.length) (ht : xP.getD i [] = t) (hi : i = xD.length) (hyP : k + t.length < yP.length) (hq : yP.getD (k + t.length) [] = q) : P.set i (acc ++ q) = Z.1 ∧ D = Z.2 := by
  have hf := h.full
  obtain ⟨h0, hj, h1, ha, P0, D0, h2, h3, h4, h5, h6, h7⟩ := h
  rw [getD_drop hP ht, List.drop_eq_nil_of_le (as := xD) (by omega)] at h6 h7
  simp only [cz, List.headD_cons, wv_left, List.drop_drop] at h6 h7
  rw [getD_drop hyP hq] at h6
  simp only [List.headD_cons] at h6
  exact ⟨by rw [h2, set_mid h4, ← h6, hf, show xD.length - i = 0 by omega]; rfl, by rw [h3, ← h7, show xD.length - i = 0 by omega]; rfl⟩
end
end Go.SK

set_option linter.unusedVariables false
set_option linter.unusedSimpArgs false
set_option maxRecDepth 100000
namespace Go.SK
open Go Go.RowKit
theorem get_set {α : Type} {l : List α} {i : Nat} {d b : α} (h : i < l.length) : (l.set i b).getD i d = b := by
  rw [List.getD_eq_getElem?_getD, List.getElem?_set_self h]; rfl
theorem psum_tail (P : List (List Int)) : psum P = (P.headD []).length + psum P.tail := by cases P with | nil => rfl | cons a r => rfl
theorem psum_dropLe : ∀ (P : List (List Int)) (n : Nat), psum (P.drop n) ≤ psum P
  | [], n => by simp
  | t :: r, 0 => by simp
  | t :: r, n + 1 => by have := psum_dropLe r n; simp only [List.drop_succ_cons, psum]; omega
theorem psum_mem {P : List (List Int)} {t : List Int} (h : t ∈ P) : (t.length : Int) ≤ psum P := by
  obtain ⟨A, B, rfl⟩ := List.append_of_mem h
  have := psum_pos A; have := psum_pos B
  rw [psum_append]; simp only [psum]; omega
theorem psum_get {P : List (List Int)} {i : Nat} {t : List Int} (h : P.getD i [] = t) : (t.length : Int) ≤ psum P := by
  have hp := psum_pos P
  rcases Nat.lt_or_ge i P.length with hi | hi
  · rw [List.getD_eq_getElem?_getD, List.getElem?_eq_getElem hi] at h
    subst h; exact psum_mem (List.getElem_mem hi)
  · rw [List.getD_eq_getElem?_getD, List.getElem?_eq_none hi] at h
    subst h; simpa using hp
theorem wv_len : ∀ (t : List Int) (P : List (List Int)) (D : List Bool), ((wv t P D).1.length : Int) + psum (P.drop t.length) ≤ t.length + psum P
  | [], P, D => by simp [wv]
  | c :: t, P, D => by
    have ih := wv_len t P.tail D.tail
    rw [psum_tail P]
    simp only [wv, List.length_append, List.length_cons]
    rw [show P.drop (t.length + 1) = P.tail.drop t.length by simp]
    split <;> simp only [List.length_nil, List.length_cons] <;> omega
theorem cz_psum : ∀ (D : List Bool) (P : List (List Int)) (yP : List (List Int)) (yD : List Bool), psum (cz P D yP yD).1 ≤ psum P + psum yP
  | [], P, yP, yD => by
    have h1 := wv_len (P.headD []) yP yD
    have h2 := psum_tail P; have h3 := psum_tail (yP.drop (P.headD []).length)
    have h4 := psum_pos P.tail; have h5 := psum_pos (yP.drop (P.headD []).length).tail
    simp only [cz, psum, List.length_append, wv_left]; omega
  | true :: D, P, yP, yD => by
    have h1 := wv_len (P.headD []) yP yD
    have h2 := psum_tail P
    have ih := cz_psum D P.tail (yP.drop (P.headD []).length) (yD.drop (P.headD []).length)
    simp only [cz, psum, wv_left]; omega
  | false :: D, P, yP, yD => by
    have h1 := wv_len (P.headD []) yP yD
    have h2 := psum_tail P; have h3 := psum_tail (yP.drop (P.headD []).length)
    have ih := cz_psum D P.tail (yP.drop (P.headD []).length).tail (yD.drop (P.headD []).length).tail
    simp only [cz, psum, List.length_append, wv_left]; omega
theorem psum_psh (k : Nat) (cur : List Int) : psum (psh k cur) + (cur' k cur).length = cur.length := by
  unfold psh cur'
  split
  · simp [psum]
  · simp only [psum, psum_rep, List.length_nil]; omega
theorem iv_psum : ∀ (D : List Bool) (P : List (List Int)) (l cur : List Int), psum (iv P D l cur).1 ≤ cur.length + l.length
  | [], P, l, cur => by simp only [iv, psum, psum_rep]; omega
  | true :: D, P, l, cur => by
    have ih := iv_psum D P.tail (l.drop 1) (cur' (P.headD []).length cur ++ l.take 1)
    have h := psum_psh (P.headD []).length cur
    simp only [iv, psum_append]
    rw [List.length_append, List.length_drop, List.length_take] at ih
    omega
  | false :: D, P, l, cur => by
    have ih := iv_psum D P.tail (l.drop 1) []
    have h := psum_psh (P.headD []).length cur
    simp only [iv, psum_append, psum]
    rw [List.length_drop] at ih
    simp only [List.length_nil] at ih
    omega
theorem iv_false : ∀ (D : List Bool) (P : List (List Int)) (l cur : List Int), (iv P D l cur).2.count false = D.count false
  | [], P, l, cur => by simp [iv, List.count_replicate]
  | true :: D, P, l, cur => by simp [iv, List.count_append, List.count_replicate, iv_false D]
  | false :: D, P, l, cur => by simp [iv, List.count_append, List.count_replicate, iv_false D]
theorem iv_clb {e : List Part} {s : ByteArray} (hv : valid s = true) (oe : Ok e) (hn : fromS e = (dec s).length) (hs : s.size ≤ 1073741824) : CLB (iv (spP e) (dv e) (dec s) []).1 (iv (spP e) (dv e) (dec s) []).2 := by
  have h1 := iv_D (dv e) (spP e) (dec s) []
  have h2 := madeN_sp oe.1
  have h3 := iv_psum (dv e) (spP e) (dec s) []
  have h4 := dec_len s
  have h5 : (dv e).count false ≤ (dv e).length := List.count_le_length
  have h6 := dv_len oe.1
  have h7 := oe.2.2.2
  simp only [List.length_nil] at h3
  exact ⟨iv_sc _ _ _ _ (dec_scalar hv) (fun x hx => (by cases hx)), iv_len _ _ _ _, by rw [h1]; omega, by rw [iv_false]; omega⟩
theorem cz_clb {a b : List Part} (oa : Ok a) (ob : Ok b) (ha : fromS a ≤ 1073741824) : CLB (cz (spP a) (dv a) (spP b) (dv b)).1 (cz (spP a) (dv a) (spP b) (dv b)).2 := by
  have hl := cz_len (dv a) (spP a) (spP b) (dv b)
  have h1 := cz_psum (dv a) (spP a) (spP b) (dv b)
  have h2 := psum_sp oa.1; have h3 := psum_sp ob.1
  have h4 := puts_le oa.1; have h5 := puts_le ob.1
  have h6 := dv_len oa.1
  have h7 := oa.2.2.2; have h8 := ob.2.2.2
  have h9 : (cz (spP a) (dv a) (spP b) (dv b)).2.count false ≤ (cz (spP a) (dv a) (spP b) (dv b)).2.length := List.count_le_length
  exact ⟨cz_sc _ _ _ _ (spP_sc oa.1) (spP_sc ob.1), by omega, by omega, by omega⟩
/-- What a spread edit puts at a place, as a text. -/
theorem sp_get {e : List Part} (oe : Ok e) {i : Nat} {t : List Int} (h : (spP e).getD i [] = t) : (∀ x ∈ t, scalar x) ∧ (t.length : Int) ≤ 1099511627776 ∧ (enc t).size ≤ 4398046511104 := by
  have h1 := psum_get h
  rw [psum_sp oe.1] at h1
  have h2 := puts_le oe.1; have h3 := oe.2.2.2; have h4 := (enc_size t).2
  refine ⟨?_, by omega, by omega⟩
  rcases Nat.lt_or_ge i (spP e).length with hi | hi
  · rw [List.getD_eq_getElem?_getD, List.getElem?_eq_getElem hi] at h
    subst h; exact spP_sc oe.1 _ (List.getElem_mem hi)
  · rw [List.getD_eq_getElem?_getD, List.getElem?_eq_none hi] at h
    subst h; intro x hx; cases hx
theorem ZIn.accLe {a b : List Part} (oa : Ok a) (ob : Ok b) {Z : List (List Int) × List Bool} {i k j : Nat} {t acc : List Int} {P : List (List Int)} {D : List Bool} (h : ZIn (spP a) (dv a) (spP b) (dv b) Z i k t j acc P D) (ht : (t.length : Int) ≤ 1099511627776) : (enc acc).size ≤ 17592186044416 := by
  have e1 := congrArg List.length h.acc_
  rw [List.length_append] at e1
  have h1 := wv_len t ((spP b).drop k) ((dv b).drop k)
  have h2 := psum_dropLe (spP b) k
  have h3 := psum_pos (((spP b).drop k).drop t.length)
  rw [psum_sp ob.1] at h2
  have h4 := puts_le ob.1; have h5 := ob.2.2.2; have h6 := (enc_size acc).2
  omega
theorem VIn.lastLe {wP P : List (List Int)} {wD D : List Bool} {l : List Int} {Z : List (List Int) × List Bool} {i j : Nat} (h : VIn wP wD l Z i j P D) (hb : CLB Z.1 Z.2) : (enc (P.getD (P.length - 1) [])).size ≤ 17592186044416 := by
  obtain ⟨hj0, P0, D0, cur, h1, h2, h3, h4⟩ := h
  obtain ⟨Q, q1, _, _⟩ := iv_addH (wD.drop i) (wP.drop i) (l.drop i) cur
  have e1 := congrArg psum h3
  rw [q1, psum_append, psum_addH] at e1
  have := psum_pos P0; have := psum_pos Q; have := hb.n
  have e : P = (P0 ++ psh j cur) ++ [cur' j cur] := by rw [h1, List.append_assoc]
  have hl : P.getD (P.length - 1) [] = cur' j cur := by
    have hn : (P0 ++ psh j cur).length = P.length - 1 := by rw [e]; simp
    rw [← hn, e]; exact get_mid rfl
  have hc : (cur' j cur).length ≤ cur.length := by unfold cur'; split <;> simp
  have := (enc_size (cur' j cur)).2
  rw [hl]; omega
theorem applyBad_of {e : List Part} {s : ByteArray} (h : runesF s.data.toList < 0 ∨ checkF e (runesF s.data.toList) ≠ 0) : applyBad e s := by
  rcases runesF_cases s with ⟨h1, h2⟩ | ⟨h1, h2⟩
  · rw [h2] at h
    rcases h with h | h
    · omega
    · rw [rcount_dec] at h; exact .inr h
  · exact .inl h1
theorem applyOk_of {e : List Part} {s : ByteArray} (h : ¬ runesF s.data.toList < 0) (h' : ¬ checkF e (runesF s.data.toList) ≠ 0) : runesF s.data.toList = ((dec s).length : Int) ∧ valid s = true ∧ Ok e ∧ fromS e = (dec s).length := by
  rcases runesF_cases s with ⟨h1, h2⟩ | ⟨h1, h2⟩
  · rw [h2, rcount_dec] at h' ⊢
    have := checkF_iff.1 (Decidable.not_not.1 h')
    exact ⟨rfl, h1, this.1, this.2⟩
  · omega
theorem curBad_of {e : List Part} {i : Int} (h : sizeE e ≠ 0 ∨ i < 0 ∨ (sizeF e).1 < i) : curBad e i := by
  unfold curBad
  by_cases o : Ok e
  · have := ok_size o
    rw [o.sizes]
    rcases h with h | h | h
    · exact absurd this.1 h
    · exact .inr (.inl h)
    · exact .inr (.inr (by rw [this.2.1] at h; exact h))
  · exact .inl (not_ok o)
theorem curW_le {e : List Part} (oe : Ok e) {i : Int} (ah : Bool) (h0 : 0 ≤ i) (h1 : i ≤ fromS e) : curW (spP e) (dv e) i.toNat ah ≤ 1099511627776 ∧ curF e i ah = curW (spP e) (dv e) i.toNat ah ∧ curE e i = 0 := by
  have h2 := curW_go e i.toNat ah oe.1 (by omega)
  rw [Int.toNat_of_nonneg h0] at h2
  have h3 := cur_in e i 0 ah oe.1 h0
  have h4 := oe.2.2.2
  have h5 : ¬ curBad e i := by unfold curBad; rw [oe.sizes]; simp only [Bool.true_eq_false, false_or]; omega
  exact ⟨by rw [h2]; omega, by rw [(cur_ok h5).1, h2], (cur_ok (ah := ah) h5).2⟩
theorem compBad_of {a b : List Part} (h : sizeE a ≠ 0 ∨ sizeE b ≠ 0 ∨ (sizeF b).1 ≠ (sizeF a).2) : compBad a b := by
  rw [← Decidable.not_not (p := compBad a b), compBad_iff]
  rintro ⟨oa, ob, e⟩
  have h1 := ok_size oa; have h2 := ok_size ob
  rcases h with h | h | h
  · exact h h1.1
  · exact h h2.1
  · rw [h1.2.2, h2.2.1] at h; exact h e.symm
end Go.SK
