/- Plain words: an edit spread out, what that does, and its one form. -/
import Derived.Test.YtgklklmcmdcpgaaDoorP19
set_option linter.unusedVariables false
set_option linter.unusedSimpArgs false
set_option maxRecDepth 100000
namespace Go.SK
open Go
/-! ### Spread out: what is put ahead of each, and at the end; whether each is dropped (`dv`) -/
def addH (t : List Int) : List (List Int) → List (List Int)
  | [] => [t]
  | h :: r => (t ++ h) :: r
def spP : List Part → List (List Int)
  | [] => [[]]
  | p :: r => if p.kind = 2 then addH (dec p.text) (spP r) else List.replicate p.n.toNat [] ++ spP r
theorem addH_len (t : List Int) {P : List (List Int)} (h : 0 < P.length) : (addH t P).length = P.length := by
  cases P with
  | nil => simp at h
  | cons a r => rfl
theorem spP_len : ∀ {e : List Part}, FitsU e → (spP e).length = (dv e).length + 1
  | [], _ => rfl
  | p :: r, h => by
    have ih := spP_len h.tail
    have h1 := (h p (.head _)).1
    rw [spP, dv]
    rcases (h p (.head _)).kinds with k | k | k
    · rw [if_neg (by omega), List.length_append, List.length_append, List.length_replicate, ih]
      unfold dvP; rw [if_pos k, List.length_replicate]; omega
    · rw [if_pos k, addH_len _ (by omega), ih]
      unfold dvP; rw [if_neg (by omega), if_neg (by omega)]; simp
    · rw [if_neg (by omega), List.length_append, List.length_append, List.length_replicate, ih]
      unfold dvP; rw [if_neg (by omega), if_pos k, List.length_replicate]; omega
def scP (P : List (List Int)) : Prop := ∀ t ∈ P, ∀ x ∈ t, scalar x
theorem scP.tail {t : List Int} {P : List (List Int)} (h : scP (t :: P)) : scP P := fun u hu => h u (.tail _ hu)
theorem scP.addH {t : List Int} {P : List (List Int)} (ht : ∀ x ∈ t, scalar x) (h : scP P) : scP (addH t P) := by
  cases P with
  | nil => intro u hu; rw [List.mem_singleton.1 hu]; exact ht
  | cons a r =>
    intro u hu
    rcases List.mem_cons.1 hu with rfl | hu
    · intro x hx; rcases List.mem_append.1 hx with hx | hx
      · exact ht x hx
      · exact h a (.head _) x hx
    · exact h u (.tail _ hu)
theorem spP_sc : ∀ {e : List Part}, FitsU e → scP (spP e)
  | [], _ => fun t ht => by rw [List.mem_singleton.1 ht]; intro x hx; cases hx
  | p :: r, h => by
    have ih := spP_sc h.tail
    rw [spP]
    split
    · rename_i k
      refine ih.addH ?_
      rcases (h p (.head _)).2 with ⟨k', _⟩ | ⟨k', _⟩ | ⟨_, hv, _⟩
      · omega
      · omega
      · exact dec_scalar hv
    · intro t ht
      rcases List.mem_append.1 ht with ht | ht
      · rw [(List.mem_replicate.1 ht).2]; intro x hx; cases hx
      · exact ih t ht
section
variable {β : Type} (ι : Int → β)
def runW : List (List Int) → List Bool → List β → List β
  | P, [], _ => (P.headD []).map ι
  | P, d :: D, l => (P.headD []).map ι ++ ((if d then [] else l.take 1) ++ runW P.tail D (l.drop 1))
theorem runW_addH (t : List Int) {P : List (List Int)} (h : 0 < P.length) (D : List Bool) (l : List β) : runW ι (addH t P) D l = t.map ι ++ runW ι P D l := by
  cases P with
  | nil => simp at h
  | cons a r => cases D <;> simp [runW, addH, List.append_assoc]
theorem runW_keep (n : Nat) (P : List (List Int)) (D : List Bool) : ∀ l : List β, runW ι (List.replicate n [] ++ P) (List.replicate n false ++ D) l = l.take n ++ runW ι P D (l.drop n) := by
  induction n with
  | zero => intro l; simp
  | succ n ih =>
    intro l
    simp only [List.replicate_succ, List.cons_append, runW, List.headD_cons, List.map_nil, List.nil_append, Bool.false_eq_true, if_false, List.tail_cons, ih (l.drop 1), List.drop_drop]
    rw [← List.append_assoc]
    congr 1
    · cases l <;> simp [List.take_succ_cons]
    · rw [Nat.add_comm]
theorem runW_drop (n : Nat) (P : List (List Int)) (D : List Bool) : ∀ l : List β, runW ι (List.replicate n [] ++ P) (List.replicate n true ++ D) l = runW ι P D (l.drop n) := by
  induction n with
  | zero => intro l; simp
  | succ n ih =>
    intro l
    simp only [List.replicate_succ, List.cons_append, runW, List.headD_cons, List.map_nil, List.nil_append, if_true, List.tail_cons, ih (l.drop 1), List.drop_drop]
    rw [Nat.add_comm]
theorem spread_run : ∀ (e : List Part) (l : List β), FitsU e → runW ι (spP e) (dv e) l = (runS ι e l).1
  | [], l, _ => by simp [spP, dv, runW, runS]
  | p :: r, l, h => by
    have hl := spP_len h.tail
    rw [spP, dv, runS_cons]
    rcases (h p (.head _)).kinds with k | k | k
    · rw [if_neg (by omega), show dvP p = List.replicate p.n.toNat false from if_pos k, runW_keep, (ot_keep ι k l).1, (ot_keep ι k l).2, spread_run r _ h.tail]
    · rw [if_pos k, show dvP p = [] by unfold dvP; rw [if_neg (by omega), if_neg (by omega)], List.nil_append, runW_addH ι _ (by omega), (ot_put ι k l).1, (ot_put ι k l).2, spread_run r _ h.tail]
    · rw [if_neg (by omega), show dvP p = List.replicate p.n.toNat true by unfold dvP; rw [if_neg (by omega), if_pos k], runW_drop, (ot_drop ι k l).1, (ot_drop ι k l).2, spread_run r _ h.tail]; rfl
end
/-! ### Closed -/
def closeGo : List (List Int) → List Bool → List Int → Int → List Part → List Part
  | P, [], ahead, drops, r => bothR r (enc (ahead ++ P.headD [])) drops
  | P, true :: D, ahead, drops, r => closeGo P.tail D (ahead ++ P.headD []) (drops + 1) r
  | P, false :: D, ahead, drops, r => closeGo P.tail D [] 0 (oneR (bothR r (enc (ahead ++ P.headD [])) drops) ⟨1, 1, ⟨#[]⟩⟩)
def closeF (P : List (List Int)) (D : List Bool) : List Part := (closeGo P D [] 0 []).reverse
def pt (t : List Int) : List Part := if t = [] then [] else [putP (enc t)]
def dt (d : Int) : List Part := if d = 0 then [] else [dropP d]
def closeP : List (List Int) → List Bool → List Int → Int → List Part
  | P, [], ahead, drops => pt (ahead ++ P.headD []) ++ dt drops
  | P, true :: D, ahead, drops => closeP P.tail D (ahead ++ P.headD []) (drops + 1)
  | P, false :: D, ahead, drops => pt (ahead ++ P.headD []) ++ (dt drops ++ (keepP 1 :: closeP P.tail D [] 0))
def noDropHead (r : List Part) : Prop := ∀ q, r.head? = some q → q.kind ≠ 3
theorem oneR_addR {r : List Part} {p : Part} (hz : p.n ≠ 0) (h : p.kind ≠ 2 ∨ noDropHead r) : oneR r p = addR r p := by
  cases r with
  | nil => rw [addR_nil hz]; rfl
  | cons q r =>
    by_cases c : q.kind = p.kind
    · rw [addR_more hz c, oneR_same c]
    · rw [addR_push hz c (h.imp id fun hn => hn q rfl), oneR_push c]
theorem enc_empty {t : List Int} : enc t = ⟨#[]⟩ ↔ t = [] := by
  constructor
  · intro h
    have := (enc_size t).1
    rw [h] at this
    exact List.length_eq_zero_iff.1 (Nat.le_zero.1 this)
  · rintro rfl; rfl
theorem pt_n {t : List Int} (ht : ∀ x ∈ t, scalar x) : (putP (enc t)).n = t.length := by
  show ((rcount (enc t) : Nat) : Int) = _
  rw [rcount_dec, dec_enc ht]
theorem both_add {r : List Part} {t : List Int} {d : Int} (ht : ∀ x ∈ t, scalar x) (hd : 0 ≤ d) (hr : noDropHead r) : bothR r (enc t) d = addRs r (pt t ++ dt d) := by
  have h1 : (if enc t = ⟨#[]⟩ then r else oneR r (putP (enc t))) = addRs r (pt t) := by
    unfold pt
    by_cases c : t = []
    · rw [if_pos (enc_empty.2 c), if_pos c]; rfl
    · rw [if_neg (fun h => c (enc_empty.1 h)), if_neg c, oneR_addR (by rw [pt_n ht]; have := List.length_pos_iff.2 c; omega) (.inr hr)]; rfl
  unfold bothR
  rw [h1, addRs_append]
  unfold dt
  by_cases c : d = 0
  · rw [if_neg (by omega), if_pos c]; rfl
  · rw [if_pos (by omega), if_neg c, oneR_addR (p := dropP d) c (.inl (show ¬ (3 : Int) = 2 by decide))]; rfl
theorem addR_keep_head {r : List Part} (h : ¬ (keepP 1).n = 0 := by decide) : noDropHead (addR r (keepP 1)) := by
  intro q hq
  rcases addR_head h q hq with h | h
  · rw [h]; decide
  · exact absurd h.2 (by decide)
theorem close_add : ∀ (D : List Bool) (P : List (List Int)) (ahead : List Int) (drops : Int) (r : List Part), scP P → (∀ x ∈ ahead, scalar x) → 0 ≤ drops → noDropHead r → P.length = D.length + 1 → closeGo P D ahead drops r = addRs r (closeP P D ahead drops)
  | [], h :: P, ahead, drops, r, hs, ha, hd, hr, hl => by
    rw [closeGo, closeP]
    exact both_add (by intro x hx; rcases List.mem_append.1 hx with hx | hx; exact ha x hx; exact hs h (.head _) x hx) hd hr
  | true :: D, h :: P, ahead, drops, r, hs, ha, hd, hr, hl => by
    rw [closeGo, closeP]
    exact close_add D P _ _ r hs.tail (by intro x hx; rcases List.mem_append.1 hx with hx | hx; exact ha x hx; exact hs h (.head _) x hx) (by omega) hr (by simpa using hl)
  | false :: D, h :: P, ahead, drops, r, hs, ha, hd, hr, hl => by
    have hx : ∀ x ∈ ahead ++ h, scalar x := by intro x hx; rcases List.mem_append.1 hx with hx | hx; exact ha x hx; exact hs h (.head _) x hx
    rw [closeGo, closeP]
    simp only [List.headD_cons, List.tail_cons]
    rw [both_add hx hd hr, oneR_addR (p := ⟨1, 1, ⟨#[]⟩⟩) (by decide) (.inl (by decide))]
    show closeGo P D [] 0 (addR (addRs r (pt (ahead ++ h) ++ dt drops)) (keepP 1)) = _
    rw [close_add D P [] 0 _ hs.tail (by intro x hx; cases hx) (by omega) addR_keep_head (by simpa using hl)]
    rw [show pt (ahead ++ h) ++ (dt drops ++ keepP 1 :: closeP P D [] 0) = (pt (ahead ++ h) ++ dt drops) ++ ([keepP 1] ++ closeP P D [] 0) by simp]
    simp only [addRs_append]
    rfl
theorem pt_fit {t : List Int} (ht : ∀ x ∈ t, scalar x) : FitsU (pt t) ∧ fromS (pt t) = 0 := by
  unfold pt
  split
  · exact ⟨fun _ h => (by cases h), rfl⟩
  · rename_i c
    have := List.length_pos_iff.2 c
    refine ⟨fun q hq => ?_, by simp [fromS, putP]⟩
    rw [List.mem_singleton.1 hq]
    exact ⟨by rw [pt_n ht]; omega, .inr (.inr ⟨rfl, valid_enc ht, by rw [pt_n ht]; show ((dec (enc t)).length : Int) = _; rw [dec_enc ht]⟩)⟩
theorem dt_fit {d : Int} (h : 0 ≤ d) : FitsU (dt d) ∧ fromS (dt d) = d := by
  unfold dt
  split
  · exact ⟨fun _ h => (by cases h), by simp only [fromS]; omega⟩
  · refine ⟨fun q hq => ?_, by simp [fromS, dropP]⟩
    rw [List.mem_singleton.1 hq]
    exact ⟨by show 1 ≤ d; omega, .inr (.inl ⟨rfl, rfl⟩)⟩
theorem FitsU.append {a b : List Part} (h : FitsU a) (h' : FitsU b) : FitsU (a ++ b) := fun q hq => (List.mem_append.1 hq).elim (h q) (h' q)
theorem close_fit : ∀ (D : List Bool) (P : List (List Int)) (ahead : List Int) (drops : Int), scP P → (∀ x ∈ ahead, scalar x) → 0 ≤ drops → P.length = D.length + 1 → FitsU (closeP P D ahead drops) ∧ fromS (closeP P D ahead drops) = drops + D.length
  | [], h :: P, ahead, drops, hs, ha, hd, hl => by
    have hx : ∀ x ∈ ahead ++ h, scalar x := by intro x hx; rcases List.mem_append.1 hx with hx | hx; exact ha x hx; exact hs h (.head _) x hx
    rw [closeP]
    exact ⟨(pt_fit hx).1.append (dt_fit hd).1, by rw [(fromS_append _ _).1]; have := (pt_fit hx).2; have := (dt_fit hd).2; simp only [List.headD_cons, List.length_nil] at *; omega⟩
  | true :: D, h :: P, ahead, drops, hs, ha, hd, hl => by
    rw [closeP]
    have := close_fit D P (ahead ++ h) (drops + 1) hs.tail (by intro x hx; rcases List.mem_append.1 hx with hx | hx; exact ha x hx; exact hs h (.head _) x hx) (by omega) (by simpa using hl)
    exact ⟨this.1, by simp only [List.headD_cons, List.tail_cons, List.length_cons] at *; rw [this.2]; omega⟩
  | false :: D, h :: P, ahead, drops, hs, ha, hd, hl => by
    have hx : ∀ x ∈ ahead ++ h, scalar x := by intro x hx; rcases List.mem_append.1 hx with hx | hx; exact ha x hx; exact hs h (.head _) x hx
    rw [closeP]
    have := close_fit D P [] 0 hs.tail (by intro x hx; cases hx) (by omega) (by simpa using hl)
    refine ⟨(pt_fit hx).1.append ((dt_fit hd).1.append (FitsU.cons (keepP_fit (by omega)) this.1)), ?_⟩
    have h1 := (pt_fit hx).2; have h2 := (dt_fit hd).2
    rw [(fromS_append _ _).1, (fromS_append _ _).1]
    simp only [List.headD_cons, List.tail_cons, List.length_cons, fromS] at *
    rw [this.2]
    rw [if_neg (show ¬ (keepP 1).kind = 2 by decide), show (keepP 1).n = 1 from rfl]
    omega
section
variable {β : Type} (ι : Int → β)
theorem pt_run {t : List Int} (ht : ∀ x ∈ t, scalar x) (r : List Part) (l : List β) : runS ι (pt t ++ r) l = (t.map ι ++ (runS ι r l).1, (runS ι r l).2) := by
  unfold pt
  split
  · rename_i c; subst c; simp
  · rw [List.singleton_append, runS_cons, (ot_put ι (p := putP (enc t)) rfl l).1, (ot_put ι (p := putP (enc t)) rfl l).2]
    rw [show dec (putP (enc t)).text = t from dec_enc ht]
theorem dt_run {d : Int} (h : 0 ≤ d) (r : List Part) (l : List β) : runS ι (dt d ++ r) l = runS ι r (l.drop d.toNat) := by
  unfold dt
  split
  · rename_i c; subst c; simp
  · rw [List.singleton_append, runS_cons, (ot_drop ι (p := dropP d) rfl l).1, (ot_drop ι (p := dropP d) rfl l).2]; rfl
theorem close_run : ∀ (D : List Bool) (P : List (List Int)) (ahead : List Int) (drops : Int) (l : List β), scP P → (∀ x ∈ ahead, scalar x) → 0 ≤ drops → P.length = D.length + 1 →
    (runS ι (closeP P D ahead drops) l).1 = ahead.map ι ++ runW ι P D (l.drop drops.toNat)
  | [], h :: P, ahead, drops, l, hs, ha, hd, hl => by
    have hx : ∀ x ∈ ahead ++ h, scalar x := by intro x hx; rcases List.mem_append.1 hx with hx | hx; exact ha x hx; exact hs h (.head _) x hx
    rw [closeP, ← List.append_nil (dt drops), List.headD_cons, pt_run ι hx, dt_run ι hd]
    simp [runS, runW]
  | true :: D, h :: P, ahead, drops, l, hs, ha, hd, hl => by
    have hx : ∀ x ∈ ahead ++ h, scalar x := by intro x hx; rcases List.mem_append.1 hx with hx | hx; exact ha x hx; exact hs h (.head _) x hx
    rw [closeP]
    simp only [List.headD_cons, List.tail_cons]
    rw [close_run D P (ahead ++ h) (drops + 1) l hs.tail hx (by omega) (by simpa using hl)]
    simp only [runW, List.headD_cons, List.tail_cons, if_true, List.nil_append, List.map_append, List.append_assoc, List.drop_drop]
    rw [show (drops + 1).toNat = drops.toNat + 1 by omega]
  | false :: D, h :: P, ahead, drops, l, hs, ha, hd, hl => by
    have hx : ∀ x ∈ ahead ++ h, scalar x := by intro x hx; rcases List.mem_append.1 hx with hx | hx; exact ha x hx; exact hs h (.head _) x hx
    rw [closeP]
    simp only [List.headD_cons, List.tail_cons]
    rw [pt_run ι hx, dt_run ι hd, runS_cons, (ot_keep ι (p := keepP 1) rfl _).1, (ot_keep ι (p := keepP 1) rfl _).2]
    simp only [show (keepP 1).n.toNat = 1 from rfl]
    rw [close_run D P [] 0 _ hs.tail (by intro x hx; cases hx) (by omega) (by simpa using hl)]
    simp only [runW, List.headD_cons, List.tail_cons, Bool.false_eq_true, if_false, List.map_append, List.append_assoc, List.drop_drop, List.map_nil, List.nil_append, Int.toNat_zero, List.drop_zero]
end
/-- What is spread out, closed: known by what it does. -/
theorem close_law {P : List (List Int)} {D : List Bool} (hs : scP P) (hl : P.length = D.length + 1) (hn : D.length ≤ 1099511627776) (ht : (runW (fun _ => ()) P D (List.replicate D.length ())).length ≤ 1099511627776) :
    Ok (closeF P D) ∧ fromS (closeF P D) = D.length ∧ ∀ {β : Type} (ι : Int → β) (l : List β), (runS ι (closeF P D) l).1 = runW ι P D l := by
  have e : closeF P D = (addRs [] (closeP P D [] 0)).reverse := by
    unfold closeF; rw [close_add D P [] 0 [] hs (fun x hx => by cases hx) (by omega) (fun q hq => by cases hq) hl]
  obtain ⟨f1, f2⟩ := close_fit D P [] 0 hs (fun x hx => by cases hx) (by omega) hl
  obtain ⟨m1, m2, m3⟩ := addRs_mk _ [] MK.nil f1
  have hr : ∀ {β : Type} (ι : Int → β) (l : List β), (runS ι (closeF P D) l).1 = runW ι P D l := fun ι l => by
    rw [e, maker_run ι f1 l, close_run ι D P [] 0 l hs (fun x hx => by cases hx) (by omega) hl]; simp
  have ff : fromS (addRs [] (closeP P D [] 0)) = D.length := by rw [m2, f2]; simp only [fromS]; omega
  have hf : fromS (closeF P D) = D.length := by rw [e, (fromS_rev _).1, ff]
  have hu : FitsU (closeF P D) := by rw [e]; exact fun q hq => m1.fit q (List.mem_reverse.1 hq)
  have h1 := (runS_len (fun _ => ()) (closeF P D) (List.replicate D.length ()) hu (by rw [hf, List.length_replicate]; omega)).1
  rw [hr] at h1
  refine ⟨?_, hf, hr⟩
  rw [e]
  exact m1.ok (by rw [ff]; omega) (by rw [← (fromS_rev _).2, ← e]; omega)
theorem close_is {P : List (List Int)} {D : List Bool} {e : List Part} (oe : Ok e) (hs : scP P) (hl : P.length = D.length + 1) (hn : fromS e = D.length)
    (h : ∀ {β : Type} (ι : Int → β) (l : List β), (l.length : Int) = fromS e → runW ι P D l = (runS ι e l).1) : closeF P D = e := by
  have hb := oe.2.2
  have ht := (runS_len (fun _ => ()) e (List.replicate D.length ()) oe.1 (by rw [hn, List.length_replicate]; omega)).1
  rw [← h (fun _ => ()) _ (by rw [hn, List.length_replicate])] at ht
  obtain ⟨o, f, r⟩ := close_law hs hl (by omega) (by omega)
  exact form_unique o oe (by omega) fun l hl' => by rw [r, h Sum.inr l (by omega)]
end Go.SK
