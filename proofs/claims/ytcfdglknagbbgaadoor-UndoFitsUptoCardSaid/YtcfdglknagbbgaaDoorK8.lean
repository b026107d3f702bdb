/- Memory: many rows that are only read, held together; function values called. -/
import Derived.Test.YtcfdglknagbbgaaDoorMB
set_option linter.unusedVariables false
set_option linter.unusedSimpArgs false
set_option maxRecDepth 100000
namespace Go.SK
open Go Go.RowKit
section
variable {S : Nat → Prop} {w0 w : World} {L : List Res} {r s q : Res}
theorem Hp.merge (h : Hp S w0 w (r :: s :: L)) (hq : q.holds w) (hr : ¬ q.rw) (hk : ∀ g, q.keys g → r.keys g ∨ s.keys g) : Hp S w0 w (q :: L) := by
  have n1 := List.pairwise_cons.1 h.nd
  have n2 := List.pairwise_cons.1 n1.2
  refine ⟨h.kp, fun t ht => ?_, fun t ht hw => ?_, .cons (fun t ht hw g hg hg' => ?_) n2.2⟩
  · rcases List.mem_cons.1 ht with rfl | ht
    · exact hq
    · exact h.at_ t (.tail _ (.tail _ ht))
  · rcases List.mem_cons.1 ht with rfl | ht
    · exact absurd hw hr
    · exact h.own t (.tail _ (.tail _ ht)) hw
  · have hw' : t.rw := hw.resolve_left hr
    rcases hk g hg with h1 | h1
    · exact n1.1 t (.tail _ ht) (.inr hw') g h1 hg'
    · exact n2.1 t ht (.inr hw') g h1 hg'
/-- A row that is read: its value, how many elements, the cells. -/
abbrev Ent := Value × Nat × List Value
def col (sz : Nat) (es : List Ent) : Res := .ro (fun g => ∃ x ∈ es, x.1.ownBlock = some g ∧ x.2.2 ≠ []) (fun w => ∀ x ∈ es, RdRow w x.1 sz x.2.1 x.2.2)
  (fun w w' hm h x hx => Res.stable (.rd x.1 sz x.2.1 x.2.2) w w' (fun g hg => hm g ⟨x, hx, hg⟩) (h x hx))
  (fun w h g ⟨x, hx, hg⟩ => Res.bound (.rd x.1 sz x.2.1 x.2.2) w (h x hx) g hg)
theorem col_nil (sz : Nat) (h : Hp S w0 w L) : Hp S w0 w (col sz [] :: L) :=
  h.new (Kp.refl _ _) (fun x hx => by cases hx) (fun g ⟨x, hx, _⟩ => by cases hx)
theorem col_add {sz : Nat} {es : List Ent} {v : Value} {n : Nat} {xs : List Value} (h : Hp S w0 w (.rd v sz n xs :: col sz es :: L)) : Hp S w0 w (col sz ((v, n, xs) :: es) :: L) := by
  refine h.merge (fun x hx => ?_) (fun x => x) (fun g ⟨x, hx, hg⟩ => ?_)
  · rcases List.mem_cons.1 hx with rfl | hx
    · exact h.at_ _ (.head _)
    · exact (h.at_ _ (.tail _ (.head _)) : ∀ x ∈ es, RdRow w x.1 sz x.2.1 x.2.2) x hx
  · rcases List.mem_cons.1 hx with rfl | hx
    · exact .inl hg
    · exact .inr ⟨x, hx, hg⟩
theorem col_addR {sz : Nat} {es : List Ent} {v : Value} {e n : Nat} {xs : List Value} (h : Hp S w0 w (.row v e sz n xs :: col sz es :: L)) : Hp S w0 w (col sz ((v, n, xs) :: es) :: L) := col_add (row_rd h)
theorem col_sub {sz : Nat} {es es' : List Ent} (hs : ∀ x ∈ es', x ∈ es) (h : Hp S w0 w (col sz es :: L)) : Hp S w0 w (col sz es' :: L) :=
  h.as (fun x hx => (h.at_ _ (.head _) : ∀ x ∈ es, RdRow w x.1 sz x.2.1 x.2.2) x (hs x hx)) (fun x => x) (fun g ⟨x, hx, hg⟩ => ⟨x, hs x hx, hg⟩)
theorem Rdb.col {sz : Nat} {es : List Ent} {x : Ent} (hm : Go.SK.col sz es ∈ L) (hx : x ∈ es) : Rdb L x.1 sz x.2.1 x.2.2 := fun S w0 w hp => (hp.at_ _ hm : ∀ x ∈ es, RdRow w x.1 sz x.2.1 x.2.2) x hx
end
section
variable {P : Program} {ops : Array Oper} {Q : Exit → Act → World → Prop} {n : Nat} {l : FrL} {S : Nat → Prop} {w0 : World} {L : List Res} {rest : List Oper} {d : Nat} {dst : Option Tmp} {ty : TypeId} {pos : String} {af : Array Edge} {gd : Option (Nat × Bool)} {x : Operand}
theorem run_callV {f : FuncId} {as : Array Operand} {ts : Array TypeId} {vs : List Value} {a : Act} {w : World} (hx : evO l x = some (.func (.func f) #[] #[])) (he : Enters P f) (ha : Has n l a) (has : evOs l as.toList = some vs) :
    (execOp a.eval ⟨dst, .call { callee := .value x, args := as, argTypes := ts }, ty, pos, af, gd⟩).run P w = .ok (.enter f vs.toArray) w := by
  have h1 := ha.evals has
  have h2 : as.map a.eval = vs.toArray := by apply Array.ext'; simpa using h1
  have h3 := ha.eval hx
  unfold execOp
  simp [resolve, Deferred.ofValue, invoke, h2, h3, he vs.toArray w]
theorem OpX.callqV {f : FuncId} {as : Array Operand} {ts : Array TypeId} {vs : List Value} {v : Value} (hx : evO l x = some (.func (.func f) #[] #[])) (he : Enters P f) (has : evOs l as.toList = some vs)
    (hc : ∀ w, Hp S w0 w L → Calls P f vs.toArray w fun e w' => e = .returned v ∧ Kp NoB w w') : OpX P n l S w0 L ⟨dst, .call { callee := .value x, args := as, argTypes := ts }, ty, pos, af, gd⟩ (fun u L' => u = v ∧ L' = L) := fun a w ha hp K Q hK => by
  unfold Oper.wp
  rw [run_callV hx he ha has, Oper.upon_enter]
  refine (hc w hp).mono fun e w' hh => ?_
  obtain ⟨rfl, hk⟩ := hh
  exact hK v w' L ⟨rfl, rfl⟩ (hp.quiet hk)
end
section
variable {P : Program} {Q : Exit → Act → World → Prop} {n : Nat} {l : FrL} {S : Nat → Prop} {w0 : World} {L : List Res}
/-- A slot's value said otherwise. -/
theorem TC.re {x : Code} {t : Nat} {v v' : Value} (hg : get l t = some v) (e : v = v') (h : TC P x Q n ((t, v') :: l) S w0 L) : TC P x Q n l S w0 L := fun a w ha hp => h a w ⟨ha.defers, ha.size, fun t' u hu => by
  by_cases c : t = t'
  · subst c
    have h1 : get ((t, v') :: l) t = some v' := by simp [get]
    rw [h1] at hu
    injection hu with hu
    subst hu; subst e
    exact ha.slot t v hg
  · have h1 : get ((t, v') :: l) t' = get l t' := by
      cases hb : Nat.beq t t' with
      | true => exact absurd (Nat.eq_of_beq_eq_true hb) c
      | false => simp [get, hb]
    rw [h1] at hu
    exact ha.slot t' u hu⟩ hp
theorem ire {k : IntKind} {a b : Int} (h : a = b) : Value.int k a = Value.int k b := by rw [h]
end
end Go.SK
