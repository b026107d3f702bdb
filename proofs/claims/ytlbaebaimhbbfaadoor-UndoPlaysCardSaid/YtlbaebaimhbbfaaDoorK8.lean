/- Memory: many rows that are only read, held together; function values called. -/
import Derived.Test.YtlbaebaimhbbfaaDoorMB
set_option linter.unusedVariables false
set_option linter.unusedSimpArgs false
set_option maxRecDepth 100000
namespace Go.SK
open Go Go.RowKit
section
variable {S : Nat → Prop} {w0 w : World} {L : List Res} {r s q : Res}
theorem Hp.merge (h : Hp S w0 w (r :: s :: L)) (hq : q.holds w) (hr : ¬ q.rw) (hk : ∀ g, q.keys g → r.keys g ∨ s.keys g) : Hp S w0 w (q :: L) := by
  have n1 := List.pairwise_cons.1 h.nd
  have n2 := List.pairwise_cons.1 n1.2
  refine ⟨h.kp, fun t ht => ?_, fun t ht hw => ?_, .cons (fun t ht hw g hg hg' => ?_) n2.2⟩
  · rcases List.mem_cons.1 ht with rfl | ht
    · exact hq
    · exact h.at_ t (.tail _ (.tail _ ht))
  · rcases List.mem_cons.1 ht with rfl | ht
    · exact absurd hw hr
    · exact h.own t (.tail _ (.tail _ ht)) hw
  · have hw' : t.rw := hw.resolve_left hr
    rcases hk g hg with h1 | h1
    · exact n1.1 t (.tail _ ht) (.inr hw') g h1 hg'
    · exact n2.1 t ht (.inr hw') g h1 hg'
/-- A row that is read: its value, how many elements, the cells. -/
abbrev Ent := Value × Nat × List Value
def col (sz : Nat) (es : List Ent) : Res := .ro (fun g => ∃ x ∈ es, x.1.ownBlock = some g ∧ x.2.2 ≠ []) (fun w => ∀ x ∈ es, RdRow w x.1 sz x.2.1 x.2.2)
  (fun w w' hm h x hx => Res.stable (.rd x.1 sz x.2.1 x.2.2) w w' (fun g hg => hm g ⟨x, hx, hg⟩) (h x hx))
  (fun w h g ⟨x, hx, hg⟩ => Res.bound (.rd x.1 sz x.2.1 x.2.2) w (h x hx) g hg)
theorem col_add {sz : Nat} {es : List Ent} {v : Value} {n : Nat} {xs : List Value} (h : Hp S w0 w (.rd v sz n xs :: col sz es :: L)) : Hp S w0 w (col sz ((v, n, xs) :: es) :: L) := by
  refine h.merge (fun x hx => ?_) (fun x => x) (fun g ⟨x, hx, hg⟩ => ?_)
  · rcases List.mem_cons.1 hx with rfl | hx
    · exact h.at_ _ (.head _)
    · exact (h.at_ _ (.tail _ (.head _)) : ∀ x ∈ es, RdRow w x.1 sz x.2.1 x.2.2) x hx
  · rcases List.mem_cons.1 hx with rfl | hx
    · exact .inl hg
    · exact .inr ⟨x, hx, hg⟩
theorem col_addR {sz : Nat} {es : List Ent} {v : Value} {e n : Nat} {xs : List Value} (h : Hp S w0 w (.row v e sz n xs :: col sz es :: L)) : Hp S w0 w (col sz ((v, n, xs) :: es) :: L) := col_add (row_rd h)
theorem Rdb.col {sz : Nat} {es : List Ent} {x : Ent} (hm : Go.SK.col sz es ∈ L) (hx : x ∈ es) : Rdb L x.1 sz x.2.1 x.2.2 := fun S w0 w hp => (hp.at_ _ hm : ∀ x ∈ es, RdRow w x.1 sz x.2.1 x.2.2) x hx
end
section
variable {P : Program} {ops : Array Oper} {Q : Exit → Act → World → Prop} {n : Nat} {l : FrL} {S : Nat → Prop} {w0 : World} {L : List Res} {rest : List Oper} {d : Nat} {dst : Option Tmp} {ty : TypeId} {pos : String} {af : Array Edge} {gd : Option (Nat × Bool)} {x : Operand}
end
section
variable {P : Program} {Q : Exit → Act → World → Prop} {n : Nat} {l : FrL} {S : Nat → Prop} {w0 : World} {L : List Res}
end
end Go.SK
