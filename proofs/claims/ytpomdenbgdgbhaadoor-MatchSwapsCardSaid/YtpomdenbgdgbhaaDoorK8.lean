/- Memory: many rows that are only read, held together; function values called. -/
import Derived.Test.YtpomdenbgdgbhaaDoorMB
set_option linter.unusedVariables false
set_option linter.unusedSimpArgs false
set_option maxRecDepth 100000
namespace Go.SK
open Go Go.RowKit
section
variable {S : Nat → Prop} {w0 w : World} {L : List Res} {r s q : Res}
end
section
variable {P : Program} {ops : Array Oper} {Q : Exit → Act → World → Prop} {n : Nat} {l : FrL} {S : Nat → Prop} {w0 : World} {L : List Res} {rest : List Oper} {d : Nat} {dst : Option Tmp} {ty : TypeId} {pos : String} {af : Array Edge} {gd : Option (Nat × Bool)} {x : Operand}
theorem run_callV {f : FuncId} {as : Array Operand} {ts : Array TypeId} {vs : List Value} {a : Act} {w : World} (hx : evO l x = some (.func (.func f) #[] #[])) (he : Enters P f) (ha : Has n l a) (has : evOs l as.toList = some vs) :
    (execOp a.eval ⟨dst, .call { callee := .value x, args := as, argTypes := ts }, ty, pos, af, gd⟩).run P w = .ok (.enter f vs.toArray) w := by
  have h1 := ha.evals has
  have h2 : as.map a.eval = vs.toArray := by apply Array.ext'; simpa using h1
  have h3 := ha.eval hx
  unfold execOp
  simp [resolve, Deferred.ofValue, invoke, h2, h3, he vs.toArray w]
theorem OpX.callqV {f : FuncId} {as : Array Operand} {ts : Array TypeId} {vs : List Value} {v : Value} (hx : evO l x = some (.func (.func f) #[] #[])) (he : Enters P f) (has : evOs l as.toList = some vs)
    (hc : ∀ w, Hp S w0 w L → Calls P f vs.toArray w fun e w' => e = .returned v ∧ Kp NoB w w') : OpX P n l S w0 L ⟨dst, .call { callee := .value x, args := as, argTypes := ts }, ty, pos, af, gd⟩ (fun u L' => u = v ∧ L' = L) := fun a w ha hp K Q hK => by
  unfold Oper.wp
  rw [run_callV hx he ha has, Oper.upon_enter]
  refine (hc w hp).mono fun e w' hh => ?_
  obtain ⟨rfl, hk⟩ := hh
  exact hK v w' L ⟨rfl, rfl⟩ (hp.quiet hk)
end
section
variable {P : Program} {Q : Exit → Act → World → Prop} {n : Nat} {l : FrL} {S : Nat → Prop} {w0 : World} {L : List Res}
end
end Go.SK
