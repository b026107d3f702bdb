/- Walks: what the laws of longer histories lean on. -/
import Derived.Test.YtcfdglknagbbgaaDoorE99
set_option linter.unusedVariables false
set_option linter.unusedSimpArgs false
set_option maxRecDepth 100000
namespace Go.SK
open Go Go.RowKit Go.Proofs
variable {S : Nat → Prop} {w0 : World} {F L : List Res}
theorem Hp.i4 {w : World} {r s t u : Res} (h : r.holds w) (h' : s.holds w) (h'' : t.holds w) (h3 : u.holds w) (n : ¬ r.rw := by exact fun x => x) (n' : ¬ s.rw := by exact fun x => x) (n'' : ¬ t.rw := by exact fun x => x) (n3 : ¬ u.rw := by exact fun x => x) : Hp NoB w w [r, s, t, u] := Hp.init w [r, s, t, u]
  (by intro x hx; rcases List.mem_cons.1 hx with rfl | hx; exact h; rcases List.mem_cons.1 hx with rfl | hx; exact h'; rcases List.mem_cons.1 hx with rfl | hx; exact h''; rw [List.mem_singleton] at hx; subst hx; exact h3)
  (by intro x hx; rcases List.mem_cons.1 hx with rfl | hx; exact n; rcases List.mem_cons.1 hx with rfl | hx; exact n'; rcases List.mem_cons.1 hx with rfl | hx; exact n''; rw [List.mem_singleton] at hx; subst hx; exact n3)
theorem row_lenE {v : Value} {e sz m m' : Nat} {xs : List Value} {w : World} (q : m = m') (h : Hp S w0 w (.row v e sz m xs :: L)) : Hp S w0 w (.row v e sz m' xs :: L) := q ▸ h
theorem HG.size {A : Int} {h : HS} {s : ByteArray} (g : HG A h s) : s.size ≤ 4194304 := by
  have h1 := (enc_size (dec s)).2
  rw [enc_dec g.v] at h1
  have := g.n; have := g.nle
  omega
end Go.SK
