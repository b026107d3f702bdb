/- The examples, reckoned out. -/
import Derived.Test.YtgklklmcmdcpgaaDoorP5
import Derived.KernelRfl
set_option linter.unusedVariables false
set_option linter.unusedSimpArgs false
set_option maxRecDepth 100000
namespace Go.SK
open Go
abbrev sXY : ByteArray := ⟨#[120, 121]⟩
abbrev sA : ByteArray := ⟨#[97]⟩
abbrev sB : ByteArray := ⟨#[98]⟩
abbrev sHello : ByteArray := ⟨#[104, 101, 108, 108, 111]⟩
abbrev s12 : ByteArray := ⟨#[49, 50]⟩
abbrev s1b2 : ByteArray := ⟨#[49, 98, 50]⟩
abbrev s1a2 : ByteArray := ⟨#[49, 97, 50]⟩
theorem aw1 : applyF (replF 5 2 1 sXY) sHello = ⟨#[104, 101, 120, 121, 108, 111]⟩ ∧ applyE (replF 5 2 1 sXY) sHello = 0 := ⟨by kernel_rfl, by kernel_rfl⟩
theorem awA : replF 2 1 0 sA = [⟨1, 1, ⟨#[]⟩⟩, ⟨2, 1, sA⟩, ⟨1, 1, ⟨#[]⟩⟩] := by kernel_rfl
theorem awB : replF 2 1 0 sB = [⟨1, 1, ⟨#[]⟩⟩, ⟨2, 1, sB⟩, ⟨1, 1, ⟨#[]⟩⟩] := by kernel_rfl
theorem awX : replF 5 2 1 sXY = [⟨1, 2, ⟨#[]⟩⟩, ⟨2, 2, sXY⟩, ⟨3, 1, ⟨#[]⟩⟩, ⟨1, 2, ⟨#[]⟩⟩] := by kernel_rfl
theorem awE : trE (replF 2 1 0 sA) (replF 2 1 0 sB) = 0 := by kernel_rfl
theorem aw2 : trF1 (replF 2 1 0 sA) (replF 2 1 0 sB) = [⟨1, 1, ⟨#[]⟩⟩, ⟨2, 1, sA⟩, ⟨1, 2, ⟨#[]⟩⟩] ∧ trF2 (replF 2 1 0 sA) (replF 2 1 0 sB) = [⟨1, 2, ⟨#[]⟩⟩, ⟨2, 1, sB⟩, ⟨1, 1, ⟨#[]⟩⟩] := ⟨by kernel_rfl, by kernel_rfl⟩
theorem aw3 : applyF (replF 2 1 0 sB) s12 = s1b2 ∧ applyE (replF 2 1 0 sB) s12 = 0 := ⟨by kernel_rfl, by kernel_rfl⟩
theorem aw4 : applyF (trF1 (replF 2 1 0 sA) (replF 2 1 0 sB)) s1b2 = ⟨#[49, 97, 98, 50]⟩ ∧ applyE (trF1 (replF 2 1 0 sA) (replF 2 1 0 sB)) s1b2 = 0 := ⟨by kernel_rfl, by kernel_rfl⟩
theorem aw5 : applyE (trF2 (replF 2 1 0 sA) (replF 2 1 0 sB)) s1a2 = 0 := by kernel_rfl
theorem aw6 : checkF [] 1 = 30 := by kernel_rfl
def small (e : List Part) : Prop := ∀ p ∈ e, p.text.size < 9223372036854775807
theorem smallA : small (replF 2 1 0 sA) := by rw [awA]; intro p hp; simp only [List.mem_cons, List.not_mem_nil, or_false] at hp; rcases hp with rfl | rfl | rfl <;> decide
theorem smallB : small (replF 2 1 0 sB) := by rw [awB]; intro p hp; simp only [List.mem_cons, List.not_mem_nil, or_false] at hp; rcases hp with rfl | rfl | rfl <;> decide
theorem smallX : small (replF 5 2 1 sXY) := by rw [awX]; intro p hp; simp only [List.mem_cons, List.not_mem_nil, or_false] at hp; rcases hp with rfl | rfl | rfl | rfl <;> decide
theorem small1 : small (trF1 (replF 2 1 0 sA) (replF 2 1 0 sB)) := by rw [aw2.1]; intro p hp; simp only [List.mem_cons, List.not_mem_nil, or_false] at hp; rcases hp with rfl | rfl | rfl <;> decide
theorem small2 : small (trF2 (replF 2 1 0 sA) (replF 2 1 0 sB)) := by rw [aw2.2]; intro p hp; simp only [List.mem_cons, List.not_mem_nil, or_false] at hp; rcases hp with rfl | rfl | rfl <;> decide
end Go.SK
