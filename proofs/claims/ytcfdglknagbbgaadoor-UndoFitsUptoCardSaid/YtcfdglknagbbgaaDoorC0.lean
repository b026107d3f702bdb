/- What a claim's start gives a walk: the tables, and a list of parts out of an argument; what the end owes. -/
import Derived.Test.YtcfdglknagbbgaaDoorMF
import Derived.Test.YtcfdglknagbbgaaDoorMC
import Derived.Test.YtcfdglknagbbgaaDoorRows
import Derived.Test.YtcfdglknagbbgaaDoorChecked
import Derived.ProofKit
import Derived.LaidMore
import Derived.OpenShut
import Derived.MakeChecks
import Derived.Lay
import Derived.SevenTiedAt
import Derived.Lib.LaidU8T
import Derived.Deep.Slices
import Derived.Deep.Fields
import Derived.SizedLaws
import Derived.Stop.Joined
set_option linter.unusedVariables false
set_option linter.unusedSimpArgs false
set_option maxRecDepth 100000
namespace Go.SK
open Go Go.ChangeShapes Go.WideShapes Go.RowKit Go.Deep Go.Proofs
theorem own : ownKnob Tryd.prog.godebug = none := by kernel_rfl
theorem laidOut : laidOutB Tryd.prog = true := by kernel_rfl
abbrev laidL : List (String × DataW Unit) := [("unicode/utf8.acceptRanges", Go.Proofs.YtcfdglknagbbgaaDoor.Rows.laid_unicode_utf8_acceptRanges), ("unicode/utf8.first", Go.Proofs.YtcfdglknagbbgaaDoor.Rows.laid_unicode_utf8_first)]
theorem laid_met (os : Os) (args : Array Value) : laidMetH Tryd.prog laidL ((World.laidAll Tryd.prog os laidL).forCall (fun _ _ => 0) ⟨#[], args, []⟩).memory := by
  rw [MakeChecks.laidMetH_plain _ _ _ (by kernel_rfl)]
  exact laidMet_laidAll _ (by kernel_rfl) (by kernel_rfl)
theorem laid_shaped (os : Os) : (World.laidAll Tryd.prog os laidL).Shaped Tryd.prog := World.shaped_of_ZipB (by kernel_rfl) (by kernel_rfl)
theorem tabs_of_laid {W : World} (h : laidMetH Tryd.prog laidL W) : Tabs W := by
  rw [MakeChecks.laidMetH_plain _ _ _ (by kernel_rfl)] at h
  obtain ⟨ps, hp, _⟩ := h
  have h4 := Lib.LaidVars_reads hp "unicode/utf8.acceptRanges" _ (.head _)
  have h3 := Lib.LaidVars_reads hp "unicode/utf8.first" _ (.tail _ (.head _))
  have e4 : Go.Proofs.YtcfdglknagbbgaaDoor.Rows.laid_unicode_utf8_acceptRanges = Lib.acceptData := by kernel_rfl
  have e3 : Go.Proofs.YtcfdglknagbbgaaDoor.Rows.laid_unicode_utf8_first = Lib.firstData := by kernel_rfl
  rw [e4] at h4
  rw [e3] at h3
  exact utf8Tabs_of_readsT (U8Types.of196 Tryd.laysValid) ⟨by kernel_rfl, by kernel_rfl, by kernel_rfl, by kernel_rfl, by kernel_rfl, by kernel_rfl, by kernel_rfl⟩ h3 h4
theorem pick_list {α : Type} [Inhabited α] {Pr : Nat → α → Prop} : ∀ (n : Nat), (∀ i, i < n → ∃ q, Pr i q) → ∃ e : List α, e.length = n ∧ ∀ i, i < n → Pr i (e.getD i default)
  | 0, _ => ⟨[], rfl, fun i h => by omega⟩
  | n + 1, h => by
    obtain ⟨e, he, hp⟩ := pick_list n (fun i hi => h i (by omega))
    obtain ⟨q, hq⟩ := h n (by omega)
    refine ⟨e ++ [q], by simp [he], fun i hi => ?_⟩
    rcases Nat.lt_or_ge i n with h1 | h1
    · have : (e ++ [q]).getD i default = e.getD i default := by rw [List.getD_eq_getElem?_getD, List.getElem?_append_left (by omega), List.getD_eq_getElem?_getD]
      rw [this]; exact hp i h1
    · obtain rfl : i = n := by omega
      have : (e ++ [q]).getD i default = q := by rw [List.getD_eq_getElem?_getD, List.getElem?_append_right (by omega), he]; simp
      rw [this]; exact hq
def reachN : Nat := 140737488351232
section
variable {H : Type} {enc : TypeId × Value → H} {W : World} {d : DataW H} {p : List MemPlace} {v : Value}
theorem open_edit {r : Reach} {b0 : Nat} (hv : Value.okWide Tryd.prog W r b0 23 v) (h : DataW.Trod enc Tryd.prog W 0 (fun _ => true) true 23 v d p) (hw : ∀ n ∈ d.weights Tryd.prog 23, n ≤ reachBytes) : ∃ e : List Part, EditIn W v e := by
  obtain ⟨A, len, cap, rfl⟩ := okWide_slice un_sl_api_Part hv
  obtain ⟨fuel, hf⟩ := h
  have hC : Tryd.prog.cellsOf 50 = 3 := by kernel_rfl
  have hu : ∃ f1 f2 f3, Tryd.prog.underlying 50 = some (.struct #[f1, f2, f3]) ∧ f1.type = 3 ∧ f2.type = 3 ∧ f3.type = 9 ∧ f1.offset = 0 ∧ f2.offset = 1 ∧ f3.offset = 2 := ⟨⟨"Kind", 3, 0, false, "", "", 0⟩, ⟨"N", 3, 1, false, "", "", 8⟩, ⟨"Text", 9, 2, false, "", "", 16⟩, by kernel_rfl, rfl, rfl, rfl, rfl, rfl, rfl⟩
  have hb : Tryd.prog.bytesOf 50 = 32 := by kernel_rfl
  rcases open_slice un_sl_api_Part hf with ⟨hcs, hx⟩ | ⟨a, len', cap', m, n, D, Pl, hcs, h0, hl, hm, hmm, hx, hi⟩
  · simp [Value.cells] at hcs
    obtain ⟨rfl, rfl, rfl⟩ := hcs
    exact ⟨[], ⟨rfl, none, 0, rfl, Nat.le_refl _, Nat.zero_le _, fun h => by simp at h, fun ad h => by cases h⟩, by simp, by simp⟩
  · simp [Value.cells] at hcs
    obtain ⟨rfl, rfl, rfl⟩ := hcs
    simp only [if_true] at hmm
    subst hmm
    obtain ⟨rfl, rfl⟩ : d = .slice ((List.range len).map D) ((List.range (m - len)).map fun j => D (len + j)) ∧ p = _ := by simpa using hx
    obtain ⟨f1, f2, f3, hst, t1, t2, t3, o1, o2, o3⟩ := hu
    rw [hC] at hi
    have key : ∀ i, i < len → ∃ q : Part, (∀ j u, q.cs[j]? = some u → W.cell? (a.add (i * 3 + j)) = some u) ∧ D i = .agg [.lit (.int .i64 q.kind), .lit (.int .i64 q.n), .lit (.string q.text.data.toList)] := fun i hil => by
      obtain ⟨cs', hc, ht'⟩ := hi i (by omega)
      obtain ⟨ys, n', hn', hy, hlen, hyl, hfd⟩ := DataW.trod_struct hst ht'
      obtain ⟨_, hcl, hat⟩ := World.cells?_some hc
      rw [hC] at hlen
      have k3 : Tryd.prog.cellsOf 3 = 1 := by kernel_rfl
      have k9 : Tryd.prog.cellsOf 9 = 1 := by kernel_rfl
      have g1 := hfd 0 f1 rfl; have g2 := hfd 1 f2 rfl; have g3 := hfd 2 f3 rfl
      rw [t1, o1, k3] at g1; rw [t2, o2, k3] at g2; rw [t3, o3, k9] at g3
      match cs', hlen, ys, hyl with
      | [c0, c1, c2], _, [y0, y1, y2], _ =>
        simp only [List.drop_zero, List.drop_succ_cons, List.take_succ_cons, List.take_zero, List.getElem?_cons_zero, List.getElem?_cons_succ] at g1 g2 g3
        obtain ⟨k, e1, e2, _⟩ := DataW.trod_int un_int g1
        obtain ⟨nn, e3, e4, _⟩ := DataW.trod_int un_int g2
        obtain ⟨s, e5, e6, _⟩ := DataW.trod_string un_string g3
        simp only [List.cons.injEq, and_true] at e1 e3 e5
        subst e1 e3 e5 e2 e4 e6
        refine ⟨⟨k, nn, s⟩, fun j u hj => ?_, ?_⟩
        · have hj3 : j < 3 := (List.getElem?_eq_some_iff.1 hj).1
          have := hat j (by omega)
          rw [add_of_add] at this
          rw [this]; exact hj
        · have := congrArg (·.1) hy; simpa using this
    obtain ⟨e, he, hq⟩ := pick_list len key
    have hw1 : ∀ i, i < len → ∀ n ∈ (D i).weights Tryd.prog 50, n ≤ reachBytes := fun i hil n hn => by
      refine hw n ?_
      have hall : ∀ (l : List (DataW H)) (x : DataW H), x ∈ l → ∀ n ∈ x.weights Tryd.prog 50, n ∈ DataW.weightsAll Tryd.prog 50 l := by
        intro l
        induction l with
        | nil => intro x hx; cases hx
        | cons y l ih =>
          intro x hx n hn
          simp only [DataW.weightsAll, List.mem_append]
          rcases List.mem_cons.1 hx with rfl | hx
          · exact .inl hn
          · exact .inr (ih x hx n hn)
      have hu2 : Tryd.prog.underlying 23 = some (.slice 50) := un_sl_api_Part
      simp only [DataW.weights, hu2, List.mem_cons, List.mem_append]
      exact .inr (.inl (hall _ _ (List.mem_map.2 ⟨i, List.mem_range.2 hil, rfl⟩) n hn))
    refine ⟨e, ⟨by rw [encs3], some a, m, by rw [he], by omega, hm, fun _ => ⟨a, rfl⟩, fun ad had j u hj => ?_⟩, fun q hqm => ?_, ?_⟩
    · cases had
      have hjl : j < (encs e).length := (List.getElem?_eq_some_iff.1 hj).1
      rw [encs3, he] at hjl
      have hdm : j = j / 3 * 3 + j % 3 := by omega
      have hlt : j / 3 < len := by omega
      rw [hdm] at hj ⊢
      rw [show (encs e)[j / 3 * 3 + j % 3]? = (Enc.enc (e.getD (j / 3) default))[j % 3]? from encs_get e (j / 3) (j % 3) (by omega) (Nat.mod_lt _ (by omega))] at hj
      exact (hq (j / 3) hlt).1 (j % 3) u hj
    · obtain ⟨i, hil, rfl⟩ := List.mem_iff_getElem.1 hqm
      have h1 := (hq i (by omega)).2
      rw [List.getD_eq_getElem?_getD, List.getElem?_eq_getElem hil] at h1
      have h2 := hw1 i (by omega) (e[i].text.data.toList.length) (by
        rw [h1]
        have hst' := hst
        simp only [DataW.weights, hst', DataW.weightsEach, List.map_cons, List.map_nil, List.mem_append]
        simp [DataW.weightsEach, DataW.weights])
      rw [size_len] at h2
      have : reachBytes = 140737488351232 := by decide
      omega
    · have hu2 : Tryd.prog.underlying 23 = some (.slice 50) := un_sl_api_Part
      have h1 := hw ((len + (m - len)) * 32) (by simp [DataW.weights, hu2, hb])
      have : reachBytes = 140737488351232 := by decide
      omega
end
end Go.SK
