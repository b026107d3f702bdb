/- What the start of a claim of the second form gives a walk: edits, and lists of acts, out of arguments, with their bulk. -/
import Derived.Test.YtcfdglknagbbgaaDoorC1
import Derived.Test.YtcfdglknagbbgaaDoorE99
import Derived.JoinedCond
import Derived.Deep.DeepHandedRow
set_option linter.unusedVariables false
set_option linter.unusedSimpArgs false
set_option maxRecDepth 100000
namespace Go.SK
open Go Go.ChangeShapes Go.WideShapes Go.RowKit Go.Deep Go.Proofs
section
variable {H : Type}
open Go.Proofs.YtcfdglknagbbgaaDoor.Rows
theorem bsum_map : ∀ (e : List Part), bsum e = (e.map fun p => p.text.size).sum
  | [] => rfl
  | p :: r => by rw [bsum, bsum_map r]; simp
theorem dsum_map : ∀ (l : List DoE), dsum l = (l.map fun d => bsum d.e).sum
  | [] => rfl
  | p :: r => by rw [dsum, dsum_map r]; simp
theorem bulk_map {α : Type} [Inhabited α] (f : α → Nat) : ∀ (e : List α) (ds : List (DataW H)), e.length ≤ ds.length → (∀ i, i < e.length → f (e.getD i default) ≤ uptoBulk (ds.getD i .nil)) → (e.map f).sum ≤ uptoBulkAll ds
  | [], _, _, _ => by simp
  | x :: r, [], h, _ => by simp at h
  | x :: r, d :: ds, h, hi => by
    have h0 := hi 0 (by simp)
    have ih := bulk_map f r ds (by simpa using h) (fun i hl => by simpa using hi (i + 1) (by simpa using hl))
    simp only [List.getD_cons_zero] at h0
    simp only [List.map_cons, List.sum_cons, uptoBulkAll]
    omega
theorem getD_range {D : Nat → DataW H} {n i : Nat} (h : i < n) : ((List.range n).map D).getD i .nil = D i := by
  rw [List.getD_eq_getElem?_getD, List.getElem?_map, List.getElem?_range h]; rfl
end
section
variable {H : Type} {enc : TypeId × Value → H} {W : World} {d : DataW H} {p : List MemPlace} {v : Value}
theorem open_editB {fuel : Nat} (hf : DataW.trod enc Tryd.prog W 0 (fun _ => true) true fuel 23 [v] = some (d, p)) (hw : ∀ n ∈ d.weights Tryd.prog 23, n ≤ reachBytes) : ∃ e : List Part, EditIn W v e ∧ bsum e ≤ Go.Proofs.YtcfdglknagbbgaaDoor.Rows.uptoBulk d := by
  have hC : Tryd.prog.cellsOf 50 = 3 := by kernel_rfl
  have hu : ∃ f1 f2 f3, Tryd.prog.underlying 50 = some (.struct #[f1, f2, f3]) ∧ f1.type = 3 ∧ f2.type = 3 ∧ f3.type = 9 ∧ f1.offset = 0 ∧ f2.offset = 1 ∧ f3.offset = 2 := ⟨⟨"Kind", 3, 0, false, "", "", 0⟩, ⟨"N", 3, 1, false, "", "", 8⟩, ⟨"Text", 9, 2, false, "", "", 16⟩, by kernel_rfl, rfl, rfl, rfl, rfl, rfl, rfl⟩
  have hb : Tryd.prog.bytesOf 50 = 32 := by kernel_rfl
  rcases open_slice un_sl_api_Part hf with ⟨hcs, hx⟩ | ⟨a, len, cap, m, n, D, Pl, hcs, h0, hl, hm, hmm, hx, hi⟩
  · obtain ⟨rfl, _⟩ := List.cons.inj hcs
    exact ⟨[], ⟨⟨rfl, none, 0, rfl, Nat.le_refl _, Nat.zero_le _, fun h => by simp at h, fun ad h => by cases h⟩, by simp, by simp⟩, Nat.zero_le _⟩
  · obtain ⟨rfl, _⟩ := List.cons.inj hcs
    simp only [if_true] at hmm
    subst hmm
    obtain ⟨rfl, rfl⟩ : d = .slice ((List.range len).map D) ((List.range (m - len)).map fun j => D (len + j)) ∧ p = _ := by simpa using hx
    obtain ⟨f1, f2, f3, hst, t1, t2, t3, o1, o2, o3⟩ := hu
    rw [hC] at hi
    have key : ∀ i, i < len → ∃ q : Part, (∀ j u, q.cs[j]? = some u → W.cell? (a.add (i * 3 + j)) = some u) ∧ D i = .agg [.lit (.int .i64 q.kind), .lit (.int .i64 q.n), .lit (.string q.text.data.toList)] := fun i hil => by
      obtain ⟨cs', hc, ht'⟩ := hi i (by omega)
      obtain ⟨ys, n', hn', hy, hlen, hyl, hfd⟩ := DataW.trod_struct hst ht'
      obtain ⟨_, hcl, hat⟩ := World.cells?_some hc
      rw [hC] at hlen
      have k3 : Tryd.prog.cellsOf 3 = 1 := by kernel_rfl
      have k9 : Tryd.prog.cellsOf 9 = 1 := by kernel_rfl
      have g1 := hfd 0 f1 rfl; have g2 := hfd 1 f2 rfl; have g3 := hfd 2 f3 rfl
      rw [t1, o1, k3] at g1; rw [t2, o2, k3] at g2; rw [t3, o3, k9] at g3
      match cs', hlen, ys, hyl with
      | [c0, c1, c2], _, [y0, y1, y2], _ =>
        simp only [List.drop_zero, List.drop_succ_cons, List.take_succ_cons, List.take_zero, List.getElem?_cons_zero, List.getElem?_cons_succ] at g1 g2 g3
        obtain ⟨k, e1, e2, _⟩ := DataW.trod_int un_int g1
        obtain ⟨nn, e3, e4, _⟩ := DataW.trod_int un_int g2
        obtain ⟨s, e5, e6, _⟩ := DataW.trod_string un_string g3
        simp only [List.cons.injEq, and_true] at e1 e3 e5
        subst e1 e3 e5 e2 e4 e6
        refine ⟨⟨k, nn, s⟩, fun j u hj => ?_, ?_⟩
        · have hj3 : j < 3 := (List.getElem?_eq_some_iff.1 hj).1
          have := hat j (by omega)
          rw [add_of_add] at this
          rw [this]; exact hj
        · have := congrArg (·.1) hy; simpa using this
    obtain ⟨e, he, hq⟩ := pick_list len key
    have hw1 : ∀ i, i < len → ∀ n ∈ (D i).weights Tryd.prog 50, n ≤ reachBytes := fun i hil n hn => by
      refine hw n ?_
      have hall : ∀ (l : List (DataW H)) (x : DataW H), x ∈ l → ∀ n ∈ x.weights Tryd.prog 50, n ∈ DataW.weightsAll Tryd.prog 50 l := by
        intro l
        induction l with
        | nil => intro x hx; cases hx
        | cons y l ih =>
          intro x hx n hn
          simp only [DataW.weightsAll, List.mem_append]
          rcases List.mem_cons.1 hx with rfl | hx
          · exact .inl hn
          · exact .inr (ih x hx n hn)
      have hu2 : Tryd.prog.underlying 23 = some (.slice 50) := un_sl_api_Part
      simp only [DataW.weights, hu2, List.mem_cons, List.mem_append]
      exact .inr (.inl (hall _ _ (List.mem_map.2 ⟨i, List.mem_range.2 hil, rfl⟩) n hn))
    have hbulk : bsum e ≤ Go.Proofs.YtcfdglknagbbgaaDoor.Rows.uptoBulk (DataW.slice ((List.range len).map D) ((List.range (m - len)).map fun j => D (len + j))) := by
      have h1 := bulk_map (fun p : Part => p.text.size) e ((List.range len).map D) (by simp [he]) (fun i hil => by
        rw [getD_range (by omega), (hq i (by omega)).2]
        simp only [Go.Proofs.YtcfdglknagbbgaaDoor.Rows.uptoBulk, Go.Proofs.YtcfdglknagbbgaaDoor.Rows.uptoBulkAll]
        rw [size_len]; omega)
      rw [bsum_map]
      simp only [Go.Proofs.YtcfdglknagbbgaaDoor.Rows.uptoBulk]
      omega
    refine ⟨e, ⟨⟨by rw [encs3], some a, m, by rw [he], by omega, hm, fun _ => ⟨a, rfl⟩, fun ad had j u hj => ?_⟩, fun q hqm => ?_, ?_⟩, hbulk⟩
    · cases had
      have hjl : j < (encs e).length := (List.getElem?_eq_some_iff.1 hj).1
      rw [encs3, he] at hjl
      have hdm : j = j / 3 * 3 + j % 3 := by omega
      have hlt : j / 3 < len := by omega
      rw [hdm] at hj ⊢
      rw [show (encs e)[j / 3 * 3 + j % 3]? = (Enc.enc (e.getD (j / 3) default))[j % 3]? from encs_get e (j / 3) (j % 3) (by omega) (Nat.mod_lt _ (by omega))] at hj
      exact (hq (j / 3) hlt).1 (j % 3) u hj
    · obtain ⟨i, hil, rfl⟩ := List.mem_iff_getElem.1 hqm
      have h1 := (hq i (by omega)).2
      rw [List.getD_eq_getElem?_getD, List.getElem?_eq_getElem hil] at h1
      have h2 := hw1 i (by omega) (e[i].text.data.toList.length) (by
        rw [h1]
        have hst' := hst
        simp only [DataW.weights, hst', DataW.weightsEach, List.map_cons, List.map_nil, List.mem_append]
        simp [DataW.weightsEach, DataW.weights])
      rw [size_len] at h2
      have : reachBytes = 140737488351232 := by decide
      omega
    · have hu2 : Tryd.prog.underlying 23 = some (.slice 50) := un_sl_api_Part
      have h1 := hw ((len + (m - len)) * 32) (by simp [DataW.weights, hu2, hb])
      have : reachBytes = 140737488351232 := by decide
      omega
end
end Go.SK
