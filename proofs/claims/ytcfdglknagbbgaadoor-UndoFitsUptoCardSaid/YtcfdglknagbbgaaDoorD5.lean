/- What the start of a claim of the second form gives a walk: acts with their bulk; a start that fits. -/
import Derived.Test.YtcfdglknagbbgaaDoorD4
set_option linter.unusedVariables false
set_option linter.unusedSimpArgs false
set_option maxRecDepth 100000
namespace Go.SK
open Go Go.ChangeShapes Go.WideShapes Go.RowKit Go.Deep Go.Proofs
section
variable {H : Type} {enc : TypeId × Value → H} {W : World} {d : DataW H} {p : List MemPlace} {v : Value}
theorem weights_in {P : Program} {t : TypeId} : ∀ (l : List (DataW H)) (x : DataW H), x ∈ l → ∀ n ∈ x.weights P t, n ∈ DataW.weightsAll P t l := by
  intro l
  induction l with
  | nil => intro x hx; cases hx
  | cons y l ih =>
    intro x hx n hn
    simp only [DataW.weightsAll, List.mem_append]
    rcases List.mem_cons.1 hx with rfl | hx
    · exact .inl hn
    · exact .inr (ih x hx n hn)
theorem sum_one : ∀ (l : List DoE), (l.map fun d => bsum d.e).sum + l.length = (l.map fun d => bsum d.e + 1).sum
  | [] => rfl
  | d :: r => by have := sum_one r; simp only [List.map_cons, List.sum_cons, List.length_cons]; omega
theorem open_dosB {r : Reach} {b0 : Nat} (hv : Value.okWide Tryd.prog W r b0 22 v) (h : DataW.Trod enc Tryd.prog W 0 (fun _ => true) true 22 v d p) (hw : ∀ n ∈ d.weights Tryd.prog 22, n ≤ reachBytes) :
    ∃ l : List DoE, RdRow W v 3 l.length (encs l) ∧ (∀ q ∈ l, EditIn W q.v q.e) ∧ dsum l + l.length ≤ Go.Proofs.YtcfdglknagbbgaaDoor.Rows.uptoBulk d := by
  obtain ⟨A, len, cap, rfl⟩ := okWide_slice un_sl_sealskinlaw17_Do hv
  obtain ⟨fuel, hf⟩ := h
  have hC : Tryd.prog.cellsOf 26 = 3 := by kernel_rfl
  have hu : ∃ f1 f2 f3, Tryd.prog.underlying 26 = some (.struct #[f1, f2, f3]) ∧ f1.type = 3 ∧ f2.type = 3 ∧ f3.type = 23 ∧ f1.offset = 0 ∧ f2.offset = 1 ∧ f3.offset = 2 := ⟨⟨"Op", 3, 0, false, "", "", 0⟩, ⟨"N", 3, 1, false, "", "", 8⟩, ⟨"E", 23, 2, false, "", "", 16⟩, by kernel_rfl, rfl, rfl, rfl, rfl, rfl, rfl⟩
  rcases open_slice un_sl_sealskinlaw17_Do hf with ⟨hcs, hx⟩ | ⟨a, len', cap', m, n, D, Pl, hcs, h0, hl, hm, hmm, hx, hi⟩
  · simp [Value.cells] at hcs
    obtain ⟨rfl, rfl, rfl⟩ := hcs
    exact ⟨[], ⟨rfl, none, 0, rfl, Nat.le_refl _, Nat.zero_le _, fun h => by simp at h, fun ad h => by cases h⟩, by simp, Nat.zero_le _⟩
  · simp [Value.cells] at hcs
    obtain ⟨rfl, rfl, rfl⟩ := hcs
    simp only [if_true] at hmm
    subst hmm
    obtain ⟨rfl, rfl⟩ : d = .slice ((List.range len).map D) ((List.range (m - len)).map fun j => D (len + j)) ∧ p = _ := by simpa using hx
    obtain ⟨f1, f2, f3, hst, t1, t2, t3, o1, o2, o3⟩ := hu
    rw [hC] at hi
    have hw1 : ∀ i, i < len → ∀ n ∈ (D i).weights Tryd.prog 26, n ≤ reachBytes := fun i hil n hn => by
      refine hw n ?_
      have hu2 : Tryd.prog.underlying 22 = some (.slice 26) := un_sl_sealskinlaw17_Do
      simp only [DataW.weights, hu2, List.mem_cons, List.mem_append]
      exact .inr (.inl (weights_in _ _ (List.mem_map.2 ⟨i, List.mem_range.2 hil, rfl⟩) n hn))
    have key : ∀ i, i < len → ∃ q : DoE, (∀ j u, [Value.int .i64 q.op, .int .i64 q.n, q.v][j]? = some u → W.cell? (a.add (i * 3 + j)) = some u) ∧ EditIn W q.v q.e ∧ bsum q.e + 1 ≤ Go.Proofs.YtcfdglknagbbgaaDoor.Rows.uptoBulk (D i) := fun i hil => by
      obtain ⟨cs', hc, ht'⟩ := hi i (by omega)
      obtain ⟨ys, n', hn', hy, hlen, hyl, hfd⟩ := DataW.trod_struct hst ht'
      obtain ⟨_, hcl, hat⟩ := World.cells?_some hc
      rw [hC] at hlen
      have k3 : Tryd.prog.cellsOf 3 = 1 := by kernel_rfl
      have k9 : Tryd.prog.cellsOf 23 = 1 := by kernel_rfl
      have g1 := hfd 0 f1 rfl; have g2 := hfd 1 f2 rfl; have g3 := hfd 2 f3 rfl
      rw [t1, o1, k3] at g1; rw [t2, o2, k3] at g2; rw [t3, o3, k9] at g3
      match cs', hlen, ys, hyl with
      | [c0, c1, c2], _, [y0, y1, y2], _ =>
        simp only [List.drop_zero, List.drop_succ_cons, List.take_succ_cons, List.take_zero, List.getElem?_cons_zero, List.getElem?_cons_succ] at g1 g2 g3
        obtain ⟨k, e1, e2, _⟩ := DataW.trod_int un_int g1
        obtain ⟨nn, e3, e4, _⟩ := DataW.trod_int un_int g2
        simp only [List.cons.injEq, and_true] at e1 e3
        subst e1 e3
        have hD : D i = .agg [y0.1, y1.1, y2.1] := by have := congrArg (·.1) hy; simpa using this
        obtain ⟨e, he, hbe⟩ := open_editB (d := y2.1) (p := y2.2) g3 (fun n hn => hw1 i hil n (by
          rw [hD]
          have hst' := hst
          simp only [DataW.weights, hst', DataW.weightsEach, List.map_cons, List.map_nil, List.mem_append]
          simp [DataW.weightsEach, t3, hn]))
        refine ⟨⟨k, nn, c2, e, he.rd.one⟩, fun j u hj => ?_, he, by rw [hD]; simp only [Go.Proofs.YtcfdglknagbbgaaDoor.Rows.uptoBulk, Go.Proofs.YtcfdglknagbbgaaDoor.Rows.uptoBulkAll]; omega⟩
        have hj3 : j < 3 := (List.getElem?_eq_some_iff.1 hj).1
        have := hat j (by omega)
        rw [add_of_add] at this
        rw [this]; exact hj
    obtain ⟨l, he, hq⟩ := pick_list len key
    have hbulk : dsum l + l.length ≤ Go.Proofs.YtcfdglknagbbgaaDoor.Rows.uptoBulk (DataW.slice ((List.range len).map D) ((List.range (m - len)).map fun j => D (len + j))) := by
      have h1 := bulk_map (fun d : DoE => bsum d.e + 1) l ((List.range len).map D) (by simp [he]) (fun i hil => by
        rw [getD_range (by omega)]; exact (hq i (by omega)).2.2)
      rw [dsum_map, sum_one]
      simp only [Go.Proofs.YtcfdglknagbbgaaDoor.Rows.uptoBulk]
      omega
    refine ⟨l, ⟨encs_length l, some a, m, by rw [he], by omega, hm, fun _ => ⟨a, rfl⟩, fun ad had j u hj => ?_⟩, fun q hqm => ?_, hbulk⟩
    · cases had
      have hjl : j < (encs l).length := (List.getElem?_eq_some_iff.1 hj).1
      rw [encs_length, he, show Enc.sz DoE = 3 from rfl] at hjl
      have hdm : j = j / 3 * 3 + j % 3 := by omega
      have hlt : j / 3 < len := by omega
      rw [hdm] at hj ⊢
      rw [show (encs l)[j / 3 * 3 + j % 3]? = (Enc.enc (l.getD (j / 3) default))[j % 3]? from encs_get l (j / 3) (j % 3) (by omega) (Nat.mod_lt _ (by omega))] at hj
      exact (hq (j / 3) hlt).1 (j % 3) u hj
    · obtain ⟨i, hil, rfl⟩ := List.mem_iff_getElem.1 hqm
      have h1 := (hq i (by omega)).2.1
      rw [List.getD_eq_getElem?_getD, List.getElem?_eq_getElem hil] at h1
      exact h1
/-- 'There is an input that fits', at a world that is written out. -/
theorem row_witness {C : Checked} {os : Os} {f : FuncId} {fn : Func} {s : OpenSpec} {conds : List PathCond} {apart : Bool} {laid : List (String × DataW Unit)} (w0 : World) (args : Array Value) (hos : w0.os = os)
    (hsh : (w0.forCall (fun _ _ => 0) ⟨#[], args, []⟩).Shaped C.prog)
    (hok : Input.okWideB C.prog (w0.forCall (fun _ _ => 0) ⟨#[], args, []⟩) f ⟨#[], args, []⟩ = true)
    (hrow : s.preRow enc C.prog fn conds apart laid (w0.forCall (fun _ _ => 0) ⟨#[], args, []⟩).memory args) :
    ∃ (w : World) (tape : Tape) (i : Input), w.os = os ∧ (w.forCall tape i).Shaped C.prog ∧ i.vars = [] ∧ Input.okWide C.prog (w.forCall tape i) .any w.heap.size f i ∧
      s.preRow enc C.prog fn conds apart laid (w.forCall tape i).memory i.args ∧ ({} : Assume).holds C.prog (lone (Frame.enter C.prog f i.args .normal) [] (w.forCall tape i)) :=
  ⟨w0, fun _ _ => 0, ⟨#[], args, []⟩, hos, hsh, (Input.okWide_of_okWideB (base := 0) hok).1, (Input.okWide_of_okWideB hok).2, hrow, by
    simp only [Assume.holds]
    exact ⟨by simp, by simp, fun _ => Modest.zero, by simp, by simp⟩⟩
end
end Go.SK
