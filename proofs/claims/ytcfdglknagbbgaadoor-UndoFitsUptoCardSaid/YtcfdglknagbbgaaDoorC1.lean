/- What the end of a law owes: it answered true, and below the old heap nothing has turned. -/
import Derived.Test.YtcfdglknagbbgaaDoorC0
set_option linter.unusedVariables false
set_option linter.unusedSimpArgs false
set_option maxRecDepth 100000
namespace Go.SK
open Go Go.ChangeShapes Go.WideShapes Go.RowKit Go.Deep Go.Proofs
section
variable {H : Type} {enc : TypeId × Value → H}
theorem all_stays {P : Program} (hl : laidOutB P = true) {W W' : World} {sp : Nat → Bool} (hb : Below W.heap.size W W') : ∀ (ts : List TypeId) (vs : List Value) (ds : List (DataW H)) (p : List MemPlace),
    (ts.all fun t => P.readableRec t && decide (t < P.types.size)) = true → DataW.TrodAll enc P W 0 (fun _ => true) true ts vs ds p → (∀ x ∈ p, x.block < W.heap.size) → (∀ x ∈ p, sp x.block = true) → DataW.TrodAll enc P W' 0 sp true ts vs ds p
  | [], [], [], p, _, h, _, _ => h
  | t :: ts, v :: vs, d :: ds, p, hr, h, hlt, hs => by
    obtain ⟨p1, p2, h1, h2, rfl⟩ := h
    simp only [List.all_cons, Bool.and_eq_true, decide_eq_true_eq] at hr
    exact ⟨p1, p2, WideElems.Trod_stays hl hr.1.1 hr.1.2 h1 (fun x hx => hb.same (hlt x (List.mem_append_left _ hx))) (fun x hx => hs x (List.mem_append_left _ hx)),
      all_stays hl hb ts vs ds p2 hr.2 h2 (fun x hx => hlt x (List.mem_append_right _ hx)) (fun x hx => hs x (List.mem_append_right _ hx)), rfl⟩
  | [], _ :: _, _, _, _, h, _, _ => by cases h
  | [], [], _ :: _, _, _, h, _, _ => by cases h
  | _ :: _, [], _, _, _, h, _, _ => by cases h
  | _ :: _, _ :: _, [], _, _, h, _, _ => by cases h
theorem law_post {f : Func} {s : ChangeSpec} {apart fresh handsOn again : Bool} {W W' : World} {args : Array Value} {ds gs : List (DataW H)} {before : List MemPlace}
    (hW : DataW.Whole enc Tryd.prog f.params.toList s.vars apart W args.toList ds gs before) (hv : s.vars = []) (hr : f.resultTypes = #[4]) (hp : (f.params.toList.all fun t => Tryd.prog.readableRec t && decide (t < Tryd.prog.types.size)) = true)
    (hfn : s.fn H ds = { results := [.lit (.bool true)], args := ds }) (hk : Kp NoB W W') : s.post enc Tryd.prog f apart fresh handsOn again W args (.bool true) W' := by
  have hb := hk.below
  have hlt : ∀ p ∈ before, p.block < W.heap.size := fun p hp => hW.lt p hp
  have hold : ∀ p ∈ before, (fun b => decide (b < W.heap.size)) p.block = true := fun p hp => by simpa using hlt p hp
  have hW0 := hW
  obtain ⟨pa, pv, hA, hV, rfl, hz, hn⟩ := hW
  rw [hv] at hV
  obtain ⟨rfl, rfl⟩ := trodVars_none hV
  have hres : ∀ (b : Nat) (sp : Nat → Bool) (hd : Bool), DataW.TrodAll enc Tryd.prog W' b sp hd [4] [.bool true] [.lit (.bool true)] [] := fun _ _ _ => trodAll_mk1 (shut_bool un_bool true)
  have hlist : (Value.bool true).resultList f.resultTypes.size = [.bool true] := by rw [hr]; rfl
  have hargs := fun (sp : Nat → Bool) (h : ∀ p ∈ pa ++ [], sp p.block = true) => all_stays (enc := enc) (sp := sp) laidOut hb f.params.toList args.toList ds pa hp hA (fun x hx => hlt x (List.mem_append_left _ hx)) (fun x hx => h x (List.mem_append_left _ hx))
  have hvars : ∀ sp : Nat → Bool, DataW.TrodVars enc Tryd.prog W' sp s.vars [] [] := fun sp => by rw [hv]; rfl
  refine ⟨ds, [], pa ++ [], [], pa, [], hW0, ?_, ?_, ?_, World.keptBut_mono (fun p hp => ⟨hp, ?_⟩) (hb.frame (· ∈ pa ++ [])), fun _ => ?_⟩
  · rw [List.append_nil, hfn, hlist, hr]; exact hres _ _ _
  · rw [List.append_nil, hfn]; exact hargs _ hold
  · rw [List.append_nil, hfn]; exact hvars _
  · exact .inr (List.mem_append.1 hp)
  · refine ⟨?_, _, _, ([] ++ pa) ++ [], ⟨[] ++ pa, [], trodAll_append (hargs _ (fun _ _ => rfl)) (by rw [hlist, hr]; exact hres _ _ _), by have := hvars (fun _ => true); exact this, rfl, ?_, ?_⟩, ?_⟩
    · rw [hr]
      intro j t r hj hv'
      rcases j with _ | j
      · simp [Value.resultList] at hj hv'
        subst hj; subst hv'
        exact okWide_bool_mk un_bool _
      · simp at hj
    · intro b off hp'
      have hin : MemPlace.cell b off ∈ pa ++ [] := by simpa using hp'
      rw [hb.frozen (hlt _ hin)]
      exact hz b off hin
    · intro ha
      have := hn ha
      simpa using this
    · intro p hp' _
      simpa using hp'
/-- An argument at a time. -/
theorem trod_cons {W : World} {t : TypeId} {ts : List TypeId} {vs : List Value} {ds : List (DataW H)} {p : List MemPlace} (h : DataW.TrodAll enc Tryd.prog W 0 (fun _ => true) true (t :: ts) vs ds p) :
    ∃ v vs' d ds' p1 p2, vs = v :: vs' ∧ ds = d :: ds' ∧ DataW.Trod enc Tryd.prog W 0 (fun _ => true) true t v d p1 ∧ DataW.TrodAll enc Tryd.prog W 0 (fun _ => true) true ts vs' ds' p2 := by
  cases vs with
  | nil => cases h
  | cons v vs =>
    cases ds with
    | nil => cases h
    | cons d ds =>
      obtain ⟨p1, p2, h1, h2, _⟩ := h
      exact ⟨v, vs, d, ds, p1, p2, rfl, rfl, h1, h2⟩
theorem trod_end {W : World} {vs : List Value} {ds : List (DataW H)} {p : List MemPlace} (h : DataW.TrodAll enc Tryd.prog W 0 (fun _ => true) true [] vs ds p) : vs = [] ∧ ds = [] := by
  cases vs with
  | nil => cases ds with
    | nil => exact ⟨rfl, rfl⟩
    | cons _ _ => cases h
  | cons _ _ => cases h
theorem weighs {ts : List TypeId} {ds : List (DataW H)} (h : (DataW.weightsEach Tryd.prog ts ds).all (· ≤ reachBytes) = true) {j : Nat} {t : TypeId} {d : DataW H} (ht : ts[j]? = some t) (hd : ds[j]? = some d) : ∀ n ∈ d.weights Tryd.prog t, n ≤ reachBytes := fun n hn => by
  have := List.all_eq_true.1 h n (DataW.weights_mem_each ht hd n hn)
  simpa using this
theorem weigh_string {s : ByteArray} (h : ∀ n ∈ (DataW.lit (.string s.data.toList) : DataW H).weights Tryd.prog 9, n ≤ reachBytes) : s.size ≤ 140737488351232 := by
  have h1 := h s.data.toList.length (by simp [DataW.weights])
  rw [size_len] at h1
  have : reachBytes = 140737488351232 := by decide
  omega
end
end Go.SK
