/- Walks: layer 10, what two texts make together; the laws' helpers. -/
import Derived.Test.YtnleenjmnndphaaDoorE30
set_option linter.unusedVariables false
set_option linter.unusedSimpArgs false
set_option maxRecDepth 100000
namespace Go.SK
open Go Go.RowKit Go.Proofs
variable {S : Nat → Prop} {w0 : World} {F L : List Res}
theorem merge_x (base a b : ByteArray) (h0 : base.size ≤ 70368744177664) (h1 : a.size ≤ 70368744177664) (h2 : b.size ≤ 70368744177664) (hT : tabs ∈ L) :
    CallX Tryd.prog 22 [.string base, .string a, .string b] S w0 (L) (fun u L' => u = .tuple #[.string (mergeF base a b), .int .i64 (mergeE base a b)] ∧ L' = L) := by
  intro w hp
  have hl1 := diffF_len base a
  have hl2 := diffF_len base b
  have hl3 := trF_len (diffF base a) (diffF base b)
  refine calls_start Tryd.func22 rfl rfl rfl (hp) ?_
  refine TC.seq ?_
  refine TC.region ?_   -- region 0 diff.go:116
  refine TL.opP rfl (op_assign rfl) ?_
  refine TL.opP rfl (op_assign rfl) ?_
  refine TL.nil ?_
  refine TQ.then ?_
  refine TC.seq ?_
  refine TC.region ?_   -- region 1 diff.go:117
  refine TL.opP rfl (op_move rfl) ?_
  refine TL.opP rfl (op_move rfl) ?_
  refine TL.opX rfl (OpX.callX en_19 rfl (diff_x base a (by omega) (by omega) hT)) ?_; rintro _ _ ⟨w1, rfl, rfl⟩
  refine TL.opP rfl (op_move rfl) ?_
  refine TL.opP rfl (op_extract rfl rfl) ?_
  refine TL.opP rfl (op_extract rfl rfl) ?_
  refine TL.opP rfl (op_assign rfl) ?_
  refine TL.opP rfl (op_assign rfl) ?_
  refine TL.nil ?_
  refine TQ.then ?_
  refine TC.seq ?_
  refine TC.seq ?_
  refine TC.region ?_   -- region 2 diff.go:118
  refine TL.opP rfl (op_move rfl) ?_
  refine TL.opP rfl (op_neq rfl rfl) ?_
  refine TL.nil ?_
  refine TQ.then ?_
  first | refine TC.condD rfl (fun c1 => ?_) (fun c1 => ?_) | refine TC.condB rfl (fun c1 => ?_) (fun c1 => ?_)
  · refine TC.seq ?_
    refine TC.region ?_   -- region 3 diff.go:119
    refine TL.opP rfl (op_move rfl) ?_
    refine TL.opP rfl (op_assign rfl) ?_
    refine TL.opP rfl (op_assign rfl) ?_
    refine TL.nil ?_
    refine TQ.then ?_
    refine TC.ret ?_
    refine TQ.then_ret ?_
    refine ret2 rfl rfl rfl (fun w' hp => ?_)
    first
      | exact ⟨_, _, rfl, ⟨by unfold mergeE mergeF; rw [if_pos (show ck2 base a ≠ 0 from c1), if_pos (show ck2 base a ≠ 0 from c1)]; rfl, rfl⟩, (hp.tail)⟩
      | exact ⟨_, _, rfl, ⟨by unfold mergeE mergeF; rw [if_neg (show ¬ ck2 base a ≠ 0 from c1), if_neg (show ¬ ck2 base a ≠ 0 from c1), if_pos (show ck2 base b ≠ 0 from c2), if_pos (show ck2 base b ≠ 0 from c2)]; rfl, rfl⟩, (hp.tail)⟩
      | exact ⟨_, _, rfl, ⟨by unfold mergeE mergeF; rw [if_neg (show ¬ ck2 base a ≠ 0 from c1), if_neg (show ¬ ck2 base a ≠ 0 from c1), if_neg (show ¬ ck2 base b ≠ 0 from c2), if_neg (show ¬ ck2 base b ≠ 0 from c2), if_pos c3, if_pos c3]; rfl, rfl⟩, (hp.tail)⟩
      | exact ⟨_, _, rfl, ⟨by unfold mergeE mergeF; rw [if_neg (show ¬ ck2 base a ≠ 0 from c1), if_neg (show ¬ ck2 base a ≠ 0 from c1), if_neg (show ¬ ck2 base b ≠ 0 from c2), if_neg (show ¬ ck2 base b ≠ 0 from c2), if_neg c3, if_neg c3]; rfl, rfl⟩, (hp.tail)⟩
  · refine TC.skip ?_
    refine TQ.then ?_
    refine TC.seq ?_
    refine TC.region ?_   -- region 4 diff.go:121
    refine TL.opP rfl (op_move rfl) ?_
    refine TL.opP rfl (op_move rfl) ?_
    refine TL.opX rfl (OpX.callX en_19 rfl (diff_x base b (by omega) (by omega) (.tail _ hT))) ?_; rintro _ _ ⟨w2, rfl, rfl⟩
    refine TL.opP rfl (op_move rfl) ?_
    refine TL.opP rfl (op_extract rfl rfl) ?_
    refine TL.opP rfl (op_extract rfl rfl) ?_
    refine TL.opP rfl (op_assign rfl) ?_
    refine TL.opP rfl (op_assign rfl) ?_
    refine TL.nil ?_
    refine TQ.then ?_
    refine TC.seq ?_
    refine TC.seq ?_
    refine TC.region ?_   -- region 5 diff.go:122
    refine TL.opP rfl (op_move rfl) ?_
    refine TL.opP rfl (op_neq rfl rfl) ?_
    refine TL.nil ?_
    refine TQ.then ?_
    first | refine TC.condD rfl (fun c2 => ?_) (fun c2 => ?_) | refine TC.condB rfl (fun c2 => ?_) (fun c2 => ?_)
    · refine TC.seq ?_
      refine TC.region ?_   -- region 6 diff.go:123
      refine TL.opP rfl (op_move rfl) ?_
      refine TL.opP rfl (op_assign rfl) ?_
      refine TL.opP rfl (op_assign rfl) ?_
      refine TL.nil ?_
      refine TQ.then ?_
      refine TC.ret ?_
      refine TQ.then_ret ?_
      refine ret2 rfl rfl rfl (fun w' hp => ?_)
      first
        | exact ⟨_, _, rfl, ⟨by unfold mergeE mergeF; rw [if_pos (show ck2 base a ≠ 0 from c1), if_pos (show ck2 base a ≠ 0 from c1)]; rfl, rfl⟩, (hp.drop1.tail)⟩
        | exact ⟨_, _, rfl, ⟨by unfold mergeE mergeF; rw [if_neg (show ¬ ck2 base a ≠ 0 from c1), if_neg (show ¬ ck2 base a ≠ 0 from c1), if_pos (show ck2 base b ≠ 0 from c2), if_pos (show ck2 base b ≠ 0 from c2)]; rfl, rfl⟩, (hp.drop1.tail)⟩
        | exact ⟨_, _, rfl, ⟨by unfold mergeE mergeF; rw [if_neg (show ¬ ck2 base a ≠ 0 from c1), if_neg (show ¬ ck2 base a ≠ 0 from c1), if_neg (show ¬ ck2 base b ≠ 0 from c2), if_neg (show ¬ ck2 base b ≠ 0 from c2), if_pos c3, if_pos c3]; rfl, rfl⟩, (hp.drop1.tail)⟩
        | exact ⟨_, _, rfl, ⟨by unfold mergeE mergeF; rw [if_neg (show ¬ ck2 base a ≠ 0 from c1), if_neg (show ¬ ck2 base a ≠ 0 from c1), if_neg (show ¬ ck2 base b ≠ 0 from c2), if_neg (show ¬ ck2 base b ≠ 0 from c2), if_neg c3, if_neg c3]; rfl, rfl⟩, (hp.drop1.tail)⟩
    · refine TC.skip ?_
      refine TQ.then ?_
      refine TC.seq ?_
      refine TC.region ?_   -- region 7 diff.go:125
      refine TL.opP rfl (op_move rfl) ?_
      refine TL.opP rfl (op_move rfl) ?_
      refine TL.opX rfl (OpX.callX en_41 rfl (transform_x (diffF base a) (diffF base b) _ _ (diffF_small base a) (diffF_small base b) (by omega) (by omega) (.tail _ (.tail _ hT)) rw1 rw0)) ?_; rintro _ _ ⟨v13, v23, rfl, rfl⟩
      refine TL.opP rfl (op_move rfl) ?_
      refine TL.opP rfl (op_extract rfl rfl) ?_
      refine TL.opP rfl (op_extract rfl rfl) ?_
      refine TL.opP rfl (op_extract rfl rfl) ?_
      refine TL.opP rfl (op_assign rfl) ?_
      refine TL.opP rfl (op_assign rfl) ?_
      refine TL.opP rfl (op_assign rfl) ?_
      refine TL.nil ?_
      refine TQ.then ?_
      refine TC.seq ?_
      refine TC.seq ?_
      refine TC.region ?_   -- region 8 diff.go:126
      refine TL.opP rfl (op_move rfl) ?_
      refine TL.opP rfl (op_neq rfl rfl) ?_
      refine TL.nil ?_
      refine TQ.then ?_
      first | refine TC.condD rfl (fun c3 => ?_) (fun c3 => ?_) | refine TC.condB rfl (fun c3 => ?_) (fun c3 => ?_)
      · refine TC.seq ?_
        refine TC.region ?_   -- region 9 diff.go:127
        refine TL.opP rfl (op_move rfl) ?_
        refine TL.opP rfl (op_assign rfl) ?_
        refine TL.opP rfl (op_assign rfl) ?_
        refine TL.nil ?_
        refine TQ.then ?_
        refine TC.ret ?_
        refine TQ.then_ret ?_
        refine ret2 rfl rfl rfl (fun w' hp => ?_)
        first
          | exact ⟨_, _, rfl, ⟨by unfold mergeE mergeF; rw [if_pos (show ck2 base a ≠ 0 from c1), if_pos (show ck2 base a ≠ 0 from c1)]; rfl, rfl⟩, (hp.drop3.drop2.drop1.tail)⟩
          | exact ⟨_, _, rfl, ⟨by unfold mergeE mergeF; rw [if_neg (show ¬ ck2 base a ≠ 0 from c1), if_neg (show ¬ ck2 base a ≠ 0 from c1), if_pos (show ck2 base b ≠ 0 from c2), if_pos (show ck2 base b ≠ 0 from c2)]; rfl, rfl⟩, (hp.drop3.drop2.drop1.tail)⟩
          | exact ⟨_, _, rfl, ⟨by unfold mergeE mergeF; rw [if_neg (show ¬ ck2 base a ≠ 0 from c1), if_neg (show ¬ ck2 base a ≠ 0 from c1), if_neg (show ¬ ck2 base b ≠ 0 from c2), if_neg (show ¬ ck2 base b ≠ 0 from c2), if_pos c3, if_pos c3]; rfl, rfl⟩, (hp.drop3.drop2.drop1.tail)⟩
          | exact ⟨_, _, rfl, ⟨by unfold mergeE mergeF; rw [if_neg (show ¬ ck2 base a ≠ 0 from c1), if_neg (show ¬ ck2 base a ≠ 0 from c1), if_neg (show ¬ ck2 base b ≠ 0 from c2), if_neg (show ¬ ck2 base b ≠ 0 from c2), if_neg c3, if_neg c3]; rfl, rfl⟩, (hp.drop3.drop2.drop1.tail)⟩
      · refine TC.skip ?_
        refine TQ.then ?_
        refine TC.seq ?_
        refine TC.region ?_   -- region 10 diff.go:129
        refine TL.opP rfl (op_move rfl) ?_
        refine TL.opP rfl (op_move rfl) ?_
        refine TL.callq rfl en_24 rfl (fun w2 hp => apply_calls (trF2 (diffF base a) (diffF base b)) (a) _ (by omega) w2 (tabs_at hp (.tail _ (.tail _ (.tail _ (.tail _ hT))))) (small_of (trF_fits _ _).2) (rw1 _ _ _ hp)) ?_
        refine TL.opP rfl (op_extract rfl rfl) ?_
        refine TL.opP rfl (op_extract rfl rfl) ?_
        refine TL.opP rfl (op_assign rfl) ?_
        refine TL.opP rfl (op_assign rfl) ?_
        refine TL.nil ?_
        refine TQ.then ?_
        refine TC.ret ?_
        refine ret2 rfl rfl rfl (fun w' hp => ?_)
        first
          | exact ⟨_, _, rfl, ⟨by unfold mergeE mergeF; rw [if_pos (show ck2 base a ≠ 0 from c1), if_pos (show ck2 base a ≠ 0 from c1)]; rfl, rfl⟩, (hp.drop3.drop2.drop1.tail)⟩
          | exact ⟨_, _, rfl, ⟨by unfold mergeE mergeF; rw [if_neg (show ¬ ck2 base a ≠ 0 from c1), if_neg (show ¬ ck2 base a ≠ 0 from c1), if_pos (show ck2 base b ≠ 0 from c2), if_pos (show ck2 base b ≠ 0 from c2)]; rfl, rfl⟩, (hp.drop3.drop2.drop1.tail)⟩
          | exact ⟨_, _, rfl, ⟨by unfold mergeE mergeF; rw [if_neg (show ¬ ck2 base a ≠ 0 from c1), if_neg (show ¬ ck2 base a ≠ 0 from c1), if_neg (show ¬ ck2 base b ≠ 0 from c2), if_neg (show ¬ ck2 base b ≠ 0 from c2), if_pos c3, if_pos c3]; rfl, rfl⟩, (hp.drop3.drop2.drop1.tail)⟩
          | exact ⟨_, _, rfl, ⟨by unfold mergeE mergeF; rw [if_neg (show ¬ ck2 base a ≠ 0 from c1), if_neg (show ¬ ck2 base a ≠ 0 from c1), if_neg (show ¬ ck2 base b ≠ 0 from c2), if_neg (show ¬ ck2 base b ≠ 0 from c2), if_neg c3, if_neg c3]; rfl, rfl⟩, (hp.drop3.drop2.drop1.tail)⟩

instance : Enc (Int × Int × Int) := ⟨3, fun t => [.int .i64 t.1, .int .i64 t.2.1, .int .i64 t.2.2], fun _ => rfl, by
  intro p u hu
  simp only [List.mem_cons, List.not_mem_nil, or_false] at hu
  rcases hu with rfl | rfl | rfl <;> rfl⟩
theorem bs_diff_stretch_1 (t : Str) : ∀ w : World, (Instr.buildSlice 102 1 #[(0, .agg #[.int .i64 t.1, .int .i64 t.2.1, .int .i64 t.2.2])]).run Tryd.prog w = .ok (.slice (some ⟨w.heap.size, 0, none⟩) 1 1) (w.alloc (.cells (encs [t]).toArray 105 (0, 0))) := by
  intro w; kernel_rfl
theorem row_lenS {v : Value} {e m : Nat} {l : List Str} {w : World} (h : Hp S w0 w (.row v e 3 m (encs l) :: L)) : Hp S w0 w (.row v e 3 l.length (encs l) :: L) := by
  have h1 : w.ownsRow 0 e 3 v m (encs l) := h.at_ _ (.head _)
  have h2 : l.length = m := by
    have := h1.1; have h3 : (encs l).length = l.length * 3 := encs_length l
    omega
  rw [h2]; exact h
theorem stS {k i : Nat} (A : List Str) (t : Str) (n : Int) (hk : k = i * 3 + 1) (hi : A.length = i := by rfl) : (encs (A ++ [t])).take k ++ [.int .i64 n] ++ (encs (A ++ [t])).drop (k + 1) = encs (setLast (A ++ [t]) n) := by
  subst hi; subst hk
  have h1 : (encs A).length = A.length * 3 := encs_length A
  have e1 : setLast (A ++ [t]) n = A ++ [(t.1, n, t.2.2)] := by unfold setLast; simp
  rw [e1, encs_append, encs_append, ← h1]
  have hd : (encs A).drop ((encs A).length + 1 + 1) = [] := List.drop_eq_nil_of_le (by omega)
  rw [List.take_append, List.take_of_length_le (by omega), List.drop_append, hd]
  rw [show (encs A).length + 1 - (encs A).length = 1 by omega, show (encs A).length + 1 + 1 - (encs A).length = 2 by omega]
  simp [encs, Enc.enc]
/-- Going over an edit's stretches. -/
structure SI (e : List Part) (k : Nat) (at' : Int) (out : List Str) : Prop where
  kle : k ≤ e.length
  go : strGo (e.drop k) (decide (prevAt e k = some 2)) at' out = strF e
  a0 : 0 ≤ at'
  a1 : at' ≤ k * 1099511627776
  len : out.length ≤ k
  ne : prevAt e k = some 2 → ∃ A t, out = A ++ [t]
theorem SI.start (e : List Part) : SI e 0 0 [] := ⟨Nat.zero_le _, rfl, by omega, by omega, Nat.le_refl _, fun h => by simp [prevAt] at h⟩
section
variable {e : List Part} {k : Nat} {at' : Int} {out : List Str} {p : Part}
theorem prev_next (hp : e.getD k default = p) : prevAt e (k + 1) = some p.kind := by unfold prevAt; rw [if_neg (by omega), Nat.add_sub_cancel, hp]
theorem prev_is {j : Int} (hk : 0 < k) (h : (e.getD (k - 1) default).kind = j) : prevAt e k = some j := by unfold prevAt; rw [if_neg (by omega), h]
theorem SI.keep (h : SI e k at' out) (hf : Fits e) (hk : k < e.length) (hp : e.getD k default = p) (h1 : p.kind = 1) : SI e (k + 1) (at' + p.n) out := by
  have hn := fitsB_n (hf p (by rw [← hp, List.getD_eq_getElem?_getD, List.getElem?_eq_getElem hk]; exact List.getElem_mem hk))
  have hg := h.go
  rw [drop_getD hk hp, strGo, if_pos h1] at hg
  have hh := h.a0; have hh1 := h.a1; have hl := h.len
  refine ⟨by omega, ?_, by omega, by push_cast; omega, by omega, fun hh => ?_⟩
  · rw [prev_next hp, h1]; exact hg
  · rw [prev_next hp, h1] at hh; exact absurd hh (by decide)
theorem SI.put (h : SI e k at' out) (hf : Fits e) (hk : k < e.length) (hp : e.getD k default = p) (h2 : p.kind = 2) : SI e (k + 1) at' (out ++ [(at', 0, p.n)]) := by
  have hg := h.go
  rw [drop_getD hk hp, strGo, if_neg (by omega), if_pos h2] at hg
  have hh := h.a0; have hh1 := h.a1; have hl := h.len
  refine ⟨by omega, ?_, hh, by push_cast; omega, by rw [List.length_append, List.length_singleton]; omega, fun _ => ⟨out, _, rfl⟩⟩
  rw [prev_next hp, h2]; exact hg
theorem SI.last (h : SI e k at' out) (hf : Fits e) (hk : 0 < k) (h2 : (e.getD (k - 1) default).kind = 2) : ∃ A t, out = A ++ [t] := h.ne (by unfold prevAt; rw [if_neg (by omega), h2])
theorem SI.more (h : SI e k at' out) (hf : Fits e) (hk : k < e.length) (hp : e.getD k default = p) (h1 : ¬ p.kind = 1) (h2 : ¬ p.kind = 2) (hv : prevAt e k = some 2) : SI e (k + 1) (at' + p.n) (setLast out p.n) := by
  have hm : p ∈ e := by rw [← hp, List.getD_eq_getElem?_getD, List.getElem?_eq_getElem hk]; exact List.getElem_mem hk
  have hn := fitsB_n (hf p hm)
  have hk3 : p.kind = 3 := by rcases (fitU_of (hf p hm)).kinds with k | k | k <;> omega
  have hg := h.go
  rw [drop_getD hk hp, strGo, if_neg h1, if_neg h2, hv, if_pos (by decide)] at hg
  have hh := h.a0; have hh1 := h.a1; have hl := h.len
  obtain ⟨A, t, rfl⟩ := h.ne hv
  have e1 : (setLast (A ++ [t]) p.n).length = (A ++ [t]).length := by unfold setLast; simp
  refine ⟨by omega, ?_, by omega, by push_cast; omega, by omega, fun hh => ?_⟩
  · rw [prev_next hp, hk3]; exact hg
  · rw [prev_next hp, hk3] at hh; exact absurd hh (by decide)
theorem SI.drop (h : SI e k at' out) (hf : Fits e) (hk : k < e.length) (hp : e.getD k default = p) (h1 : ¬ p.kind = 1) (h2 : ¬ p.kind = 2) (hv : ¬ prevAt e k = some 2) : SI e (k + 1) (at' + p.n) (out ++ [(at', p.n, 0)]) := by
  have hm : p ∈ e := by rw [← hp, List.getD_eq_getElem?_getD, List.getElem?_eq_getElem hk]; exact List.getElem_mem hk
  have hn := fitsB_n (hf p hm)
  have hk3 : p.kind = 3 := by rcases (fitU_of (hf p hm)).kinds with k | k | k <;> omega
  have hg := h.go
  rw [drop_getD hk hp, strGo, if_neg h1, if_neg h2, if_neg (by simpa using hv)] at hg
  have hh := h.a0; have hh1 := h.a1; have hl := h.len
  refine ⟨by omega, ?_, by omega, by push_cast; omega, by rw [List.length_append, List.length_singleton]; omega, fun hh => ?_⟩
  · rw [prev_next hp, hk3]; exact hg
  · rw [prev_next hp, hk3] at hh; exact absurd hh (by decide)
theorem SI.stop (h : SI e k at' out) (hk : ¬ k < e.length) : out = strF e := by
  have hg := h.go
  rw [List.drop_eq_nil_of_le (by omega), strGo] at hg
  exact hg
end
theorem all_getD {ss : List ByteArray} {k : Nat} (h : ∀ j, j < k → (ss.getD j ⟨#[]⟩).size ≤ 200) (hk : ss.length ≤ k) : ∀ s ∈ ss, s.size ≤ 200 := fun s hs => by
  obtain ⟨j, hj, rfl⟩ := List.mem_iff_getElem.1 hs
  have := h j (by omega)
  rw [List.getD_eq_getElem?_getD, List.getElem?_eq_getElem hj] at this
  exact this
theorem dstr_x (e : List Part) (v : Value) (hf : Fits e) (hl : e.length ≤ 1048576) (hr : Rdb L v 3 e.length (encs e)) :
    CallX Tryd.prog 67 [v] S w0 (L) (fun u L' => ∃ v', u = v' ∧ L' = .row v' 105 3 (strF e).length (encs (strF e)) :: L) := by
  intro w hp
  refine calls_start Tryd.func67 rfl rfl rfl (hp) ?_
  refine TC.seq ?_
  refine TC.region ?_   -- region 0 diff.go:136
  refine TL.opP rfl (op_assign rfl) ?_
  refine TL.nil ?_
  refine TQ.then ?_
  refine TC.seq ?_
  refine TC.region ?_   -- region 1 diff.go:137
  refine TL.opP rfl (op_assign rfl) ?_
  refine TL.nil ?_
  refine TQ.then ?_
  refine TC.seq ?_
  refine TC.region ?_   -- region 2 diff.go:138
  refine TL.opP rfl (op_assign rfl) ?_
  refine TL.nil ?_
  refine TQ.then ?_
  refine TC.seq ?_
  refine TC.seq ?_
  refine TC.region ?_   -- region 3 diff.go:139
  refine TL.opP rfl (op_move rfl) ?_
  refine TL.opV rfl (op_lenV rfl un_sl_api_Part rfl hr) ?_
  refine TL.opP rfl (op_move rfl) ?_
  refine TL.nil ?_
  refine TQ.then ?_
  refine TC.block ?_
  refine TC.hp (fun _ h => new_nil 105 3 h) ?_
  refine TC.loop (ι := Nat × Int × List Str × Value) (fun (k, at', out, ov) => [(0, v), (3, ov), (4, .int .i64 at'), (7, v), (8, .int .i64 (e.length : Int)), (9, .int .i64 (k : Int))]) (fun (k, at', out, ov) => .row ov 105 3 (out).length (encs (out)) :: L) (fun (k, at', out, ov) => SI e k at' out) (fun (k, at', out, ov) => e.length - k) ((0, 0, [], .slice none 0 0)) ((SI.start e)) ⟨rfl, rfl, rfl, rfl, rfl, rfl, trivial⟩ (fun _ h => h) ?_
  rintro ⟨k, at', out, ov⟩ (hI : SI e k at' out)
  have hk := hI.kle
  have ha0 := hI.a0
  have ha1 := hI.a1
  have hol := hI.len
  show TC _ _ _ _ [(0, v), (3, ov), (4, .int .i64 at'), (7, v), (8, .int .i64 (e.length : Int)), (9, .int .i64 (k : Int))] _ _ (.row ov 105 3 (out).length (encs (out)) :: L)
  refine TC.seq ?_
  refine TC.region ?_   -- region 4 diff.go:139
  refine TL.opP rfl (op_lss rfl rfl) ?_
  refine TL.nil ?_
  refine TQ.then ?_
  refine TC.seq ?_
  first | refine TC.condD rfl (fun c1 => ?_) (fun c1 => ?_) | refine TC.condB rfl (fun c1 => ?_) (fun c1 => ?_)
  · have hkl : k < e.length := by omega
    obtain ⟨p, hpk⟩ : ∃ p, e.getD k default = p := ⟨_, rfl⟩
    have hd := drop_getD hkl hpk
    have hpe : p ∈ e := by rw [← hpk, List.getD_eq_getElem?_getD, List.getElem?_eq_getElem hkl]; exact List.getElem_mem hkl
    have hpn := fitsB_n (hf p hpe)
    refine TC.skip ?_
    refine TQ.then ?_
    refine TC.seq ?_
    refine TC.block ?_
    refine TC.seq ?_
    refine TC.region ?_   -- region 5 diff.go:139
    refine TL.opP rfl (op_move rfl) ?_
    refine TL.opV rfl (op_index tsl_api_Part rfl hr.cons rfl (by omega) (by omega)) ?_
    refine TL.opV rfl (op_loadRS tst_api_Part rfl hr.cons (cs := p.cs) rfl (lkS hkl hpk) (by decide)) ?_
    refine TL.opX rfl (OpX.alloc tz_api_Part rfl) ?_; rintro _ _ ⟨g6, rfl, rfl⟩
    refine TL.opP rfl (op_assign rfl) ?_
    refine TL.opX0 (OpX.storeS tst_api_Part rfl rfl rfl rfl rfl (List.all_eq_true.1 rfl)) ?_; rintro _ _ rfl
    refine TL.nil ?_
    refine TQ.then ?_
    refine TC.seq ?_
    refine TC.region ?_   -- region 6 diff.go:140
    refine TL.opP rfl (op_field fld_api_Part_Kind rfl) ?_
    refine TL.opV rfl (op_load ts_int rfl m0 rfl) ?_
    refine TL.nil ?_
    refine TQ.then ?_
    refine TC.block ?_
    refine TC.seq ?_
    refine TC.region ?_   -- region 11 diff.go:141
    refine TL.opP rfl (op_eql rfl rfl) ?_
    refine TL.opP rfl (op_assign rfl) ?_
    refine TL.nil ?_
    refine TQ.then ?_
    first | refine TC.condD rfl (fun c2 => ?_) (fun c2 => ?_) | refine TC.condB rfl (fun c2 => ?_) (fun c2 => ?_)
    · refine TC.region ?_   -- region 12 diff.go:142
      refine TL.opP rfl (op_move rfl) ?_
      refine TL.opP rfl (op_field fld_api_Part_N rfl) ?_
      refine TL.opV rfl (op_load ts_int rfl m0 rfl) ?_
      refine TL.opP rfl (op_add rfl rfl rfl (by omega) (by omega)) ?_
      refine TL.opP rfl (op_assign rfl) ?_
      refine TL.nil ?_
      refine TQ.block_normal ?_
      refine TQ.block_normal ?_
      refine TQ.then ?_
      refine TC.region ?_   -- region 15 diff.go:139
      refine TL.opP rfl (op_add rfl rfl rfl (by omega) (by omega)) ?_
      refine TL.opP rfl (op_move rfl) ?_
      refine TL.nil ?_
      exact TQ.round (k + 1, at' + p.n, out, ov) (hI.keep hf hkl hpk c2) (by show _ - (k + 1) < _ - k; omega) ⟨rfl, rfl, rfl, rfl, rfl, rfl, trivial⟩ (fun _ h => h.tail)
    · refine TC.seq ?_
      refine TC.region ?_   -- region 13 diff.go:143
      refine TL.opP rfl (op_eql rfl rfl) ?_
      refine TL.opP rfl (op_assign rfl) ?_
      refine TL.nil ?_
      refine TQ.then ?_
      first | refine TC.condD rfl (fun c3 => ?_) (fun c3 => ?_) | refine TC.condB rfl (fun c3 => ?_) (fun c3 => ?_)
      · refine TC.region ?_   -- region 14 diff.go:144
        refine TL.opP rfl (op_move rfl) ?_
        refine TL.opP rfl (op_move rfl) ?_
        refine TL.opP rfl (op_field fld_api_Part_N rfl) ?_
        refine TL.opV rfl (op_load ts_int rfl m0 rfl) ?_
        refine TL.opP rfl (op_build (ps := #[(0, _), (2, _)]) rfl (bl_diff_stretch_02 _ _)) ?_
        refine TL.opX rfl (OpX.buildSlice (ps := #[(0, _)]) rfl (bs_diff_stretch_1 (at', 0, p.n))) ?_; rintro _ _ ⟨g59, rfl, rfl⟩
        refine TL.hp (fun _ h => blk_row (k := 3) (m := 1) h rfl (by decide)) ?_
        refine TL.hp (fun _ h => h.pick2) ?_
        refine TL.opX rfl (OpX.append (bytes := 24) tsl_diff_stretch (by decide) (by decide) rfl rw1 (encs_one _) (by omega) (zs := encs (out ++ [(at', 0, p.n)])) (encs_append _ _).symm) ?_; rintro v1 _ rfl
        refine TL.know (fun _ h => row1 h) (fun o1 => ?_)
        refine TL.hp (fun _ h => row_lenS h) ?_
        refine TL.opP rfl (op_assign rfl) ?_
        refine TL.nil ?_
        refine TQ.block_normal ?_
        refine TQ.block_normal ?_
        refine TQ.then ?_
        refine TC.region ?_   -- region 15 diff.go:139
        refine TL.opP rfl (op_add rfl rfl rfl (by omega) (by omega)) ?_
        refine TL.opP rfl (op_move rfl) ?_
        refine TL.nil ?_
        exact TQ.round (k + 1, at', out ++ [(at', 0, p.n)], v1) (hI.put hf hkl hpk c3) (by show _ - (k + 1) < _ - k; omega) ⟨rfl, rfl, rfl, rfl, rfl, rfl, trivial⟩ (fun _ h => h.drop2.drop1)
      · refine TC.seq ?_
        refine TC.seq ?_
        refine TC.region ?_   -- region 7 diff.go:146
        refine TL.opP rfl (op_move rfl) ?_
        refine TL.opP rfl (op_gtr rfl rfl) ?_
        refine TL.opP rfl (op_move rfl) ?_
        first | refine TL.splitD (fun c4 => ?_) (fun c4 => ?_) | refine TL.splitB (fun c4 => ?_) (fun c4 => ?_)
        · refine TL.gT rfl rfl ?_
          refine TL.opP rfl (op_move rfl) ?_
          refine TL.gT rfl rfl ?_
          refine TL.opP rfl (op_move rfl) ?_
          refine TL.gT rfl rfl ?_
          refine TL.opP rfl (op_sub rfl rfl rfl (by omega) (by omega)) ?_
          refine TL.gT rfl rfl ?_
          refine TL.opV rfl (op_index tsl_api_Part rfl hr.cons.cons rfl (by omega) (by omega)) ?_
          refine TL.gT rfl rfl ?_
          refine TL.opP rfl (op_fieldA fld_api_Part_Kind rfl) ?_
          refine TL.gT rfl rfl ?_
          refine TL.opV rfl (op_loadR ts_int rfl hr.cons.cons (lkP 0 (i := k - 1) (by omega) rfl (by omega) (by decide) rfl)) ?_
          refine TL.gT rfl rfl ?_
          refine TL.opP rfl (op_eql rfl rfl) ?_
          refine TL.opP rfl (op_pickT rfl rfl) ?_
          refine TL.nil ?_
          refine TQ.then ?_
          first | refine TC.condD rfl (fun c5 => ?_) (fun c5 => ?_) | refine TC.condB rfl (fun c5 => ?_) (fun c5 => ?_)
          · obtain ⟨A, t, rfl⟩ := hI.last hf (by omega) c5
            have hAl : (A ++ [t]).length = A.length + 1 := by simp
            refine TC.region ?_   -- region 8 diff.go:147
            refine TL.opP rfl (op_move rfl) ?_
            refine TL.opP rfl (op_move rfl) ?_
            refine TL.opV rfl (op_lenV rfl un_sl_diff_stretch rfl rw1) ?_
            refine TL.opP rfl (op_sub rfl rfl rfl (by omega) (by omega)) ?_
            refine TL.opP rfl (op_field fld_api_Part_N rfl) ?_
            refine TL.opV rfl (op_load ts_int rfl m0 rfl) ?_
            refine TL.opV rfl (op_index tsl_diff_stretch rfl rw1 rfl (by omega) (by omega)) ?_
            refine TL.opP rfl (op_fieldA fld_diff_stretch_drop rfl) ?_
            refine TL.hp (fun _ h => h.pick1) ?_
            refine TL.opX0 (OpX.storeRow (k := 1) (fun w => by kernel_rfl) rfl rfl rfl (ys := [.int .i64 p.n]) rfl (by decide) (List.all_eq_true.1 rfl) (by omega) (stS (i := A.length) A t p.n (by omega))) ?_; rintro _ _ rfl
            refine TL.hp (fun _ h => row_lenS h) ?_
            refine TL.nil ?_
            refine TQ.then ?_
            refine TC.region ?_   -- region 10 diff.go:151
            refine TL.opP rfl (op_move rfl) ?_
            refine TL.opP rfl (op_field fld_api_Part_N rfl) ?_
            refine TL.opV rfl (op_load ts_int rfl m1 rfl) ?_
            refine TL.opP rfl (op_add rfl rfl rfl (by omega) (by omega)) ?_
            refine TL.opP rfl (op_assign rfl) ?_
            refine TL.nil ?_
            refine TQ.block_normal ?_
            refine TQ.block_normal ?_
            refine TQ.then ?_
            refine TC.region ?_   -- region 15 diff.go:139
            refine TL.opP rfl (op_add rfl rfl rfl (by omega) (by omega)) ?_
            refine TL.opP rfl (op_move rfl) ?_
            refine TL.nil ?_
            exact TQ.round (k + 1, at' + p.n, setLast (A ++ [t]) p.n, ov) (hI.more hf hkl hpk c2 c3 (prev_is (by omega) c5)) (by show _ - (k + 1) < _ - k; omega) ⟨rfl, rfl, rfl, rfl, rfl, rfl, trivial⟩ (fun _ h => h.drop1)
          · refine TC.region ?_   -- region 9 diff.go:149
            refine TL.opP rfl (op_move rfl) ?_
            refine TL.opP rfl (op_move rfl) ?_
            refine TL.opP rfl (op_field fld_api_Part_N rfl) ?_
            refine TL.opV rfl (op_load ts_int rfl m0 rfl) ?_
            refine TL.opP rfl (op_build (ps := #[(0, _), (1, _)]) rfl (bl_diff_stretch_01 _ _)) ?_
            refine TL.opX rfl (OpX.buildSlice (ps := #[(0, _)]) rfl (bs_diff_stretch_1 (at', p.n, 0))) ?_; rintro _ _ ⟨g40, rfl, rfl⟩
            refine TL.hp (fun _ h => blk_row (k := 3) (m := 1) h rfl (by decide)) ?_
            refine TL.hp (fun _ h => h.pick2) ?_
            refine TL.opX rfl (OpX.append (bytes := 24) tsl_diff_stretch (by decide) (by decide) rfl rw1 (encs_one _) (by omega) (zs := encs (out ++ [(at', p.n, 0)])) (encs_append _ _).symm) ?_; rintro v2 _ rfl
            refine TL.know (fun _ h => row1 h) (fun o2 => ?_)
            refine TL.hp (fun _ h => row_lenS h) ?_
            refine TL.opP rfl (op_assign rfl) ?_
            refine TL.nil ?_
            refine TQ.then ?_
            refine TC.region ?_   -- region 10 diff.go:151
            refine TL.opP rfl (op_move rfl) ?_
            refine TL.opP rfl (op_field fld_api_Part_N rfl) ?_
            refine TL.opV rfl (op_load ts_int rfl m2 rfl) ?_
            refine TL.opP rfl (op_add rfl rfl rfl (by omega) (by omega)) ?_
            refine TL.opP rfl (op_assign rfl) ?_
            refine TL.nil ?_
            refine TQ.block_normal ?_
            refine TQ.block_normal ?_
            refine TQ.then ?_
            refine TC.region ?_   -- region 15 diff.go:139
            refine TL.opP rfl (op_add rfl rfl rfl (by omega) (by omega)) ?_
            refine TL.opP rfl (op_move rfl) ?_
            refine TL.nil ?_
            exact TQ.round (k + 1, at' + p.n, out ++ [(at', p.n, 0)], v2) (hI.drop hf hkl hpk c2 c3 (by rw [prev_is (by omega) rfl]; intro h; injection h with h; exact c5 h)) (by show _ - (k + 1) < _ - k; omega) ⟨rfl, rfl, rfl, rfl, rfl, rfl, trivial⟩ (fun _ h => h.drop2.drop1)
        · refine TL.gFf rfl rfl rfl ?_
          refine TL.gFf rfl rfl rfl ?_
          refine TL.gFf rfl rfl rfl ?_
          refine TL.gFf rfl rfl rfl ?_
          refine TL.gFf rfl rfl rfl ?_
          refine TL.gFf rfl rfl rfl ?_
          refine TL.gFf rfl rfl rfl ?_
          refine TL.opP rfl (op_pickF rfl rfl) ?_
          refine TL.nil ?_
          refine TQ.then ?_
          refine TC.condF rfl ?_
          refine TC.region ?_   -- region 9 diff.go:149
          refine TL.opP rfl (op_move rfl) ?_
          refine TL.opP rfl (op_move rfl) ?_
          refine TL.opP rfl (op_field fld_api_Part_N rfl) ?_
          refine TL.opV rfl (op_load ts_int rfl m0 rfl) ?_
          refine TL.opP rfl (op_build (ps := #[(0, _), (1, _)]) rfl (bl_diff_stretch_01 _ _)) ?_
          refine TL.opX rfl (OpX.buildSlice (ps := #[(0, _)]) rfl (bs_diff_stretch_1 (at', p.n, 0))) ?_; rintro _ _ ⟨g40, rfl, rfl⟩
          refine TL.hp (fun _ h => blk_row (k := 3) (m := 1) h rfl (by decide)) ?_
          refine TL.hp (fun _ h => h.pick2) ?_
          refine TL.opX rfl (OpX.append (bytes := 24) tsl_diff_stretch (by decide) (by decide) rfl rw1 (encs_one _) (by omega) (zs := encs (out ++ [(at', p.n, 0)])) (encs_append _ _).symm) ?_; rintro v3 _ rfl
          refine TL.know (fun _ h => row1 h) (fun o3 => ?_)
          refine TL.hp (fun _ h => row_lenS h) ?_
          refine TL.opP rfl (op_assign rfl) ?_
          refine TL.nil ?_
          refine TQ.then ?_
          refine TC.region ?_   -- region 10 diff.go:151
          refine TL.opP rfl (op_move rfl) ?_
          refine TL.opP rfl (op_field fld_api_Part_N rfl) ?_
          refine TL.opV rfl (op_load ts_int rfl m2 rfl) ?_
          refine TL.opP rfl (op_add rfl rfl rfl (by omega) (by omega)) ?_
          refine TL.opP rfl (op_assign rfl) ?_
          refine TL.nil ?_
          refine TQ.block_normal ?_
          refine TQ.block_normal ?_
          refine TQ.then ?_
          refine TC.region ?_   -- region 15 diff.go:139
          refine TL.opP rfl (op_add rfl rfl rfl (by omega) (by omega)) ?_
          refine TL.opP rfl (op_move rfl) ?_
          refine TL.nil ?_
          exact TQ.round (k + 1, at' + p.n, out ++ [(at', p.n, 0)], v3) (hI.drop hf hkl hpk c2 c3 (by unfold prevAt; rw [if_pos (by omega)]; simp)) (by show _ - (k + 1) < _ - k; omega) ⟨rfl, rfl, rfl, rfl, rfl, rfl, trivial⟩ (fun _ h => h.drop2.drop1)
  · refine TC.exit ?_
    refine TQ.then_exit ?_
    refine TQ.loop_exit ?_
    refine TQ.block_hit ?_
    refine TQ.then ?_
    refine TC.seq ?_
    refine TC.region ?_   -- region 16 diff.go:154
    refine TL.opP rfl (op_move rfl) ?_
    refine TL.opP rfl (op_assign rfl) ?_
    refine TL.nil ?_
    refine TQ.then ?_
    refine TC.ret ?_
    refine ret1 rfl rfl (fun w' hp => ?_)
    exact ⟨_, _, rfl, ⟨_, rfl, by rw [hI.stop (by omega)]⟩, (hp)⟩

theorem long1_calls (s : ByteArray) (w : World) :
    Calls Tryd.prog 54 (List.toArray [.string s]) w fun e w' => e = .returned (.bool (decide (200 < s.size))) ∧ Kp NoB w w' := by
  refine calls_start Tryd.func54 rfl rfl rfl (Hp.init0 w) ?_
  refine TC.seq ?_
  refine TC.region ?_   -- region 0 law.go:20
  refine TL.opP rfl (op_assign rfl) ?_
  refine TL.nil ?_
  refine TQ.then ?_
  refine TC.seq ?_
  refine TC.region ?_   -- region 1 law.go:20
  refine TL.opP rfl (op_move rfl) ?_
  refine TL.opP rfl (op_slen rfl un_string rfl) ?_
  refine TL.opP rfl (op_gtr rfl rfl) ?_
  refine TL.opP rfl (op_assign rfl) ?_
  refine TL.nil ?_
  refine TQ.then ?_
  refine TC.ret ?_
  refine ret1 rfl rfl (fun w' hp => ?_)
  exact ⟨by congr 2; exact decide_eq_decide.2 (by omega), hp.kp⟩

theorem indexf_x (ss : List ByteArray) (v : Value) (hr : Rdb L v 1 ss.length (ss.map Value.string)) :
    CallX Tryd.prog 90 [v, .func (.func 54) #[] #[]] S w0 (L) (fun u L' => ∃ i : Int, u = .int .i64 i ∧ (i < 0 → ∀ s ∈ ss, s.size ≤ 200) ∧ L' = L) := by
  intro w hp
  have hlen := hr.lenLe hp
  refine calls_start Tryd.func90 rfl rfl rfl (hp) ?_
  refine TC.seq ?_
  refine TC.region ?_   -- region 0 slices.go:107
  refine TL.opP rfl (op_assign rfl) ?_
  refine TL.nil ?_
  refine TQ.then ?_
  refine TC.seq ?_
  refine TC.seq ?_
  refine TC.region ?_   -- region 1 slices.go:108
  refine TL.opP rfl (op_move rfl) ?_
  refine TL.opV rfl (op_lenV rfl un_sl_string rfl hr) ?_
  refine TL.opP rfl (op_move rfl) ?_
  refine TL.nil ?_
  refine TQ.then ?_
  refine TC.block ?_
  refine TC.loop (ι := Nat) (fun k => [(0, v), (1, .func (.func 54) #[] #[]), (6, v), (7, .int .i64 (ss.length : Int)), (8, .int .i64 (k : Int))]) (fun k => L) (fun k => k ≤ ss.length ∧ ∀ j, j < k → (ss.getD j ⟨#[]⟩).size ≤ 200) (fun k => ss.length - k) (0) (⟨Nat.zero_le _, fun j h => by omega⟩) ⟨rfl, rfl, rfl, rfl, rfl, trivial⟩ (fun _ h => h) ?_
  rintro k hI
  have hk := hI.1
  refine TC.seq ?_
  refine TC.region ?_   -- region 2 slices.go:108
  refine TL.opP rfl (op_lss rfl rfl) ?_
  refine TL.nil ?_
  refine TQ.then ?_
  refine TC.seq ?_
  first | refine TC.condD rfl (fun c1 => ?_) (fun c1 => ?_) | refine TC.condB rfl (fun c1 => ?_) (fun c1 => ?_)
  · refine TC.skip ?_
    refine TQ.then ?_
    refine TC.seq ?_
    refine TC.block ?_
    refine TC.seq ?_
    refine TC.region ?_   -- region 3 slices.go:108
    refine TL.opP rfl (op_move rfl) ?_
    refine TL.opP rfl (op_assign rfl) ?_
    refine TL.nil ?_
    refine TQ.then ?_
    refine TC.seq ?_
    refine TC.region ?_   -- region 4 slices.go:109
    refine TL.opP rfl (op_move rfl) ?_
    refine TL.opP rfl (op_move rfl) ?_
    refine TL.opP rfl (op_move rfl) ?_
    refine TL.opV rfl (op_index tsl_string rfl hr rfl (by omega) (by omega)) ?_
    refine TL.opV rfl (op_loadR ts_string rfl hr (lkM (i := k) (d := (⟨#[]⟩ : ByteArray)) (by omega) rfl (by omega))) ?_
    refine TL.opX rfl (OpX.callqV rfl en_54 rfl (fun w2 hp => long1_calls _ w2)) ?_; rintro _ _ ⟨rfl, rfl⟩
    refine TL.nil ?_
    refine TQ.then ?_
    first | refine TC.condD rfl (fun c2 => ?_) (fun c2 => ?_) | refine TC.condB rfl (fun c2 => ?_) (fun c2 => ?_)
    · refine TC.seq ?_
      refine TC.region ?_   -- region 5 slices.go:110
      refine TL.opP rfl (op_move rfl) ?_
      refine TL.opP rfl (op_assign rfl) ?_
      refine TL.nil ?_
      refine TQ.then ?_
      refine TC.ret ?_
      refine TQ.block_ret ?_
      refine TQ.then_ret ?_
      refine TQ.loop_ret ?_
      refine TQ.block_ret ?_
      refine TQ.then_ret ?_
      refine ret1 rfl rfl (fun w' hp => ?_)
      first
        | exact ⟨_, _, rfl, ⟨_, rfl, fun h => by omega, rfl⟩, (hp)⟩
        | exact ⟨_, _, rfl, ⟨_, rfl, fun _ => all_getD hI.2 (by omega), rfl⟩, (hp)⟩
    · refine TC.skip ?_
      refine TQ.block_normal ?_
      refine TQ.then ?_
      refine TC.region ?_   -- region 6 slices.go:108
      refine TL.opP rfl (op_add rfl rfl rfl (by omega) (by omega)) ?_
      refine TL.opP rfl (op_move rfl) ?_
      refine TL.nil ?_
      exact TQ.round (k + 1) (⟨by omega, fun j hj => by rcases Nat.lt_or_ge j k with h | h; exact hI.2 j h; (obtain rfl : j = k := by omega); have := c2; omega⟩) (by omega) ⟨rfl, rfl, rfl, rfl, rfl, trivial⟩ (fun _ h => h)
  · refine TC.exit ?_
    refine TQ.then_exit ?_
    refine TQ.loop_exit ?_
    refine TQ.block_hit ?_
    refine TQ.then ?_
    refine TC.seq ?_
    refine TC.region ?_   -- region 7 slices.go:113
    refine TL.opP rfl (op_assign rfl) ?_
    refine TL.nil ?_
    refine TQ.then ?_
    refine TC.ret ?_
    refine ret1 rfl rfl (fun w' hp => ?_)
    first
      | exact ⟨_, _, rfl, ⟨_, rfl, fun h => by omega, rfl⟩, (hp)⟩
      | exact ⟨_, _, rfl, ⟨_, rfl, fun _ => all_getD hI.2 (by omega), rfl⟩, (hp)⟩

theorem containsf_x (ss : List ByteArray) (v : Value) (hr : Rdb L v 1 ss.length (ss.map Value.string)) :
    CallX Tryd.prog 53 [v, .func (.func 54) #[] #[]] S w0 (L) (fun u L' => ∃ b, u = .bool b ∧ (b = false → ∀ s ∈ ss, s.size ≤ 200) ∧ L' = L) := by
  intro w hp
  refine calls_start Tryd.func53 rfl rfl rfl (hp) ?_
  refine TC.seq ?_
  refine TC.region ?_   -- region 0 slices.go:124
  refine TL.opP rfl (op_assign rfl) ?_
  refine TL.nil ?_
  refine TQ.then ?_
  refine TC.seq ?_
  refine TC.region ?_   -- region 1 slices.go:125
  refine TL.opP rfl (op_move rfl) ?_
  refine TL.opP rfl (op_move rfl) ?_
  refine TL.opX rfl (OpX.callX en_90 rfl (indexf_x ss v hr)) ?_; rintro _ _ ⟨i1, rfl, h1, rfl⟩
  refine TL.opP rfl (op_geq rfl rfl) ?_
  refine TL.opP rfl (op_assign rfl) ?_
  refine TL.nil ?_
  refine TQ.then ?_
  refine TC.ret ?_
  refine ret1 rfl rfl (fun w' hp => ?_)
  exact ⟨_, _, rfl, ⟨_, rfl, fun h => h1 (by simpa using h), rfl⟩, (hp)⟩

theorem long_x (ss : List ByteArray) (v : Value) (hr : Rdb L v 1 ss.length (ss.map Value.string)) :
    CallX Tryd.prog 17 [v] S w0 (L) (fun u L' => ∃ b, u = .bool b ∧ (b = false → ∀ s ∈ ss, s.size ≤ 200) ∧ L' = L) := by
  intro w hp
  refine calls_start Tryd.func17 rfl rfl rfl (hp) ?_
  refine TC.seq ?_
  refine TC.region ?_   -- region 0 law.go:19
  refine TL.opP rfl (op_assign rfl) ?_
  refine TL.nil ?_
  refine TQ.then ?_
  refine TC.seq ?_
  refine TC.region ?_   -- region 1 law.go:20
  refine TL.opP rfl (op_move rfl) ?_
  refine TL.opX rfl (OpX.callX en_53 rfl (containsf_x ss v hr)) ?_; rintro _ _ ⟨b1, rfl, h1, rfl⟩
  refine TL.opP rfl (op_assign rfl) ?_
  refine TL.nil ?_
  refine TQ.then ?_
  refine TC.ret ?_
  refine ret1 rfl rfl (fun w' hp => ?_)
  exact ⟨_, _, rfl, ⟨_, rfl, h1, rfl⟩, (hp)⟩

theorem aw10a : diffF ⟨#[97, 98, 99, 100]⟩ ⟨#[97, 120, 99, 121]⟩ = [keep1, put1 120, drop1, keep1, put1 121, drop1] := by kernel_rfl
theorem aw10b : diffE ⟨#[97, 98, 99, 100]⟩ ⟨#[97, 120, 99, 121]⟩ = 0 := by kernel_rfl
theorem aw10c : mergeE ⟨#[111, 110, 101, 32, 116, 119, 111]⟩ ⟨#[111, 110, 101, 32, 50, 32, 116, 119, 111]⟩ ⟨#[49, 32, 111, 110, 101, 32, 116, 119, 111]⟩ = 0 := by kernel_rfl
theorem aw10d : mergeF ⟨#[111, 110, 101, 32, 116, 119, 111]⟩ ⟨#[111, 110, 101, 32, 50, 32, 116, 119, 111]⟩ ⟨#[49, 32, 111, 110, 101, 32, 116, 119, 111]⟩ = ⟨#[49, 32, 111, 110, 101, 32, 50, 32, 116, 119, 111]⟩ := by kernel_rfl
theorem bs_api_Part_6 (a b c d e f : Part) : ∀ w : World, (Instr.buildSlice 24 6 #[(0, a.val), (1, b.val), (2, c.val), (3, d.val), (4, e.val), (5, f.val)]).run Tryd.prog w = .ok (.slice (some ⟨w.heap.size, 0, none⟩) 6 6) (w.alloc (.cells (encs [a, b, c, d, e, f]).toArray 36 (0, 0))) := by
  intro w; kernel_rfl
theorem awake_calls (w : World) (hT : Tabs w) :
    Calls Tryd.prog 18 (List.toArray []) w fun e w' => e = .returned (.bool true) ∧ Kp NoB w w' := by
  refine calls_start Tryd.func18 rfl rfl rfl (Hp.i1 (r := tabs) hT) ?_
  refine TC.seq ?_
  refine TC.region ?_   -- region 0 law.go:24
  refine TL.opP rfl (op_assign rfl) ?_
  refine TL.nil ?_
  refine TQ.then ?_
  refine TC.seq ?_
  refine TC.region ?_   -- region 1 law.go:25
  refine TL.opX rfl (OpX.callX en_19 rfl (diff_x ⟨#[97, 98, 99, 100]⟩ ⟨#[97, 120, 99, 121]⟩ (by decide) (by decide) m0)) ?_; rintro _ _ ⟨w1, rfl, rfl⟩
  refine TL.opP rfl (op_move rfl) ?_
  refine TL.opP rfl (op_extract rfl rfl) ?_
  refine TL.opP rfl (op_extract rfl rfl) ?_
  refine TL.opP rfl (op_assign rfl) ?_
  refine TL.opP rfl (op_assign rfl) ?_
  refine TL.nil ?_
  refine TQ.then ?_
  refine TC.seq ?_
  refine TC.region ?_   -- region 2 law.go:26
  refine TL.opX rfl (OpX.callX en_22 rfl (merge_x ⟨#[111, 110, 101, 32, 116, 119, 111]⟩ ⟨#[111, 110, 101, 32, 50, 32, 116, 119, 111]⟩ ⟨#[49, 32, 111, 110, 101, 32, 116, 119, 111]⟩ (by decide) (by decide) (by decide) m1)) ?_; rintro _ _ ⟨rfl, rfl⟩
  refine TL.opP rfl (op_move rfl) ?_
  refine TL.opP rfl (op_extract rfl rfl) ?_
  refine TL.opP rfl (op_extract rfl rfl) ?_
  refine TL.opP rfl (op_assign rfl) ?_
  refine TL.opP rfl (op_assign rfl) ?_
  refine TL.nil ?_
  refine TQ.then ?_
  refine TC.seq ?_
  refine TC.region ?_   -- region 3 law.go:27
  refine TL.opP rfl (op_build (ps := #[(0, _), (1, _)]) rfl (bl_api_Part_01 _ _)) ?_
  refine TL.opP rfl (op_build (ps := #[(0, _), (1, _), (2, _)]) rfl (bl_api_Part_012 _ _ _)) ?_
  refine TL.opP rfl (op_build (ps := #[(0, _), (1, _)]) rfl (bl_api_Part_01 _ _)) ?_
  refine TL.opP rfl (op_build (ps := #[(0, _), (1, _)]) rfl (bl_api_Part_01 _ _)) ?_
  refine TL.opP rfl (op_build (ps := #[(0, _), (1, _), (2, _)]) rfl (bl_api_Part_012 _ _ _)) ?_
  refine TL.opP rfl (op_build (ps := #[(0, _), (1, _)]) rfl (bl_api_Part_01 _ _)) ?_
  refine TL.opX rfl (OpX.buildSlice (ps := #[(0, _), (1, _), (2, _), (3, _), (4, _), (5, _)]) rfl (bs_api_Part_6 keep1 (put1 120) drop1 keep1 (put1 121) drop1)) ?_; rintro _ _ ⟨g20, rfl, rfl⟩
  refine TL.hp (fun _ h => blk_row (k := 3) (m := 6) h rfl (by decide)) ?_
  refine TL.opP rfl (op_assign rfl) ?_
  refine TL.nil ?_
  refine TQ.then ?_
  refine TC.seq ?_
  refine TC.region ?_   -- region 4 law.go:28
  refine TL.opP rfl (op_move rfl) ?_
  refine TL.opP rfl (op_eql rfl rfl) ?_
  refine TL.opP rfl (op_move rfl) ?_
  first | refine TL.splitD (fun c1 => ?_) (fun c1 => ?_) | refine TL.splitB (fun c1 => ?_) (fun c1 => ?_)
  · refine TL.gT rfl rfl ?_
    refine TL.opP rfl (op_move rfl) ?_
    refine TL.gT rfl rfl ?_
    refine TL.opP rfl (op_move rfl) ?_
    refine TL.gT rfl rfl ?_
    refine TL.callq rfl en_21 rfl (fun w2 hp => rsame_calls (diffF ⟨#[97, 98, 99, 100]⟩ ⟨#[97, 120, 99, 121]⟩) ([keep1, put1 120, drop1, keep1, put1 121, drop1]) _ _ w2 (rw1 _ _ _ hp) (rw0 _ _ _ hp)) ?_
    refine TL.opP rfl (op_pickT rfl rfl) ?_
    refine TL.opP rfl (op_move rfl) ?_
    first | refine TL.splitD (fun c2 => ?_) (fun c2 => ?_) | refine TL.splitB (fun c2 => ?_) (fun c2 => ?_)
    · refine TL.gT rfl rfl ?_
      refine TL.opP rfl (op_move rfl) ?_
      refine TL.gT rfl rfl ?_
      refine TL.opP rfl (op_seql rfl rfl) ?_
      refine TL.opP rfl (op_pickT rfl rfl) ?_
      refine TL.opP rfl (op_move rfl) ?_
      first | refine TL.splitD (fun c3 => ?_) (fun c3 => ?_) | refine TL.splitB (fun c3 => ?_) (fun c3 => ?_)
      · refine TL.gT rfl rfl ?_
        refine TL.opP rfl (op_move rfl) ?_
        refine TL.gT rfl rfl ?_
        refine TL.opP rfl (op_eql rfl rfl) ?_
        refine TL.opP rfl (op_pickT rfl rfl) ?_
        refine TL.opP rfl (op_assign rfl) ?_
        refine TL.nil ?_
        refine TQ.then ?_
        refine TC.ret ?_
        refine ret1 rfl rfl (fun w' hp => ?_)
        exact ⟨rfl, hp.kp⟩
      · exact absurd aw10d c3
    · exact absurd aw10a c2
  · exact absurd aw10b c1

end Go.SK
