/- Layer 12: the document's reader: parts as they stand in memory, its small functions. -/
import Derived.Test.YtpomdenbgdgbhaaDoorE75
set_option linter.unusedVariables false
set_option linter.unusedSimpArgs false
set_option maxRecDepth 100000
namespace Go.SK
open Go Go.RowKit Go.Proofs
/-! ### A test told by what it tests -/
section
variable {P : Program} {n : Nat} {l : FrL} {dst : Option Tmp} {ty : TypeId} {pos : String} {af : Array Edge} {gd : Option (Nat × Bool)} {x : Operand} {v u : Value}
theorem op_fieldV {T f : Nat} (hx : evO l x = some v) (hf : ∀ w, (Instr.field T v f).run P w = .ok u w) : OpP P n l ⟨dst, .field T x f, ty, pos, af, gd⟩ u := fun a w ha => by simp [execOp, ha.eval hx, hf w]
end
/-! ### Parts -/
/-- A part as the document's reader has it. -/
structure Pc where
  k : Int
  neg : Bool
  sv : Value
  kv : Value
  lo : Int
  hi : Int
  lz : Bool
  num : Int
  hs : sv.oneCell' = true
  hk : kv.oneCell' = true
instance : Inhabited Pc := ⟨⟨0, false, nilS, nilS, 0, 0, false, 0, rfl, rfl⟩⟩
theorem nc_one {k lo hi num : Int} {neg lz : Bool} {sv kv : Value} (hs : sv.oneCell' = true) (hk : kv.oneCell' = true) : ∀ u ∈ nodeC k neg sv kv lo hi lz num, u.oneCell' = true := by
  intro u hu
  simp only [List.mem_cons, List.not_mem_nil, or_false] at hu
  rcases hu with rfl | rfl | rfl | rfl | rfl | rfl | rfl | rfl <;> first | rfl | assumption
abbrev Pc.cs (p : Pc) : List Value := nodeC p.k p.neg p.sv p.kv p.lo p.hi p.lz p.num
abbrev Pc.val (p : Pc) : Value := .agg p.cs.toArray
instance : Enc Pc := ⟨8, Pc.cs, fun _ => rfl, fun p => nc_one p.hs p.hk⟩
theorem encs_P1 (p : Pc) : encs [p] = p.cs := by simp [encs, Enc.enc]
theorem bs_sealskinref12_Part_1 (p : Pc) : ∀ w : World, (Instr.buildSlice 128 1 #[(0, p.val)]).run Tryd.prog w = .ok (.slice (some ⟨w.heap.size, 0, none⟩) 1 1) (w.alloc (.cells (encs [p]).toArray 130 (0, 0))) := by
  intro w; rw [encs_P1]; kernel_rfl
mutual
/-- A part of a pattern as the document's reader has it. -/
def RNd (rs : List Res) : Nd → Pc → Prop
  | .cls neg sp, p => p.k = 1 ∧ p.neg = neg ∧ p.kv = nilS ∧ ∃ s' : List (Int × Int), Res.rd p.sv 2 s'.length (spC s') ∈ rs ∧ ∀ c, inS s' c = inS sp c
  | .bol, p => p.k = 2 ∧ p.kv = nilS
  | .eol, p => p.k = 3 ∧ p.kv = nilS
  | .seq k, p => p.k = 4 ∧ ∃ ps : List Pc, Res.rd p.kv 8 ps.length (encs ps) ∈ rs ∧ RNds rs k ps
  | .alt k, p => p.k = 5 ∧ ∃ ps : List Pc, Res.rd p.kv 8 ps.length (encs ps) ∈ rs ∧ RNds rs k ps
  | .rep k lo hi lz, p => p.k = 6 ∧ p.lo = lo ∧ p.hi = hi ∧ p.lz = lz ∧ ∃ q : Pc, Res.rd p.kv 8 1 (encs [q]) ∈ rs ∧ RNd rs k q
  | .grp k num, p => p.k = 7 ∧ p.num = num ∧ ∃ q : Pc, Res.rd p.kv 8 1 (encs [q]) ∈ rs ∧ RNd rs k q
def RNds (rs : List Res) : List Nd → List Pc → Prop
  | [], ps => ps = []
  | t :: k, ps => ∃ q r, ps = q :: r ∧ RNd rs t q ∧ RNds rs k r
end
mutual
theorem RNd.mono {rs rs' : List Res} (h : rs ⊆ rs') : ∀ (t : Nd) (p : Pc), RNd rs t p → RNd rs' t p
  | .cls _ _, p, hv => by unfold RNd at hv ⊢; obtain ⟨a, b, c, s, d, e⟩ := hv; exact ⟨a, b, c, s, h d, e⟩
  | .bol, p, hv => by unfold RNd at hv ⊢; exact hv
  | .eol, p, hv => by unfold RNd at hv ⊢; exact hv
  | .seq k, p, hv => by unfold RNd at hv ⊢; obtain ⟨a, ps, c, d⟩ := hv; exact ⟨a, ps, h c, RNds.mono h k ps d⟩
  | .alt k, p, hv => by unfold RNd at hv ⊢; obtain ⟨a, ps, c, d⟩ := hv; exact ⟨a, ps, h c, RNds.mono h k ps d⟩
  | .rep k _ _ _, p, hv => by unfold RNd at hv ⊢; obtain ⟨a, b, c, d, q, e, f⟩ := hv; exact ⟨a, b, c, d, q, h e, RNd.mono h k q f⟩
  | .grp k _, p, hv => by unfold RNd at hv ⊢; obtain ⟨a, b, q, e, f⟩ := hv; exact ⟨a, b, q, h e, RNd.mono h k q f⟩
theorem RNds.mono {rs rs' : List Res} (h : rs ⊆ rs') : ∀ (k : List Nd) (ps : List Pc), RNds rs k ps → RNds rs' k ps
  | [], ps, hv => by unfold RNds at hv ⊢; exact hv
  | t :: k, ps, hv => by unfold RNds at hv ⊢; obtain ⟨v, r, a, b, c⟩ := hv; exact ⟨v, r, a, RNd.mono h t v b, RNds.mono h k r c⟩
end
theorem RNds.len {rs : List Res} : ∀ {k : List Nd} {ps : List Pc}, RNds rs k ps → ps.length = k.length
  | [], ps, h => by unfold RNds at h; subst h; rfl
  | t :: k, ps, h => by unfold RNds at h; obtain ⟨v, r, rfl, _, b⟩ := h; simp [RNds.len b]
theorem RNds.snoc {rs : List Res} {t : Nd} {p : Pc} (ht : RNd rs t p) : ∀ {k : List Nd} {ps : List Pc}, RNds rs k ps → RNds rs (k ++ [t]) (ps ++ [p])
  | [], ps, h => by unfold RNds at h; subst h; unfold RNds; exact ⟨p, [], rfl, ht, by unfold RNds; rfl⟩
  | s :: k, ps, h => by
    unfold RNds at h
    obtain ⟨u, r, rfl, a, b⟩ := h
    show RNds rs (s :: (k ++ [t])) (u :: (r ++ [p]))
    unfold RNds
    exact ⟨u, _, rfl, a, RNds.snoc ht b⟩
theorem RNds.nil {rs : List Res} : RNds rs [] [] := by unfold RNds; rfl
/-- What a reading function of the document gives. -/
structure QRes (rs rs' : List Res) (r : PR Nd) (i' g' : Nat) (e : Int) (p : Pc) : Prop where
  sub : rs ⊆ rs'
  is_ : match r with
    | .ok t j g => e = 0 ∧ i' = j ∧ g' = g ∧ RNd rs' t p
    | .err e' j => e = e' ∧ e' ≠ 0 ∧ i' = j
section
variable {rs rs' : List Res} {r : PR Nd} {i' g' : Nat} {e : Int} {p : Pc}
theorem QRes.bad (h : QRes rs rs' r i' g' e p) (he : e ≠ 0) : r = .err e i' := by
  obtain ⟨h1, h3⟩ := h
  cases r with
  | ok t j g => exact absurd h3.1 he
  | err e' j => obtain ⟨rfl, b, rfl⟩ := h3; rfl
theorem QRes.good (h : QRes rs rs' r i' g' e p) (he : e = 0) : ∃ t, r = .ok t i' g' ∧ RNd rs' t p := by
  obtain ⟨h1, h3⟩ := h
  cases r with
  | ok t j g => obtain ⟨a, rfl, rfl, b⟩ := h3; exact ⟨t, rfl, b⟩
  | err e' j => obtain ⟨rfl, b, c⟩ := h3; exact absurd he b
theorem QRes.err (h : rs ⊆ rs') (hr : r = .err e i') (he : e ≠ 0) : QRes rs rs' r i' g' e p := ⟨h, by rw [hr]; exact ⟨rfl, he, rfl⟩⟩
theorem QRes.ok {t : Nd} (h : rs ⊆ rs') (hr : r = .ok t i' g') (ht : RNd rs' t p) : QRes rs rs' r i' g' 0 p := ⟨h, by rw [hr]; exact ⟨rfl, rfl, rfl, ht⟩⟩
end
/-! ### What comes next; -1: nothing, or an error was. -/
def pk (l : List Int) (i : Nat) (e : Int) : Int := if e = 0 then nx l i else -1
theorem pk_0 {l : List Int} {i : Nat} : pk l i 0 = nx l i := if_pos rfl
theorem pk_e {l : List Int} {i : Nat} {e : Int} (h : e ≠ 0) : pk l i e = -1 := if_neg h
theorem pk_ge {l : List Int} {i : Nat} {e : Int} (h : 0 ≤ pk l i e) : e = 0 ∧ i < l.length ∧ 0 ≤ nx l i := by
  by_cases he : e = 0
  · subst he
    rw [pk_0] at h
    exact ⟨rfl, nx_ge h (by decide), h⟩
  · rw [pk_e he] at h; omega
theorem pk_some {l : List Int} {i : Nat} {e c : Int} (h : pk l i e = c) (hc : 0 ≤ c) : e = 0 ∧ i < l.length ∧ nx l i = c := by
  obtain ⟨rfl, b, _⟩ := pk_ge (l := l) (i := i) (e := e) (by omega)
  exact ⟨rfl, b, by rw [← pk_0]; exact h⟩
variable {S : Nat → Prop} {w0 : World} {F L : List Res}
theorem xfail_x (l : List Int) (lv : Value) (g i gn : Nat) (hxl : Rdb F lv 1 l.length (l.map (Value.int .i32))) (hln : l.length ≤ 200) (e q : Int) :
    CallX Tryd.prog 85 [.pointer (some ⟨g, 0, none⟩), .int .i64 q] S w0 (.blk g (.cells [lv, .int .i64 (((i : Nat) : Int) : Int), .int .i64 (((gn : Nat) : Int) : Int), .int .i64 (e)].toArray 126 (0, 0)) :: F) (fun u L' => u = .tuple #[] ∧ L' = .blk g (.cells [lv, .int .i64 (((i : Nat) : Int) : Int), .int .i64 (((gn : Nat) : Int) : Int), .int .i64 (if e = 0 then q else e)].toArray 126 (0, 0)) :: F) := by
 intro w hp
 refine calls_start Tryd.func85 rfl rfl rfl (hp) ?_
 refine TC.seq (TC.region (TL.mv rfl rfl (TL.opP rfl (op_nilCheck rfl) (TL.opP rfl (op_field fld_sealskinref12_reader_e rfl) (TL.opV rfl (op_load ts_api_Errno rfl m0 rfl) (TL.opP rfl (op_eql rfl rfl) (TL.nil (TQ.then ?_))))))))
 refine TC.sp rfl (fun c1 => ?_) (fun c1 => ?_)
 ·refine TC.region (TL.mv rfl rfl (TL.mv rfl rfl (TL.opP rfl (op_nilCheck rfl) (TL.opP rfl (op_field fld_sealskinref12_reader_e rfl) ?_))))
  refine TL.opX0 (OpX.store1 ts_api_Errno rfl rfl (by first | rfl | assumption) rfl rfl) ?_; rintro _ _ rfl
  refine TL.nil ?_
  refine end0 rfl (fun w' hp => ?_)
  exact ⟨_, _, rfl, ⟨rfl, by rw [if_pos c1]; rfl⟩, (hp)⟩
 ·refine TC.skip ?_
  refine end0 rfl (fun w' hp => ?_)
  exact ⟨_, _, rfl, ⟨rfl, by rw [if_neg c1]⟩, (hp)⟩

theorem xpeek_x (l : List Int) (lv : Value) (g i gn : Nat) (hxl : Rdb F lv 1 l.length (l.map (Value.int .i32))) (hln : l.length ≤ 200) (e : Int) :
    CallX Tryd.prog 118 [.pointer (some ⟨g, 0, none⟩)] S w0 (.blk g (.cells [lv, .int .i64 (((i : Nat) : Int) : Int), .int .i64 (((gn : Nat) : Int) : Int), .int .i64 (e)].toArray 126 (0, 0)) :: F) (fun u L' => u = .int .i32 (pk l i e) ∧ L' = .blk g (.cells [lv, .int .i64 (((i : Nat) : Int) : Int), .int .i64 (((gn : Nat) : Int) : Int), .int .i64 (e)].toArray 126 (0, 0)) :: F) := by
 intro w hp
 refine calls_start Tryd.func118 rfl rfl rfl (hp) ?_
 refine TC.seq (TC.region (TL.as rfl rfl (TL.nil (TQ.then (TC.seq (TC.seq (TC.draw [] (.cons (.p, 0) (.cons (.p, 1) (.cons (.p, 2) (.cons (.t, 3) (.cons (.p, 4) (.cons (.p, 5) (.cons (.p, 6) (.cons (.p, 7) (.cons (.p, 8) (.cons (.p, 10) (.cons (.p, 11) (.cons (.p, 12) (.cons (.t, 9) (.cons (.t, 13) (.cons (.t, 14) (.cons (.p, 15) (.cons (.p, 16) (.nil)))))))))))))))))) mo (by kernel_rfl) (TR.p rfl rfl wt0 (op_move rfl) (TR.p rfl rfl wt0 (op_nilCheck rfl) (TR.p rfl rfl wt0 (op_field fld_sealskinref12_reader_e rfl) (TR.t rfl rfl wt0 (op_load ts_api_Errno rfl m0 rfl) (fun _ h => h) (TR.p rfl rfl wt0 (op_neq rfl rfl) (TR.p rfl rfl wt0 (op_move rfl) ?_)))))))))))))
 refine TR.sp (fun c1 => ?_) (fun c1 => ?_)
 ·refine TR.off rfl rfl (by exact wtFt rfl rfl) (TR.off rfl rfl (by exact wtFt rfl rfl) (TR.off rfl rfl (by exact wtFt rfl rfl) (TR.off rfl rfl (by exact wtFt rfl rfl) (TR.off rfl rfl (by exact wtFt rfl rfl) (TR.off rfl rfl (by exact wtFt rfl rfl) (TR.offT rfl rfl (by exact wtFt rfl rfl) (fun _ h => h) (TR.offT rfl rfl (by exact wtFt rfl rfl) (fun _ h => h) (TR.offT rfl rfl (by exact wtFt rfl rfl) (fun _ h => h) (TR.off rfl rfl (by exact wtFt rfl rfl) (TR.p rfl rfl wt0 (op_pickT rfl rfl) (TR.nil (TQ.then (TC.condT rfl (TC.seq (TC.region (TL.as rfl rfl (TL.nil (TQ.then (TC.ret (TQ.then_ret ?_))))))))))))))))))))
  refine ret1 rfl rfl (fun w' hp => ?_)
  exact ⟨_, _, rfl, ⟨by rw [pk_e c1], rfl⟩, (hp)⟩
 ·refine TR.p rfl rfl (by exact wtT rfl rfl) (op_move rfl) (TR.p rfl rfl (by exact wtT rfl rfl) (op_nilCheck rfl) (TR.p rfl rfl (by exact wtT rfl rfl) (op_field fld_sealskinref12_reader_at rfl) (TR.p rfl rfl (by exact wtT rfl rfl) (op_move rfl) (TR.p rfl rfl (by exact wtT rfl rfl) (op_nilCheck rfl) (TR.p rfl rfl (by exact wtT rfl rfl) (op_field fld_sealskinref12_reader_l rfl) (TR.t rfl rfl (by exact wtT rfl rfl) (op_load ts_int rfl m0 rfl) (fun _ h => h) (TR.t rfl rfl (by exact wtT rfl rfl) (op_load ts_sl_int32 rfl m0 rfl) (fun _ h => h) (TR.t rfl rfl (by exact wtT rfl rfl) (op_lenV rfl un_sl_int32 rfl hxl.cons) (fun _ h => h) (TR.p rfl rfl (by exact wtT rfl rfl) (op_geq rfl rfl) (TR.p rfl rfl wt0 (op_pickF rfl rfl) ?_))))))))))
  refine TR.nil (TQ.then ?_)
  refine TC.sp rfl (fun c2 => ?_) (fun c2 => ?_)
  ·refine TC.seq (TC.region (TL.as rfl rfl (TL.nil (TQ.then (TC.ret (TQ.then_ret ?_))))))
   refine ret1 rfl rfl (fun w' hp => ?_)
   exact ⟨_, _, rfl, ⟨by rw [Decidable.not_not.1 c1, pk_0, nx_out (by omega)], rfl⟩, (hp)⟩
  ·refine TC.skip (TQ.then (TC.seq (TC.draw [] (.cons (.p, 0) (.cons (.p, 1) (.cons (.p, 2) (.cons (.p, 4) (.cons (.p, 5) (.cons (.p, 6) (.cons (.t, 3) (.cons (.t, 7) (.cons (.t, 8) (.cons (.t, 9) (.cons (.p, 10) (.nil)))))))))))) mo (by kernel_rfl) (TR.p rfl rfl wt0 (op_move rfl) (TR.p rfl rfl wt0 (op_nilCheck rfl) (TR.p rfl rfl wt0 (op_field fld_sealskinref12_reader_l rfl) (TR.p rfl rfl wt0 (op_move rfl) (TR.p rfl rfl wt0 (op_nilCheck rfl) (TR.p rfl rfl wt0 (op_field fld_sealskinref12_reader_at rfl) (TR.t rfl rfl wt0 (op_load ts_sl_int32 rfl m0 rfl) (fun _ h => h) (TR.t rfl rfl wt0 (op_load ts_int rfl m0 rfl) (fun _ h => h) (TR.t rfl rfl wt0 (op_index tsl_int32 rfl hxl.cons rfl (by omega) (by omega)) (fun _ h => h) ?_))))))))))))
   refine TR.t rfl rfl wt0 (op_loadR ts_int32 rfl hxl.cons (lkM (i := i) (d := 0) (by omega) rfl (by omega))) (fun _ h => h) (TR.p rfl rfl wt0 (op_assign rfl) (TR.nil (TQ.then (TC.ret ?_))))
   refine ret1 rfl rfl (fun w' hp => ?_)
   exact ⟨_, _, rfl, ⟨by rw [Decidable.not_not.1 c1, pk_0, nx_in (by omega)], rfl⟩, (hp)⟩

theorem xis_x (l : List Int) (lv : Value) (g i gn : Nat) (hxl : Rdb F lv 1 l.length (l.map (Value.int .i32))) (hln : l.length ≤ 200) (e c : Int) (hc : 0 ≤ c) :
    CallX Tryd.prog 120 [.pointer (some ⟨g, 0, none⟩), .int .i32 c] S w0 (.blk g (.cells [lv, .int .i64 (((i : Nat) : Int) : Int), .int .i64 (((gn : Nat) : Int) : Int), .int .i64 (e)].toArray 126 (0, 0)) :: F) (fun u L' => u = .bool (decide (pk l i e = c)) ∧ L' = .blk g (.cells [lv, .int .i64 ((((if pk l i e = c then i + 1 else i) : Nat) : Int) : Int), .int .i64 (((gn : Nat) : Int) : Int), .int .i64 (e)].toArray 126 (0, 0)) :: F) := by
 intro w hp
 refine calls_start Tryd.func120 rfl rfl rfl (hp) ?_
 refine TC.seq (TC.region (TL.as rfl rfl (TL.nil (TQ.then (TC.seq (TC.seq (TC.region (TL.opP rfl (op_move rfl) ?_))))))))
 refine TL.opX rfl (OpX.callX en_118 rfl (xpeek_x l _ _ i gn hxl hln e)) ?_; rintro _ _ ⟨rfl, rfl⟩
 refine TL.mv rfl rfl (TL.opP rfl (op_neq rfl rfl) (TL.nil (TQ.then ?_)))
 refine TC.sp rfl (fun c1 => ?_) (fun c1 => ?_)
 ·refine TC.seq (TC.region (TL.as rfl rfl (TL.nil (TQ.then (TC.ret (TQ.then_ret ?_))))))
  refine ret1 rfl rfl (fun w' hp => ?_)
  first
    | exact ⟨_, _, rfl, ⟨by rw [decide_eq_false c1], by rw [if_neg c1]⟩, (hp)⟩
    | (have h := Decidable.not_not.1 c1
       exact ⟨_, _, rfl, ⟨by rw [decide_eq_true h], by rw [if_pos h]; rfl⟩, (hp)⟩)
 ·have hlt := (pk_some (Decidable.not_not.1 c1) hc).2.1
  refine TC.skip (TQ.then (TC.seq (TC.region (TL.mv rfl rfl (TL.opP rfl (op_nilCheck rfl) (TL.opP rfl (op_field fld_sealskinref12_reader_at rfl) (TL.opV rfl (op_load ts_int rfl m0 rfl) (TL.opP rfl (op_add (r := ((i + 1 : Nat) : Int)) rfl rfl (by omega) (by omega) (by omega)) (TL.opP rfl (op_nilCheck rfl) (TL.opP rfl (op_field fld_sealskinref12_reader_at rfl) ?_))))))))))
  refine TL.opX0 (OpX.store1 ts_int rfl rfl (by first | rfl | assumption) rfl rfl) ?_; rintro _ _ rfl
  refine TL.nil (TQ.then (TC.seq (TC.region (TL.as rfl rfl (TL.nil (TQ.then (TC.ret ?_)))))))
  refine ret1 rfl rfl (fun w' hp => ?_)
  first
    | exact ⟨_, _, rfl, ⟨by rw [decide_eq_false c1], by rw [if_neg c1]⟩, (hp)⟩
    | (have h := Decidable.not_not.1 c1
       exact ⟨_, _, rfl, ⟨by rw [decide_eq_true h], by rw [if_pos h]; rfl⟩, (hp)⟩)

section
variable (l : List Int) (lv : Value) (g i gn : Nat) (hxl : Rdb F lv 1 l.length (l.map (Value.int .i32))) (hln : l.length ≤ 200)
include hxl hln
abbrev rdBlk (lv : Value) (g i gn : Nat) (e : Int) : Res := .blk g (.cells [lv, .int .i64 ((i : Nat) : Int), .int .i64 ((gn : Nat) : Int), .int .i64 e].toArray 126 (0, 0))
theorem xfail0_x (q : Int) : CallX Tryd.prog 85 [ptrV g, .int .i64 q] S w0 (rdBlk lv g i gn 0 :: F) (fun u L' => u = .tuple #[] ∧ L' = rdBlk lv g i gn q :: F) := by
  have h := xfail_x (S := S) (w0 := w0) l lv g i gn hxl hln 0 q
  rw [if_pos rfl] at h
  exact h
theorem xpeek0_x : CallX Tryd.prog 118 [ptrV g] S w0 (rdBlk lv g i gn 0 :: F) (fun u L' => u = .int .i32 (nx l i) ∧ L' = rdBlk lv g i gn 0 :: F) := by
  have h := xpeek_x (S := S) (w0 := w0) l lv g i gn hxl hln 0
  rw [pk_0] at h
  exact h
theorem xis0_x (c : Int) (hc : 0 ≤ c) : CallX Tryd.prog 120 [ptrV g, .int .i32 c] S w0 (rdBlk lv g i gn 0 :: F) (fun u L' => u = .bool (decide (nx l i = c)) ∧ L' = rdBlk lv g (if nx l i = c then i + 1 else i) gn 0 :: F) := by
  have h := xis_x (S := S) (w0 := w0) l lv g i gn hxl hln 0 c hc
  simp only [pk_0] at h
  exact h
end
theorem xnum_x (l : List Int) (lv : Value) (g i gn : Nat) (hxl : Rdb F lv 1 l.length (l.map (Value.int .i32))) (hln : l.length ≤ 200) (hi : i ≤ l.length) (o : Option Int) (j : Nat) (hn : numF l i = (o, j)) :
    CallX Tryd.prog 141 [.pointer (some ⟨g, 0, none⟩)] S w0 (.blk g (.cells [lv, .int .i64 (((i : Nat) : Int) : Int), .int .i64 (((gn : Nat) : Int) : Int), .int .i64 (0)].toArray 126 (0, 0)) :: F) (fun u L' => u = .int .i64 (o.getD 0) ∧ L' = .blk g (.cells [lv, .int .i64 (((j : Nat) : Int) : Int), .int .i64 (((gn : Nat) : Int) : Int), .int .i64 (if o.isSome then 0 else 90)].toArray 126 (0, 0)) :: F) := by
 intro w hp
 refine calls_start Tryd.func141 rfl rfl rfl (hp) ?_
 refine TC.seq (TC.region (TL.as rfl rfl (TL.nil (TQ.then (TC.seq (TC.region (TL.as rfl rfl (TL.nil (TQ.then (TC.seq (TC.block (TC.loop (ι := Nat × Nat × Int × Bool × Int) (fun (f, k, n, b, m) => [(0, .pointer (some ⟨g, 0, none⟩)), (3, .int .i64 m)]) (fun (f, k, n, b, m) => .blk g (.cells [lv, .int .i64 (((k : Nat) : Int) : Int), .int .i64 (((gn : Nat) : Int) : Int), .int .i64 (0)].toArray 126 (0, 0)) :: F) (fun (f, k, n, b, m) => k ≤ l.length ∧ l.length < k + f ∧ 0 ≤ n ∧ n ≤ 100 ∧ (b = false → n = 0 ∧ m = -1) ∧ (b = true → m = n) ∧ numGo l f k n b = (o, j)) (fun (f, k, n, b, m) => l.length - k) ((l.length + 1 - i, i, 0, false, -1)) (⟨hi, by omega, by omega, by omega, fun _ => ⟨rfl, rfl⟩, (fun h => by cases h), hn⟩) ⟨rfl, rfl, trivial⟩ (fun _ h => h) ?_))))))))))))
 rintro ⟨f, k, n, b, m⟩ ⟨hk, hf, hn0, hn1, hb, hb2, hg⟩
 obtain ⟨f, rfl⟩ : ∃ f', f = f' + 1 := ⟨f - 1, by omega⟩
 have hmx : (if (0 : Int) > m then 0 else m) = n := by
   cases b with
   | false => obtain ⟨rfl, rfl⟩ := hb rfl; rfl
   | true => rw [hb2 rfl]; split <;> omega
 show TC _ _ _ _ [(0, .pointer (some ⟨g, 0, none⟩)), (3, .int .i64 m)] _ _ (.blk g (.cells [lv, .int .i64 (((k : Nat) : Int) : Int), .int .i64 (((gn : Nat) : Int) : Int), .int .i64 (0)].toArray 126 (0, 0)) :: F)
 refine TC.seq (TC.seq (TC.region (TL.opP rfl (op_move rfl) ?_)))
 refine TL.opX rfl (OpX.callX en_118 rfl (xpeek0_x l _ _ k gn hxl hln)) ?_; rintro _ _ ⟨rfl, rfl⟩
 refine TL.opP rfl (op_geq rfl rfl) (TL.opP rfl (op_move rfl) ?_)
 refine TL.sp (fun c1 => ?_) (fun c1 => ?_)
 ·have hlt := nx_ge c1 (by decide)
  refine TL.gT rfl rfl (TL.mv rfl rfl (TL.gT rfl rfl ?_))
  refine TL.opX rfl (OpX.callX en_118 rfl (xpeek0_x l _ _ k gn hxl hln)) ?_; rintro _ _ ⟨rfl, rfl⟩
  refine TL.gT rfl rfl (TL.opP rfl (op_leq rfl rfl) (TL.opP rfl (op_pickT rfl rfl) (TL.nil (TQ.then ?_))))
  refine TC.sp rfl (fun c2 => ?_) (fun c2 => ?_)
  ·refine TC.skip (TQ.then (TC.block (TC.seq (TC.region (TL.mv rfl rfl (TL.opP rfl (op_max rfl) ?_))))))
   rw [hmx]
   refine TL.opP rfl (op_mul rfl rfl rfl (by omega) (by omega)) (TL.opP rfl (op_move rfl) ?_)
   refine TL.opX rfl (OpX.callX en_118 rfl (xpeek0_x l _ _ k gn hxl hln)) ?_; rintro _ _ ⟨rfl, rfl⟩
   refine TL.opP rfl (op_subK rfl rfl) (TL.opP rfl (op_int un_int rfl rfl) ?_)
   rw [wrap_rune (by omega) (by omega)]
   refine TL.opP rfl (op_add rfl rfl rfl (by omega) (by omega)) (TL.as rfl rfl (TL.nil (TQ.then (TC.seq (TC.seq (TC.region (TL.mv rfl rfl (TL.opP rfl (op_gtr rfl rfl) (TL.nil (TQ.then ?_))))))))))
   refine TC.sp rfl (fun c3 => ?_) (fun c3 => ?_)
   ·refine TC.seq (TC.region (TL.opP rfl (op_move rfl) ?_))
    refine TL.opX rfl (OpX.callX en_85 rfl (xfail0_x l _ _ k gn hxl hln 90)) ?_; rintro _ _ ⟨rfl, rfl⟩
    refine TL.nil (TQ.then (TC.seq (TC.region (TL.as rfl rfl (TL.nil (TQ.then (TC.ret (TQ.then_ret (TQ.block_ret (TQ.loop_ret (TQ.block_ret (TQ.then_ret ?_))))))))))))
    refine ret1 rfl rfl (fun w' hp => ?_)
    first
      | (rw [numGo_big (by omega) (by omega) (by omega)] at hg
         cases hg
         exact ⟨_, _, rfl, ⟨rfl, rfl⟩, (hp)⟩)
      | (have he := numGo_out (l := l) (f := f) (i := k) (n := n) (b := b) (by first | omega | (rw [nx_out (by omega)]; omega))
         rw [he] at hg
         cases b with
         | true => (first | (exfalso; have := hb2 rfl; omega) | (simp only [if_true] at hg; cases hg; exact ⟨_, _, rfl, ⟨rfl, rfl⟩, (hp)⟩))
         | false => (first | (exfalso; have := (hb rfl).2; omega) | (rw [if_neg (by decide)] at hg; cases hg; exact ⟨_, _, rfl, ⟨by rw [(hb rfl).1]; rfl, rfl⟩, (hp)⟩)))
   ·refine TC.skip (TQ.then (TC.region (TL.mv rfl rfl (TL.opP rfl (op_nilCheck rfl) (TL.opP rfl (op_field fld_sealskinref12_reader_at rfl) (TL.opV rfl (op_load ts_int rfl m0 rfl) (TL.opP rfl (op_add (r := ((k + 1 : Nat) : Int)) rfl rfl (by omega) (by omega) (by omega)) (TL.opP rfl (op_nilCheck rfl) (TL.opP rfl (op_field fld_sealskinref12_reader_at rfl) ?_)))))))))
    refine TL.opX0 (OpX.store1 ts_int rfl rfl (by first | rfl | assumption) rfl rfl) ?_; rintro _ _ rfl
    refine TL.nil (TQ.block_normal ?_)
    exact TQ.round (f, k + 1, 10 * n + (nx l k - 48), true, 10 * n + (nx l k - 48)) (⟨by omega, by omega, by omega, by omega, (fun h => by cases h), fun _ => rfl, by rw [← hg, numGo_on (by omega) (by omega) (by omega)]⟩) (by show _ - (k + 1) < _ - k; omega) ⟨rfl, rfl, trivial⟩ (fun _ h => h)
  ·refine TC.exit (TQ.then_exit (TQ.loop_exit (TQ.block_hit (TQ.then (TC.seq (TC.seq (TC.region (TL.mv rfl rfl (TL.opP rfl (op_lss rfl rfl) (TL.nil (TQ.then ?_)))))))))))
   refine TC.sp rfl (fun c4 => ?_) (fun c4 => ?_)
   ·refine TC.region (TL.opP rfl (op_move rfl) ?_)
    refine TL.opX rfl (OpX.callX en_85 rfl (xfail0_x l _ _ k gn hxl hln 90)) ?_; rintro _ _ ⟨rfl, rfl⟩
    refine TL.nil (TQ.then (TC.seq (TC.region (TL.mv rfl rfl (TL.opP rfl (op_max rfl) ?_)))))
    rw [hmx]
    refine TL.as rfl rfl (TL.nil (TQ.then (TC.ret ?_)))
    refine ret1 rfl rfl (fun w' hp => ?_)
    first
      | (rw [numGo_big (by omega) (by omega) (by omega)] at hg
         cases hg
         exact ⟨_, _, rfl, ⟨rfl, rfl⟩, (hp)⟩)
      | (have he := numGo_out (l := l) (f := f) (i := k) (n := n) (b := b) (by first | omega | (rw [nx_out (by omega)]; omega))
         rw [he] at hg
         cases b with
         | true => (first | (exfalso; have := hb2 rfl; omega) | (simp only [if_true] at hg; cases hg; exact ⟨_, _, rfl, ⟨rfl, rfl⟩, (hp)⟩))
         | false => (first | (exfalso; have := (hb rfl).2; omega) | (rw [if_neg (by decide)] at hg; cases hg; exact ⟨_, _, rfl, ⟨by rw [(hb rfl).1]; rfl, rfl⟩, (hp)⟩)))
   ·refine TC.skip (TQ.then (TC.seq (TC.region (TL.mv rfl rfl (TL.opP rfl (op_max rfl) ?_)))))
    rw [hmx]
    refine TL.as rfl rfl (TL.nil (TQ.then (TC.ret ?_)))
    refine ret1 rfl rfl (fun w' hp => ?_)
    first
      | (rw [numGo_big (by omega) (by omega) (by omega)] at hg
         cases hg
         exact ⟨_, _, rfl, ⟨rfl, rfl⟩, (hp)⟩)
      | (have he := numGo_out (l := l) (f := f) (i := k) (n := n) (b := b) (by first | omega | (rw [nx_out (by omega)]; omega))
         rw [he] at hg
         cases b with
         | true => (first | (exfalso; have := hb2 rfl; omega) | (simp only [if_true] at hg; cases hg; exact ⟨_, _, rfl, ⟨rfl, rfl⟩, (hp)⟩))
         | false => (first | (exfalso; have := (hb rfl).2; omega) | (rw [if_neg (by decide)] at hg; cases hg; exact ⟨_, _, rfl, ⟨by rw [(hb rfl).1]; rfl, rfl⟩, (hp)⟩)))
 ·refine TL.gFf rfl rfl rfl (TL.gFf rfl rfl rfl (TL.gFf rfl rfl rfl (TL.opP rfl (op_pickF rfl rfl) (TL.nil (TQ.then (TC.condF rfl (TC.exit (TQ.then_exit (TQ.loop_exit (TQ.block_hit (TQ.then (TC.seq (TC.seq (TC.region (TL.mv rfl rfl (TL.opP rfl (op_lss rfl rfl) (TL.nil (TQ.then ?_))))))))))))))))))
  refine TC.sp rfl (fun c5 => ?_) (fun c5 => ?_)
  ·refine TC.region (TL.opP rfl (op_move rfl) ?_)
   refine TL.opX rfl (OpX.callX en_85 rfl (xfail0_x l _ _ k gn hxl hln 90)) ?_; rintro _ _ ⟨rfl, rfl⟩
   refine TL.nil (TQ.then (TC.seq (TC.region (TL.mv rfl rfl (TL.opP rfl (op_max rfl) ?_)))))
   rw [hmx]
   refine TL.as rfl rfl (TL.nil (TQ.then (TC.ret ?_)))
   refine ret1 rfl rfl (fun w' hp => ?_)
   first
     | (rw [numGo_big (by omega) (by omega) (by omega)] at hg
        cases hg
        exact ⟨_, _, rfl, ⟨rfl, rfl⟩, (hp)⟩)
     | (have he := numGo_out (l := l) (f := f) (i := k) (n := n) (b := b) (by first | omega | (rw [nx_out (by omega)]; omega))
        rw [he] at hg
        cases b with
        | true => (first | (exfalso; have := hb2 rfl; omega) | (simp only [if_true] at hg; cases hg; exact ⟨_, _, rfl, ⟨rfl, rfl⟩, (hp)⟩))
        | false => (first | (exfalso; have := (hb rfl).2; omega) | (rw [if_neg (by decide)] at hg; cases hg; exact ⟨_, _, rfl, ⟨by rw [(hb rfl).1]; rfl, rfl⟩, (hp)⟩)))
  ·refine TC.skip (TQ.then (TC.seq (TC.region (TL.mv rfl rfl (TL.opP rfl (op_max rfl) ?_)))))
   rw [hmx]
   refine TL.as rfl rfl (TL.nil (TQ.then (TC.ret ?_)))
   refine ret1 rfl rfl (fun w' hp => ?_)
   first
     | (rw [numGo_big (by omega) (by omega) (by omega)] at hg
        cases hg
        exact ⟨_, _, rfl, ⟨rfl, rfl⟩, (hp)⟩)
     | (have he := numGo_out (l := l) (f := f) (i := k) (n := n) (b := b) (by first | omega | (rw [nx_out (by omega)]; omega))
        rw [he] at hg
        cases b with
        | true => (first | (exfalso; have := hb2 rfl; omega) | (simp only [if_true] at hg; cases hg; exact ⟨_, _, rfl, ⟨rfl, rfl⟩, (hp)⟩))
        | false => (first | (exfalso; have := (hb rfl).2; omega) | (rw [if_neg (by decide)] at hg; cases hg; exact ⟨_, _, rfl, ⟨by rw [(hb rfl).1]; rfl, rfl⟩, (hp)⟩)))

theorem xset_x (b : Bool) (v : Value) (hv : v.oneCell' = true) :
    CallX Tryd.prog 149 [.bool b, v] S w0 (L) (fun u L' => u = .agg (nodeC 1 b v nilS 0 0 false 0).toArray ∧ L' = L) := by
 intro w hp
 refine calls_start Tryd.func149 rfl rfl rfl (hp) ?_
 refine TC.seq (TC.region ?_)
 refine TL.opX rfl (OpX.alloc tz_sealskinref12_Part rfl) ?_; rintro _ _ ⟨g4, rfl, rfl⟩
 refine TL.nil (TQ.then (TC.seq (TC.region (TL.mv rfl rfl (TL.mv rfl rfl (TL.opP rfl (op_build (ps := #[(0, _), (1, _), (2, _)]) rfl (bl_sealskinref12_Part_012 _ _ _)) ?_))))))
 refine TL.opX0 (OpX.storeS tst_sealskinref12_Part rfl rfl rfl rfl rfl (nc_one (by first | rfl | assumption) rfl)) ?_; rintro _ _ rfl
 refine TL.nil (TQ.then (TC.ret ?_))
 refine retc tst_sealskinref12_Part rfl rfl m0 rfl (fun w' hp => ?_)
 exact ⟨_, _, rfl, ⟨rfl, rfl⟩, (hp.tail)⟩

end Go.SK
