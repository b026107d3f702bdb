/- Walks: layer 12, a pattern's text read; its steps made. -/
import Derived.Test.YtpomdenbgdgbhaaDoorE62
set_option linter.unusedVariables false
set_option linter.unusedSimpArgs false
set_option maxRecDepth 100000
namespace Go.SK
open Go Go.RowKit Go.Proofs
variable {S : Nat → Prop} {w0 : World} {F L : List Res}
/-- A pattern's text: no UTF-8, too long, or what it says. -/
def readF (s : ByteArray) : PR Nd := if valid s = false then .err 21 0 else if 200 < (dec s).length then .err 4 0 else parseF (dec s)
theorem readF_a {s : ByteArray} (h : valid s = false) : readF s = .err 21 0 := if_pos h
theorem readF_b {s : ByteArray} (h : valid s = true) (h2 : 200 < (dec s).length) : readF s = .err 4 0 := (if_neg (by rw [h]; decide)).trans (if_pos h2)
theorem readF_c {s : ByteArray} (h : valid s = true) (h2 : (dec s).length ≤ 200) : readF s = parseF (dec s) := (if_neg (by rw [h]; decide)).trans (if_neg (by omega))
section
variable {l : List Int} {e : Int} {j g : Nat} {t : Nd}
theorem parse_err (h : eitherF l (pPart l (l.length + 1) 0) 0 0 0 = .err e j) : parseF l = .err e j := by unfold parseF; rw [h]
theorem parse_more (h : eitherF l (pPart l (l.length + 1) 0) 0 0 0 = .ok t j g) (h2 : j < l.length) : parseF l = .err 90 j := by unfold parseF; rw [h]; exact if_pos h2
theorem parse_ok (h : eitherF l (pPart l (l.length + 1) 0) 0 0 0 = .ok t j g) (h2 : ¬ j < l.length) : parseF l = .ok t j g := by unfold parseF; rw [h]; exact if_neg h2
end
def PaRes (s : ByteArray) (rs : List Res) (v : Value) (gn i e : Int) : Prop := match readF s with
  | .ok t _ g => e = 0 ∧ i = 0 ∧ gn = g ∧ v.oneCell' = true ∧ PNd rs t v
  | .err e' j => e = e' ∧ e' ≠ 0 ∧ i = j ∧ v = .pointer none
theorem pparse_x (s : ByteArray) (hs : s.size ≤ 1048576) (hT : tabs ∈ L) :
    CallX Tryd.prog 92 [.string s] S w0 (L) (fun u L' => ∃ rs v gn i e, u = .tuple #[v, .int .i64 gn, .int .i64 i, .int .i64 e] ∧ PaRes s rs v gn i e ∧ L' = fz rs :: L) := by
 intro w hp
 have hdl := dec_len s
 refine calls_start Tryd.func92 rfl rfl rfl (hp) ?_
 refine TC.seq (TC.region (TL.as rfl rfl (TL.as rfl rfl (TL.as rfl rfl (TL.as rfl rfl (TL.nil (TQ.then (TC.seq (TC.seq (TC.region (TL.mv rfl rfl (TL.callq rfl en_18 rfl (fun w2 hp => valid_calls s w2 (tabs_at hp hT) (by omega)) (TL.opP rfl (op_not rfl rfl) (TL.nil (TQ.then ?_)))))))))))))))
 refine TC.sp rfl (fun c1 => ?_) (fun c1 => ?_)
 ·have hv : valid s = false := by simpa using c1
  refine TC.seq (TC.region (TL.as rfl rfl (TL.as rfl rfl (TL.as rfl rfl (TL.as rfl rfl (TL.nil (TQ.then (TC.ret (TQ.then_ret ?_)))))))))
  refine ret4 rfl rfl rfl rfl rfl (fun w' hp => ?_)
  exact ⟨_, _, rfl, ⟨_, _, _, _, _, rfl, by (unfold PaRes; rw [readF_a hv]; exact ⟨rfl, by decide, rfl, rfl⟩), rfl⟩, fz_nil (hp)⟩
 ·have hv : valid s = true := by simpa using c1
  refine TC.skip (TQ.then (TC.seq (TC.region (TL.opP rfl (op_move rfl) ?_))))
  refine TL.opX rfl (OpX.runes un_string tsl_int32 un_int32 rfl (by omega)) ?_; rintro v1 _ rfl
  refine TL.know (fun _ h => row1 h) (fun o1 => (TL.hp (fun _ h => row_rd h) (TL.opP rfl (op_build (ps := #[(0, _)]) rfl (bl_match_reader_0 _)) ?_)))
  refine TL.opX rfl (OpX.box (cs := _) rfl rfl) ?_; rintro _ _ ⟨g15, rfl, rfl⟩
  refine TL.hp (fun _ h => fz_nil h) (TL.as rfl rfl (TL.nil (TQ.then (TC.seq (TC.seq (TC.region (TL.mv rfl rfl (TL.opP rfl (op_nilCheck rfl) (TL.opP rfl (op_field fld_match_reader_l rfl) (TL.opV rfl (op_load ts_sl_int32 rfl m1 rfl) (TL.opV rfl (op_lenV rfl un_sl_int32 rfl rd2) (TL.opP rfl (op_gtr rfl rfl) (TL.nil (TQ.then ?_))))))))))))))
  refine TC.sp rfl (fun c2 => ?_) (fun c2 => ?_)
  ·refine TC.seq (TC.region (TL.as rfl rfl (TL.as rfl rfl (TL.as rfl rfl (TL.as rfl rfl (TL.nil (TQ.then (TC.ret (TQ.then_ret ?_)))))))))
   refine ret4 rfl rfl rfl rfl rfl (fun w' hp => ?_)
   exact ⟨_, _, rfl, ⟨_, _, _, _, _, rfl, by (unfold PaRes; rw [readF_b hv (by omega)]; exact ⟨rfl, by decide, rfl, rfl⟩), rfl⟩, (hp.drop2.drop1)⟩
  ·have hln : (dec s).length ≤ 200 := by omega
   refine TC.skip (TQ.then (TC.seq (TC.region (TL.opP rfl (op_move rfl) ?_))))
   refine TL.opX rfl (OpX.callX en_125 rfl (peither_x (dec s) _ _ 0 0 rd0 hln [] ((dec s).length + 1) 0 (hpart hln _) (by decide) (Nat.zero_le _) (by omega) (Nat.zero_le _))) ?_; rintro _ _ ⟨rz2, iz2, gz2, vz2, ez2, rfl, hR2, rfl⟩
   have hvo := hR2.one
   refine TL.mv rfl rfl (TL.opP rfl (op_extract rfl rfl) (TL.opP rfl (op_extract rfl rfl) (TL.as rfl rfl (TL.as rfl rfl (TL.nil (TQ.then (TC.seq (TC.seq (TC.region (TL.mv rfl rfl (TL.opP rfl (op_neq rfl rfl) (TL.nil (TQ.then ?_)))))))))))))
   refine TC.sp rfl (fun c3 => ?_) (fun c3 => ?_)
   ·obtain ⟨hE, rfl⟩ := hR2.bad c3
    refine TC.seq (TC.draw [] (.cons (.p, 0) (.cons (.p, 1) (.cons (.p, 2) (.cons (.p, 4) (.cons (.p, 5) (.cons (.p, 6) (.cons (.t, 3) (.cons (.p, 7) (.cons (.p, 8) (.nil)))))))))) mo (by kernel_rfl) (TR.p rfl rfl wt0 (op_move rfl) (TR.p rfl rfl wt0 (op_nilCheck rfl) (TR.p rfl rfl wt0 (op_field fld_match_reader_at rfl) (TR.p rfl rfl wt0 (op_move rfl) (TR.p rfl rfl wt0 (op_assign rfl) (TR.p rfl rfl wt0 (op_assign rfl) (TR.t rfl rfl wt0 (op_load ts_int rfl m1 rfl) (fun _ h => h) (TR.p rfl rfl wt0 (op_assign rfl) (TR.p rfl rfl wt0 (op_assign rfl) (TR.nil (TQ.then (TC.ret (TQ.then_ret ?_))))))))))))))
    refine ret4 rfl rfl rfl rfl rfl (fun w' hp => ?_)
    exact ⟨_, _, rfl, ⟨_, _, _, _, _, rfl, by (unfold PaRes; rw [readF_c hv hln, parse_err hE]; exact ⟨rfl, c3, rfl, rfl⟩), rfl⟩, (hp.drop2.drop1)⟩
   ·obtain ⟨t, hE, hPN⟩ := hR2.good c3
    refine TC.skip (TQ.then (TC.seq (TC.seq (TC.region (TL.mv rfl rfl (TL.hp (fun _ h => h.pick1) ?_))))))
    refine TL.opX rfl (OpX.callX en_126 rfl (pmore_x (dec s) _ _ _ _ rd1 hln)) ?_; rintro _ _ ⟨rfl, rfl⟩
    refine TL.nil (TQ.then ?_)
    refine TC.sp rfl (fun c4 => ?_) (fun c4 => ?_)
    ·refine TC.seq (TC.draw [] (.cons (.p, 0) (.cons (.p, 1) (.cons (.p, 2) (.cons (.p, 4) (.cons (.p, 5) (.cons (.t, 3) (.cons (.p, 6) (.cons (.p, 7) (.nil))))))))) mo (by kernel_rfl) (TR.p rfl rfl wt0 (op_move rfl) (TR.p rfl rfl wt0 (op_nilCheck rfl) (TR.p rfl rfl wt0 (op_field fld_match_reader_at rfl) (TR.p rfl rfl wt0 (op_assign rfl) (TR.p rfl rfl wt0 (op_assign rfl) (TR.t rfl rfl wt0 (op_load ts_int rfl m0 rfl) (fun _ h => h) (TR.p rfl rfl wt0 (op_assign rfl) (TR.p rfl rfl wt0 (op_assign rfl) (TR.nil (TQ.then (TC.ret (TQ.then_ret ?_)))))))))))))
     refine ret4 rfl rfl rfl rfl rfl (fun w' hp => ?_)
     exact ⟨_, _, rfl, ⟨_, _, _, _, _, rfl, by (unfold PaRes; rw [readF_c hv hln, parse_more hE (by omega)]; exact ⟨rfl, by decide, rfl, rfl⟩), rfl⟩, (hp.drop2.tail)⟩
    ·refine TC.skip (TQ.then (TC.seq (TC.draw [] (.cons (.p, 0) (.cons (.p, 1) (.cons (.p, 2) (.cons (.p, 3) (.cons (.p, 5) (.cons (.t, 4) (.cons (.p, 6) (.cons (.p, 7) (.cons (.p, 8) (.nil)))))))))) mo (by kernel_rfl) (TR.p rfl rfl wt0 (op_move rfl) (TR.p rfl rfl wt0 (op_move rfl) (TR.p rfl rfl wt0 (op_nilCheck rfl) (TR.p rfl rfl wt0 (op_field fld_match_reader_groups rfl) (TR.p rfl rfl wt0 (op_assign rfl) (TR.t rfl rfl wt0 (op_load ts_int rfl m0 rfl) (fun _ h => h) (TR.p rfl rfl wt0 (op_assign rfl) (TR.p rfl rfl wt0 (op_assign rfl) (TR.p rfl rfl wt0 (op_assign rfl) (TR.nil (TQ.then (TC.ret ?_)))))))))))))))
     refine ret4 rfl rfl rfl rfl rfl (fun w' hp => ?_)
     exact ⟨_, _, rfl, ⟨_, _, _, _, _, rfl, by (unfold PaRes; rw [readF_c hv hln, parse_ok hE (by omega)]; exact ⟨rfl, rfl, rfl, hvo, hPN⟩), rfl⟩, (hp.drop2.tail)⟩

/-! ### Steps in memory -/
abbrev MS := StP × Value
def msC : List MS → List Value
  | [] => []
  | m :: r => .int .i64 m.1.k :: .bool m.1.neg :: m.2 :: .int .i64 (m.1.x : Int) :: .int .i64 (m.1.y : Int) :: msC r
theorem msC_len : ∀ ms, (msC ms).length = ms.length * 5
  | [] => rfl
  | m :: r => by simp only [msC, List.length_cons, msC_len r]; omega
theorem msC_append : ∀ a b, msC (a ++ b) = msC a ++ msC b
  | [], b => rfl
  | m :: r, b => by simp only [msC, List.cons_append, msC_append r]
theorem msC_one : ∀ {ms : List MS}, (∀ m ∈ ms, m.2.oneCell' = true) → ∀ u ∈ msC ms, u.oneCell' = true
  | [], h, u, hu => by cases hu
  | m :: r, h, u, hu => by
    simp only [msC, List.mem_cons] at hu
    rcases hu with rfl | rfl | rfl | rfl | rfl | hu
    · rfl
    · rfl
    · exact h m (.head _)
    · rfl
    · rfl
    · exact msC_one (fun m hm => h m (.tail _ hm)) u hu
theorem row_lenMS {S : Nat → Prop} {w0 w : World} {L : List Res} {v : Value} {e m : Nat} {ms : List MS} (h : Hp S w0 w (.row v e 5 m (msC ms) :: L)) : Hp S w0 w (.row v e 5 ms.length (msC ms) :: L) := by
  have h1 : w.ownsRow 0 e 5 v m (msC ms) := h.at_ _ (.head _)
  have h2 : ms.length = m := by have := h1.1; rw [msC_len] at this; omega
  rw [h2]; exact h
theorem row_lenMS2 {S : Nat → Prop} {w0 w : World} {L : List Res} {r : Res} {v : Value} {e m : Nat} {ms : List MS} (h : Hp S w0 w (r :: .row v e 5 m (msC ms) :: L)) : Hp S w0 w (r :: .row v e 5 ms.length (msC ms) :: L) := (row_lenMS h.pick1).pick1
theorem row_shape {S : Nat → Prop} {w0 w : World} {L : List Res} {v : Value} {e k m : Nat} {xs : List Value} (h : Hp S w0 w (.row v e k m xs :: L)) : ∃ A c, v = .slice A m c ∧ (0 < m → ∃ ad, A = some ad) := by
  obtain ⟨_, A, c, hv, _, _, hA, _⟩ := RdRow.of_own (h.at_ _ (.head _) : w.ownsRow 0 e k v m xs)
  exact ⟨A, c, hv, hA⟩
theorem op_indexP {P : Program} {n : Nat} {l : FrL} {dst : Option Tmp} {ty : TypeId} {pos : String} {af : Array Edge} {gd : Option (Nat × Bool)} {x y : Operand} {v : Value} {t e k bytes : Nat} {z : Value} {m : Nat} {i : Int} {ki : IntKind} (ht : TSlice P t e k bytes z) (hx : evO l x = some v) (hv : ∃ A c, v = .slice A m c ∧ (0 < m → ∃ ad, A = some ad)) (hy : evO l y = some (.int ki i)) (h0 : 0 ≤ i) (h1 : i < m) :
    OpP P n l ⟨dst, .indexAddr t x y, ty, pos, af, gd⟩ (.pointer (some ((Value.adr v).add (i.toNat * k)))) := fun a w ha => by
  obtain ⟨A, c, rfl, hA⟩ := hv
  obtain ⟨ad, rfl⟩ := hA (by omega)
  have hs := ht.sizeE w
  simp [execOp, ha.eval hx, ha.eval hy, Instr.indexAt, asIntOf, run_underlying ht.und, h0, h1, hs, Value.adr]
theorem op_lenP {P : Program} {n : Nat} {l : FrL} {dst : Option Tmp} {ty : TypeId} {pos : String} {af : Array Edge} {gd : Option (Nat × Bool)} {v : Value} {ars : Array Operand} {ts : Array TypeId} {t e m : Nat} (hts : ts[0]? = some t) (ht : P.underlying t = some (.slice e)) (has : evOs l ars.toList = some [v]) (hv : ∃ A c, v = .slice A m c ∧ (0 < m → ∃ ad, A = some ad)) : OpP P n l ⟨dst, .call { callee := .builtin .len, args := ars, argTypes := ts }, ty, pos, af, gd⟩ (.int .i64 m) := by
  obtain ⟨A, c, rfl, _⟩ := hv
  exact op_len hts ht has
theorem st_cell {X : List MS} {A B : List MS} {s s' : StP} {sv u : Value} {k j : Nat} (hX : X = A ++ (s, sv) :: B) (hj : j < 5) (hk : k = A.length * 5 + j) (hs : (msC [(s, sv)]).set j u = msC [(s', sv)]) :
    (msC X).take k ++ [u] ++ (msC X).drop (k + 1) = msC (A ++ (s', sv) :: B) := by
  subst hX hk
  have e : ∀ (t : StP), msC (A ++ (t, sv) :: B) = msC A ++ (msC [(t, sv)] ++ msC B) := fun t => by rw [msC_append]; rfl
  rw [e, e, ← hs]
  have hl : (msC A).length = A.length * 5 := msC_len A
  have h5 : (msC [(s, sv)]).length = 5 := rfl
  rw [← hl, List.take_append, List.drop_append, List.take_of_length_le (by omega), List.drop_of_length_le (by omega)]
  rw [show (msC A).length + j - (msC A).length = j by omega, show (msC A).length + j + 1 - (msC A).length = j + 1 by omega]
  rw [List.take_append_of_le_length (by omega), List.drop_append_of_le_length (by omega), List.set_eq_take_append_cons_drop, if_pos (by omega)]
  simp
theorem st_x {X A B : List MS} {s s' : StP} {sv : Value} {x k : Nat} (hX : X = A ++ (s, sv) :: B) (hs : { s with x := x } = s') (hk : k = A.length * 5 + 3) : (msC X).take k ++ [.int .i64 (x : Int)] ++ (msC X).drop (k + 1) = msC (A ++ (s', sv) :: B) :=
  st_cell hX (by decide) hk (by subst hs; rfl)
theorem st_y {X A B : List MS} {s s' : StP} {sv : Value} {y k : Nat} (hX : X = A ++ (s, sv) :: B) (hs : { s with y := y } = s') (hk : k = A.length * 5 + 4) : (msC X).take k ++ [.int .i64 (y : Int)] ++ (msC X).drop (k + 1) = msC (A ++ (s', sv) :: B) :=
  st_cell hX (by decide) hk (by subst hs; rfl)
theorem bs_match_step_1 (m : MS) (h : m.2.oneCell' = true) : ∀ w : World, (Instr.buildSlice 79 1 #[(0, .agg #[.int .i64 m.1.k, .bool m.1.neg, m.2, .int .i64 (m.1.x : Int), .int .i64 (m.1.y : Int)])]).run Tryd.prog w = .ok (.slice (some ⟨w.heap.size, 0, none⟩) 1 1) (w.alloc (.cells (msC [m]).toArray 156 (0, 0))) := by
  obtain ⟨⟨k, neg, set, x, y⟩, sv⟩ := m
  cases sv <;> first | (cases h; done) | (intro w; kernel_rfl)
theorem madd_x (g : Nat) (mv : Value) (ms : List MS) (hmv : mv.oneCell' = true) (hone : ∀ m ∈ ms, m.2.oneCell' = true) (s : StP) (sv : Value) (hsv : sv.oneCell' = true) (hb : ms.length ≤ 100000) :
    CallX Tryd.prog 94 [.pointer (some ⟨g, 0, none⟩), .agg #[.int .i64 s.k, .bool s.neg, sv, .int .i64 (s.x : Int), .int .i64 (s.y : Int)]] S w0 (.blk g (.cells [mv].toArray 151 (0, 0)) :: .row mv 156 5 (ms).length (msC (ms)) :: F) (fun u L' => ∃ mv', u = .int .i64 ((ms.length : Nat) : Int) ∧ mv'.oneCell' = true ∧ L' = .blk g (.cells [mv'].toArray 151 (0, 0)) :: .row mv' 156 5 (ms ++ [(s, sv)]).length (msC (ms ++ [(s, sv)])) :: F) := by
 intro w hp
 refine calls_start Tryd.func94 rfl rfl rfl (hp) ?_
 refine TC.seq (TC.region ?_)
 refine TL.opX rfl (OpX.box (cs := _) rfl rfl) ?_; rintro _ _ ⟨g3, rfl, rfl⟩
 refine TL.as rfl rfl (TL.nil (TQ.then (TC.seq (TC.draw [7, 10] (.cons (.p, 0) (.cons (.p, 1) (.cons (.p, 2) (.cons (.p, 3) (.cons (.t, 4) (.cons (.t, 5) (.cons (.o, 6) (.cons (.z, 7) (.cons (.p, 8) (.cons (.p, 9) (.cons (.z, 10) (.nil)))))))))))) mo (by kernel_rfl) (TR.p rfl rfl wt0 (op_move rfl) (TR.p rfl rfl wt0 (op_move rfl) (TR.p rfl rfl wt0 (op_nilCheck rfl) (TR.p rfl rfl wt0 (op_field fld_match_maker_l rfl) (TR.t rfl rfl wt0 (op_load ts_sl_match_step rfl m1 rfl) (fun _ h => h) (TR.t rfl rfl wt0 (op_loadS tst_match_step rfl m0 rfl) (fun _ h => h) ?_))))))))))
 refine TR.o rfl rfl wt0 (OpX.buildSlice (ps := #[(0, _)]) rfl (bs_match_step_1 (s, sv) hsv)) (by rintro _ _ ⟨g11, rfl, rfl⟩; intro w h; exact h.tail) ?_; rintro _ _ ⟨g11, rfl, rfl⟩
 refine TR.hp (fun _ h => blk_row (k := 5) (m := 1) h rfl (by decide)) (TR.hp (fun _ h => h.pick3) ?_)
 refine TR.z rfl rfl wt0 (OpX.append (bytes := 56) tsl_match_step (by decide) (by decide) rfl rw1 (msC_one (fun m hm => by rw [List.mem_singleton.1 hm]; exact hsv)) (by omega) (zs := msC (ms ++ [(s, sv)])) (msC_append _ _).symm) ?_; rintro v1 _ rfl
 refine TR.know (fun _ h => row1 h) (fun o1 => (TR.hp (fun _ h => row_lenMS h) (TR.p rfl rfl wt0 (op_nilCheck rfl) (TR.p rfl rfl wt0 (op_field fld_match_maker_l rfl) (TR.hp (fun _ h => h.pick3) ?_)))))
 refine TR.z0 rfl wt0 (OpX.store1 ts_sl_match_step rfl rfl (by first | rfl | assumption) rfl rfl) ?_; rintro _ _ rfl
 refine TR.nil (TQ.then (TC.seq (TC.region (TL.mv rfl rfl (TL.opP rfl (op_nilCheck rfl) (TL.opP rfl (op_field fld_match_maker_l rfl) (TL.opV rfl (op_load ts_sl_match_step rfl m0 rfl) (TL.opV rfl (op_lenV rfl un_sl_match_step rfl rw1) ?_))))))))
 refine TL.opP rfl (op_sub (r := ((ms.length : Nat) : Int)) rfl rfl (by rw [List.length_append, List.length_singleton]; omega) (by omega) (by omega)) ?_
 refine TL.as rfl rfl (TL.nil (TQ.then (TC.ret ?_)))
 refine ret1 rfl rfl (fun w' hp => ?_)
 exact ⟨_, _, rfl, ⟨_, rfl, by assumption, rfl⟩, (hp.drop3.drop2)⟩

theorem mfork_x (g : Nat) (mv : Value) (A B : List MS) (x y here there : Nat) (sv : Value) (lazy : Bool) :
    CallX Tryd.prog 146 [.pointer (some ⟨g, 0, none⟩), .int .i64 ((A.length : Nat) : Int), .int .i64 ((here : Nat) : Int), .int .i64 ((there : Nat) : Int), .bool lazy] S w0 (.blk g (.cells [mv].toArray 151 (0, 0)) :: .row mv 156 5 (A ++ (stB x y, sv) :: B).length (msC (A ++ (stB x y, sv) :: B)) :: F) (fun u L' => u = .tuple #[] ∧ L' = .blk g (.cells [mv].toArray 151 (0, 0)) :: .row mv 156 5 (A ++ (fork here there lazy, sv) :: B).length (msC (A ++ (fork here there lazy, sv) :: B)) :: F) := by
 intro w hp
 have hshp := row_shape hp.tail
 have hAB : (A ++ (stB x y, sv) :: B).length = A.length + B.length + 1 := by simp; omega
 refine calls_start Tryd.func146 rfl rfl rfl (hp) ?_
 refine TC.seq (TC.seq (TC.region (TL.mv rfl rfl (TL.nil (TQ.then ?_)))))
 refine TC.sp rfl (fun c1 => ?_) (fun c1 => ?_)
 ·refine TC.region (TL.mv rfl rfl (TL.mv rfl rfl (TL.as rfl rfl (TL.as rfl rfl (TL.nil (TQ.then (TC.drawS (.blk g (.cells [mv].toArray 151 (0, 0)) :: F) [14, 17] (.cons (.p, 0) (.cons (.p, 1) (.cons (.p, 2) (.cons (.p, 4) (.cons (.p, 5) (.cons (.p, 6) (.cons (.p, 7) (.cons (.p, 9) (.cons (.p, 10) (.cons (.p, 11) (.cons (.t, 3) (.cons (.t, 8) (.cons (.p, 12) (.cons (.p, 13) (.cons (.z, 14) (.cons (.p, 15) (.cons (.p, 16) (.cons (.z, 17) (.nil))))))))))))))))))) mo (by kernel_rfl) (TR.p rfl rfl wt0 (op_move rfl) (TR.p rfl rfl wt0 (op_nilCheck rfl) (TR.p rfl rfl wt0 (op_field fld_match_maker_l rfl) (TR.p rfl rfl wt0 (op_move rfl) (TR.p rfl rfl wt0 (op_move rfl) ?_))))))))))))
  refine TR.p rfl rfl wt0 (op_nilCheck rfl) (TR.p rfl rfl wt0 (op_field fld_match_maker_l rfl) (TR.p rfl rfl wt0 (op_move rfl) (TR.p rfl rfl wt0 (op_move rfl) (TR.p rfl rfl wt0 (op_move rfl) (TR.t rfl rfl wt0 (op_load ts_sl_match_step rfl m0 rfl) (fun _ h => h.drop1) (TR.t rfl rfl wt0 (op_load ts_sl_match_step rfl m0 rfl) (fun _ h => h.drop1) (TR.p rfl rfl wt0 (op_indexP tsl_match_step rfl hshp rfl (by omega) (by omega)) (TR.p rfl rfl wt0 (op_fieldA fld_match_step_x rfl) (TR.hp (fun _ h => h.pick1) ?_)))))))))
  refine TR.z0 rfl wt0 (OpX.storeRow (k := 1) (fun w => by kernel_rfl) rfl rfl rfl (ys := [.int .i64 ((there : Nat) : Int)]) rfl (by decide) (List.all_eq_true.1 rfl) (by omega) (st_x (A := A) rfl rfl (by omega))) ?_; rintro _ _ rfl
  refine TR.p rfl rfl wt0 (op_indexP tsl_match_step rfl hshp rfl (by omega) (by omega)) (TR.p rfl rfl wt0 (op_fieldA fld_match_step_y rfl) ?_)
  refine TR.z0 rfl wt0 (OpX.storeRow (k := 1) (fun w => by kernel_rfl) rfl rfl rfl (ys := [.int .i64 ((here : Nat) : Int)]) rfl (by decide) (List.all_eq_true.1 rfl) (by omega) (st_y (A := A) rfl rfl (by omega))) ?_; rintro _ _ rfl
  refine TR.nil ?_
  refine end0 rfl (fun w' hp => ?_)
  (subst c1; exact ⟨_, _, rfl, ⟨rfl, rfl⟩, row_lenMS2 (hp.pick1)⟩)
 ·refine TC.skip (TQ.then (TC.drawS (.blk g (.cells [mv].toArray 151 (0, 0)) :: F) [14, 17] (.cons (.p, 0) (.cons (.p, 1) (.cons (.p, 2) (.cons (.p, 4) (.cons (.p, 5) (.cons (.p, 6) (.cons (.p, 7) (.cons (.p, 9) (.cons (.p, 10) (.cons (.p, 11) (.cons (.t, 3) (.cons (.t, 8) (.cons (.p, 12) (.cons (.p, 13) (.cons (.z, 14) (.cons (.p, 15) (.cons (.p, 16) (.cons (.z, 17) (.nil))))))))))))))))))) mo (by kernel_rfl) (TR.p rfl rfl wt0 (op_move rfl) (TR.p rfl rfl wt0 (op_nilCheck rfl) (TR.p rfl rfl wt0 (op_field fld_match_maker_l rfl) (TR.p rfl rfl wt0 (op_move rfl) (TR.p rfl rfl wt0 (op_move rfl) (TR.p rfl rfl wt0 (op_nilCheck rfl) (TR.p rfl rfl wt0 (op_field fld_match_maker_l rfl) (TR.p rfl rfl wt0 (op_move rfl) ?_))))))))))
  refine TR.p rfl rfl wt0 (op_move rfl) (TR.p rfl rfl wt0 (op_move rfl) (TR.t rfl rfl wt0 (op_load ts_sl_match_step rfl m0 rfl) (fun _ h => h.drop1) (TR.t rfl rfl wt0 (op_load ts_sl_match_step rfl m0 rfl) (fun _ h => h.drop1) (TR.p rfl rfl wt0 (op_indexP tsl_match_step rfl hshp rfl (by omega) (by omega)) (TR.p rfl rfl wt0 (op_fieldA fld_match_step_x rfl) (TR.hp (fun _ h => h.pick1) ?_))))))
  refine TR.z0 rfl wt0 (OpX.storeRow (k := 1) (fun w => by kernel_rfl) rfl rfl rfl (ys := [.int .i64 ((here : Nat) : Int)]) rfl (by decide) (List.all_eq_true.1 rfl) (by omega) (st_x (A := A) rfl rfl (by omega))) ?_; rintro _ _ rfl
  refine TR.p rfl rfl wt0 (op_indexP tsl_match_step rfl hshp rfl (by omega) (by omega)) (TR.p rfl rfl wt0 (op_fieldA fld_match_step_y rfl) ?_)
  refine TR.z0 rfl wt0 (OpX.storeRow (k := 1) (fun w => by kernel_rfl) rfl rfl rfl (ys := [.int .i64 ((there : Nat) : Int)]) rfl (by decide) (List.all_eq_true.1 rfl) (by omega) (st_y (A := A) rfl rfl (by omega))) ?_; rintro _ _ rfl
  refine TR.nil ?_
  refine end0 rfl (fun w' hp => ?_)
  (subst c1; exact ⟨_, _, rfl, ⟨rfl, rfl⟩, row_lenMS2 (hp.pick1)⟩)

end Go.SK
