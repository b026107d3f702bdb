/- Walks: the document's own answer: lists put together. -/
import Derived.Test.YtgklklmcmdcpgaaDoorE8
set_option linter.unusedVariables false
set_option linter.unusedSimpArgs false
set_option maxRecDepth 100000
namespace Go.SK
open Go Go.RowKit Go.Proofs
variable {S : Nat → Prop} {w0 : World} {F L : List Res}
theorem op_pneq {n : Nat} {l : FrL} {dst : Option Tmp} {x y : Operand} {ty t' : TypeId} {pos : String} {af : Array Edge} {gd : Option (Nat × Bool)} {p q : Part} (hx : evO l x = some (.agg p.cs.toArray)) (hy : evO l y = some (.agg q.cs.toArray)) :
    OpP Tryd.prog n l ⟨dst, .binOp .neq 47 x y t', ty, pos, af, gd⟩ (.bool (decide (p ≠ q))) := fun a w ha => by
  have hg : (eqGuard .neq 47 x y (.agg p.cs.toArray) (.agg q.cs.toArray)).run Tryd.prog w = .ok () w := by kernel_rfl
  have h1 : (Op.equal 47 (.agg p.cs.toArray) (.agg q.cs.toArray)).run Tryd.prog w = .ok ((p.kind == q.kind) && ((p.n == q.n) && (p.text.toList == q.text.toList))) w := by
    have hf : (Tryd.prog.fieldsOf 47).toList = [⟨"Kind", 3, 0, false, "", "", 0⟩, ⟨"N", 3, 1, false, "", "", 8⟩, ⟨"Text", 9, 2, false, "", "", 16⟩] := by kernel_rfl
    unfold Op.equal
    rw [show Op.maxDepth = (Op.maxDepth - 2) + 1 + 1 from by decide]
    rw [run_equalIn_struct w _ 47 _ _ (by kernel_rfl) (by kernel_rfl), hf]
    have p1 : (part 3 p.cs.toArray 0).run Tryd.prog w = .ok (.int .i64 p.kind) w := by kernel_rfl
    have p2 : (part 3 p.cs.toArray 1).run Tryd.prog w = .ok (.int .i64 p.n) w := by kernel_rfl
    have p3 : (part 9 p.cs.toArray 2).run Tryd.prog w = .ok (.string p.text) w := by kernel_rfl
    have q1 : (part 3 q.cs.toArray 0).run Tryd.prog w = .ok (.int .i64 q.kind) w := by kernel_rfl
    have q2 : (part 3 q.cs.toArray 1).run Tryd.prog w = .ok (.int .i64 q.n) w := by kernel_rfl
    have q3 : (part 9 q.cs.toArray 2).run Tryd.prog w = .ok (.string q.text) w := by kernel_rfl
    have i1 := fun a b => run_equalIn_int (P := Tryd.prog) w (Op.maxDepth - 2) 3 .i64 .i64 a b un_int
    have i2 := fun a b => run_equalIn_string (P := Tryd.prog) w (Op.maxDepth - 2) 9 a b un_string
    simp only [Op.eqFields, ne_eq, String.reduceEq, not_false_eq_true, if_true, Sem.run_bind, p1, p2, p3, q1, q2, q3, Result.andThen_ok, i1, i2]
    cases h1 : (p.kind == q.kind) <;> cases h2 : (p.n == q.n) <;> cases h3 : (p.text.toList == q.text.toList) <;> simp [Sem.run_pure, i1, i2, h1, h2, h3, p1, p2, p3, q1, q2, q3]
  have h2 : (!((p.kind == q.kind) && ((p.n == q.n) && (p.text.toList == q.text.toList)))) = decide (p ≠ q) := by
    rw [str_eq]
    cases p; cases q
    simp only [ne_eq, Part.mk.injEq, decide_not, Bool.not_eq_not]
    rw [Bool.eq_iff_iff]
    simp
  simp only [execOp, ha.eval hx, ha.eval hy, Sem.run_bind, hg, Result.andThen_ok, binOp, h1, Sem.run_pure, h2]
theorem rone_x (r : List Part) (p : Part) (v : Value) (hb : OneB r p) (hr : Rdb L v 3 r.length (encs r.reverse)) :
    CallX Tryd.prog 57 [v, p.val] S w0 (L) (fun u L' => ∃ v', u = v' ∧ L' = .row v' 47 3 (oneR r p).length (encs (oneR r p).reverse) :: L) := by
  intro w hp
  have hlen := hb.len
  have hp0 := hb.p0
  refine calls_start Tryd.func57 rfl rfl rfl (hp) ?_
  refine TC.seq ?_
  refine TC.region ?_   -- region 0 ref.go:80
  refine TL.opX rfl (OpX.box (cs := p.cs) rfl rfl) ?_; rintro _ _ ⟨g3, rfl, rfl⟩
  refine TL.opP rfl (op_assign rfl) ?_
  refine TL.nil ?_
  refine TQ.then ?_
  refine TC.seq ?_
  refine TC.seq ?_
  refine TC.region ?_   -- region 1 ref.go:81
  refine TL.opP rfl (op_move rfl) ?_
  refine TL.opV rfl (op_lenV rfl un_sl_api_Part rfl hr.cons) ?_
  refine TL.opP rfl (op_assign rfl) ?_
  refine TL.nil ?_
  refine TQ.then ?_
  refine TC.seq ?_
  refine TC.draw [] (.cons (.p, 0) (.cons (.p, 1) (.cons (.p, 2) (.cons (.p, 3) (.cons (.p, 4) (.cons (.p, 5) (.cons (.p, 9) (.cons (.t, 6) (.cons (.p, 7) (.cons (.t, 8) (.cons (.t, 10) (.cons (.p, 11) (.cons (.p, 12) (.nil)))))))))))))) mo (by kernel_rfl) ?_   -- region 2 ref.go:81
  refine TR.p rfl rfl wt0 (op_move rfl) ?_
  refine TR.p rfl rfl wt0 (op_gtr rfl rfl) ?_
  refine TR.p rfl rfl wt0 (op_move rfl) ?_
  first | refine TR.splitD (fun c1 => ?_) (fun c1 => ?_) | refine TR.splitB (fun c1 => ?_) (fun c1 => ?_)
  · obtain ⟨q, r, rfl⟩ : ∃ q r', r = q :: r' := by cases r with | nil => simp at c1 | cons q r' => exact ⟨q, r', rfl⟩
    have hbh := hb.head
    have hlc : (q :: r).length = r.length + 1 := rfl
    have hrl : r.reverse.length = r.length := List.length_reverse
    have hrl2 : (q :: r).reverse.length = (q :: r).length := List.length_reverse
    refine TR.p rfl rfl (by exact wtT rfl rfl) (op_move rfl) ?_
    refine TR.p rfl rfl (by exact wtT rfl rfl) (op_move rfl) ?_
    refine TR.p rfl rfl (by exact wtT rfl rfl) (op_sub rfl rfl rfl (by omega) (by omega)) ?_
    refine TR.p rfl rfl (by exact wtT rfl rfl) (op_field fld_api_Part_Kind rfl) ?_
    refine TR.t rfl rfl (by exact wtT rfl rfl) (op_index tsl_api_Part rfl hr.cons rfl (by omega) (by omega)) (fun _ h => h) ?_
    refine TR.p rfl rfl (by exact wtT rfl rfl) (op_fieldA fld_api_Part_Kind rfl) ?_
    refine TR.t rfl rfl (by exact wtT rfl rfl) (op_loadR ts_int rfl hr.cons (lkR 0 (by omega) rfl)) (fun _ h => h) ?_
    refine TR.t rfl rfl (by exact wtT rfl rfl) (op_load ts_int rfl m0 rfl) (fun _ h => h) ?_
    refine TR.p rfl rfl (by exact wtT rfl rfl) (op_eql rfl rfl) ?_
    refine TR.p rfl rfl wt0 (op_pickT rfl rfl) ?_
    refine TR.nil ?_
    refine TQ.then ?_
    first | refine TC.condD rfl (fun c2 => ?_) (fun c2 => ?_) | refine TC.condB rfl (fun c2 => ?_) (fun c2 => ?_)
    · refine TC.seq ?_
      refine TC.region ?_   -- region 3 ref.go:82
      refine TL.opP rfl (op_move rfl) ?_
      refine TL.opP rfl (op_move rfl) ?_
      refine TL.opP rfl (op_sub rfl rfl rfl (by omega) (by omega)) ?_
      refine TL.opV rfl (op_index tsl_api_Part rfl hr.cons rfl (by omega) (by omega)) ?_
      refine TL.opV rfl (op_loadRS tst_api_Part rfl hr.cons (cs := q.cs) rfl (lkRS (by omega)) (by decide)) ?_
      refine TL.opX rfl (OpX.alloc tz_api_Part rfl) ?_; rintro _ _ ⟨g6, rfl, rfl⟩
      refine TL.opX0 (OpX.storeS tst_api_Part rfl rfl rfl rfl rfl (List.all_eq_true.1 rfl)) ?_; rintro _ _ rfl
      refine TL.nil ?_
      refine TQ.then ?_
      refine TC.seq ?_
      refine TC.region ?_   -- region 4 ref.go:83
      refine TL.opP rfl (op_field fld_api_Part_N rfl) ?_
      refine TL.opV rfl (op_load ts_int rfl m0 rfl) ?_
      refine TL.opP rfl (op_field fld_api_Part_N rfl) ?_
      refine TL.opV rfl (op_load ts_int rfl m1 rfl) ?_
      refine TL.opP rfl (op_add rfl rfl rfl (by omega) (by omega)) ?_
      refine TL.opP rfl (op_field fld_api_Part_N rfl) ?_
      refine TL.opX0 (OpX.store1 ts_int rfl rfl (by first | rfl | assumption) rfl rfl) ?_; rintro _ _ rfl
      refine TL.nil ?_
      refine TQ.then ?_
      refine TC.seq ?_
      refine TC.region ?_   -- region 5 ref.go:84
      refine TL.opP rfl (op_field fld_api_Part_Text rfl) ?_
      refine TL.opV rfl (op_load ts_string rfl m0 rfl) ?_
      refine TL.opP rfl (op_field fld_api_Part_Text rfl) ?_
      refine TL.opV rfl (op_load ts_string rfl m1 rfl) ?_
      refine TL.opP rfl (op_sadd rfl rfl (by omega)) ?_
      refine TL.opP rfl (op_field fld_api_Part_Text rfl) ?_
      refine TL.opX0 (OpX.store1 ts_string rfl rfl (by first | rfl | assumption) rfl rfl) ?_; rintro _ _ rfl
      refine TL.nil ?_
      refine TQ.then ?_
      refine TC.seq ?_
      refine TC.draw [] (.cons (.p, 1) (.cons (.p, 2) (.cons (.p, 3) (.cons (.t, 4) (.cons (.t, 6) (.alt (.cons (.o, 0) (.alt (.cons (.o, 5) (.cons (.o, 7) (.cons (.o, 8) (.cons (.p, 9) (.nil))))) (.cons (.o, 7) (.cons (.o, 5) (.cons (.o, 8) (.cons (.p, 9) (.nil))))))) (.cons (.o, 7) (.cons (.o, 0) (.cons (.o, 5) (.cons (.o, 8) (.cons (.p, 9) (.nil)))))))))))) mo (by kernel_rfl) ?_   -- region 6 ref.go:85
      refine TR.p rfl rfl wt0 (op_move rfl) ?_
      refine TR.p rfl rfl wt0 (op_move rfl) ?_
      refine TR.p rfl rfl wt0 (op_sub rfl rfl rfl (by omega) (by omega)) ?_
      refine TR.t rfl rfl wt0 (op_cut 0 r.length tsl_api_Part rfl hr.cons.cons (vlo := none) (vhi := (some _)) rfl rfl (.inl ⟨rfl, rfl⟩) (.inr ⟨_, _, rfl, by omega⟩) (by omega) (by omega)) (fun _ h => h) ?_
      refine TR.t rfl rfl wt0 (op_loadS tst_api_Part rfl m0 rfl) (fun _ h => h) ?_
      refine TR.alt ?_ ?_
      · refine TR.o rfl rfl wt0 (OpX.buildSlice (ps := #[]) rfl (bs_api_Part_0 )) (by rintro _ _ ⟨g39, rfl, rfl⟩; intro w h; exact h.tail) ?_; rintro _ _ ⟨g39, rfl, rfl⟩
        refine TR.hp (fun _ h => blk_row (k := 3) (m := 0) h rfl (by decide)) ?_
        refine TR.alt ?_ ?_
        · refine TR.o rfl rfl wt0 (OpX.append (bytes := 32) tsl_api_Part (by decide) (by decide) rfl (hr.cons.cons.cons).takeR (encs_one _) (by omega) (zs := encs r.reverse) rfl) (by rintro v1 _ rfl; intro w h; exact h.tail) ?_; rintro v1 _ rfl
          refine TR.know (fun _ h => row1 h) (fun o1 => ?_)
          refine TR.hp (fun _ h => row_len3 h) ?_
          refine TR.o rfl rfl wt0 (OpX.buildSlice (ps := #[(0, _)]) rfl (bs_api_Part_1 (q.more p))) (by rintro _ _ ⟨g46, rfl, rfl⟩; intro w h; exact h.drop1.tail) ?_; rintro _ _ ⟨g46, rfl, rfl⟩
          refine TR.hp (fun _ h => blk_row (k := 3) (m := 1) h rfl (by decide)) ?_
          refine TR.hp (fun _ h => h.pick1) ?_
          refine TR.o rfl rfl wt0 (OpX.append (bytes := 32) tsl_api_Part (by decide) (by decide) rfl rw1 (encs_one _) (by omega) (zs := encs (q.more p :: r).reverse) (encs_push _ _)) (by rintro v2 _ rfl; intro w h; exact h.drop1.tail) ?_; rintro v2 _ rfl
          refine TR.know (fun _ h => row1 h) (fun o2 => ?_)
          refine TR.hp (fun _ h => row_len3 h) ?_
          refine TR.p rfl rfl wt0 (op_assign rfl) ?_
          refine TR.nil ?_
          refine TQ.then ?_
          refine TC.ret ?_
          refine TQ.then_ret ?_
          refine ret1 rfl rfl (fun w' hp => ?_)
          have hq := (hp.drop3.drop2.drop1)
          first
            | (rw [List.length_reverse] at hq; exact ⟨_, _, rfl, ⟨_, rfl, by rw [oneR_same c2]⟩, hq⟩)
            | (rw [List.length_reverse] at hq; exact ⟨_, _, rfl, ⟨_, rfl, by rw [oneR_push c2]⟩, hq⟩)
            | (rw [List.length_reverse] at hq; exact ⟨_, _, rfl, ⟨_, rfl, rfl⟩, hq⟩)
        · refine TR.o rfl rfl wt0 (OpX.buildSlice (ps := #[(0, _)]) rfl (bs_api_Part_1 (q.more p))) (by rintro _ _ ⟨g46, rfl, rfl⟩; intro w h; exact h.drop1.tail) ?_; rintro _ _ ⟨g46, rfl, rfl⟩
          refine TR.hp (fun _ h => blk_row (k := 3) (m := 1) h rfl (by decide)) ?_
          refine TR.hp (fun _ h => h.pick1) ?_
          refine TR.o rfl rfl wt0 (OpX.append (bytes := 32) tsl_api_Part (by decide) (by decide) rfl (hr.cons.cons.cons.cons).takeR (encs_one _) (by omega) (zs := encs r.reverse) rfl) (by rintro v3 _ rfl; intro w h; exact h.drop1.tail) ?_; rintro v3 _ rfl
          refine TR.know (fun _ h => row1 h) (fun o3 => ?_)
          refine TR.hp (fun _ h => row_len3 h) ?_
          refine TR.o rfl rfl wt0 (OpX.append (bytes := 32) tsl_api_Part (by decide) (by decide) rfl rw1 (encs_one _) (by omega) (zs := encs (q.more p :: r).reverse) (encs_push _ _)) (by rintro v4 _ rfl; intro w h; exact h.drop1.tail) ?_; rintro v4 _ rfl
          refine TR.know (fun _ h => row1 h) (fun o4 => ?_)
          refine TR.hp (fun _ h => row_len3 h) ?_
          refine TR.p rfl rfl wt0 (op_assign rfl) ?_
          refine TR.nil ?_
          refine TQ.then ?_
          refine TC.ret ?_
          refine TQ.then_ret ?_
          refine ret1 rfl rfl (fun w' hp => ?_)
          have hq := (hp.drop3.drop2.drop1)
          first
            | (rw [List.length_reverse] at hq; exact ⟨_, _, rfl, ⟨_, rfl, by rw [oneR_same c2]⟩, hq⟩)
            | (rw [List.length_reverse] at hq; exact ⟨_, _, rfl, ⟨_, rfl, by rw [oneR_push c2]⟩, hq⟩)
            | (rw [List.length_reverse] at hq; exact ⟨_, _, rfl, ⟨_, rfl, rfl⟩, hq⟩)
      · refine TR.o rfl rfl wt0 (OpX.buildSlice (ps := #[(0, _)]) rfl (bs_api_Part_1 (q.more p))) (by rintro _ _ ⟨g46, rfl, rfl⟩; intro w h; exact h.tail) ?_; rintro _ _ ⟨g46, rfl, rfl⟩
        refine TR.hp (fun _ h => blk_row (k := 3) (m := 1) h rfl (by decide)) ?_
        refine TR.o rfl rfl wt0 (OpX.buildSlice (ps := #[]) rfl (bs_api_Part_0 )) (by rintro _ _ ⟨g39, rfl, rfl⟩; intro w h; exact h.drop1.tail) ?_; rintro _ _ ⟨g39, rfl, rfl⟩
        refine TR.hp (fun _ h => blk_row (k := 3) (m := 0) h rfl (by decide)) ?_
        refine TR.o rfl rfl wt0 (OpX.append (bytes := 32) tsl_api_Part (by decide) (by decide) rfl (hr.cons.cons.cons.cons).takeR (encs_one _) (by omega) (zs := encs r.reverse) rfl) (by rintro v5 _ rfl; intro w h; exact h.drop1.tail) ?_; rintro v5 _ rfl
        refine TR.know (fun _ h => row1 h) (fun o5 => ?_)
        refine TR.hp (fun _ h => row_len3 h) ?_
        refine TR.o rfl rfl wt0 (OpX.append (bytes := 32) tsl_api_Part (by decide) (by decide) rfl rw1 (encs_one _) (by omega) (zs := encs (q.more p :: r).reverse) (encs_push _ _)) (by rintro v6 _ rfl; intro w h; exact h.drop1.tail) ?_; rintro v6 _ rfl
        refine TR.know (fun _ h => row1 h) (fun o6 => ?_)
        refine TR.hp (fun _ h => row_len3 h) ?_
        refine TR.p rfl rfl wt0 (op_assign rfl) ?_
        refine TR.nil ?_
        refine TQ.then ?_
        refine TC.ret ?_
        refine TQ.then_ret ?_
        refine ret1 rfl rfl (fun w' hp => ?_)
        have hq := (hp.drop3.drop2.drop1)
        first
          | (rw [List.length_reverse] at hq; exact ⟨_, _, rfl, ⟨_, rfl, by rw [oneR_same c2]⟩, hq⟩)
          | (rw [List.length_reverse] at hq; exact ⟨_, _, rfl, ⟨_, rfl, by rw [oneR_push c2]⟩, hq⟩)
          | (rw [List.length_reverse] at hq; exact ⟨_, _, rfl, ⟨_, rfl, rfl⟩, hq⟩)
    · refine TC.skip ?_
      refine TQ.then ?_
      refine TC.seq ?_
      refine TC.draw [] (.cons (.p, 1) (.cons (.t, 3) (.alt (.cons (.o, 0) (.alt (.cons (.o, 2) (.cons (.o, 4) (.cons (.o, 5) (.cons (.p, 6) (.nil))))) (.cons (.o, 4) (.cons (.o, 2) (.cons (.o, 5) (.cons (.p, 6) (.nil))))))) (.cons (.o, 4) (.cons (.o, 0) (.cons (.o, 2) (.cons (.o, 5) (.cons (.p, 6) (.nil))))))))) mo (by kernel_rfl) ?_   -- region 7 ref.go:87
      refine TR.p rfl rfl wt0 (op_move rfl) ?_
      refine TR.t rfl rfl wt0 (op_loadS tst_api_Part rfl m0 rfl) (fun _ h => h) ?_
      refine TR.alt ?_ ?_
      · refine TR.o rfl rfl wt0 (OpX.buildSlice (ps := #[]) rfl (bs_api_Part_0 )) (by rintro _ _ ⟨g48, rfl, rfl⟩; intro w h; exact h.tail) ?_; rintro _ _ ⟨g48, rfl, rfl⟩
        refine TR.hp (fun _ h => blk_row (k := 3) (m := 0) h rfl (by decide)) ?_
        refine TR.alt ?_ ?_
        · refine TR.o rfl rfl wt0 (OpX.append (bytes := 32) tsl_api_Part (by decide) (by decide) rfl hr.cons.cons (encs_one _) (by omega) (zs := encs (q :: r).reverse) rfl) (by rintro v7 _ rfl; intro w h; exact h.tail) ?_; rintro v7 _ rfl
          refine TR.know (fun _ h => row1 h) (fun o7 => ?_)
          refine TR.hp (fun _ h => row_len3 h) ?_
          refine TR.o rfl rfl wt0 (OpX.buildSlice (ps := #[(0, _)]) rfl (bs_api_Part_1 p)) (by rintro _ _ ⟨g52, rfl, rfl⟩; intro w h; exact h.drop1.tail) ?_; rintro _ _ ⟨g52, rfl, rfl⟩
          refine TR.hp (fun _ h => blk_row (k := 3) (m := 1) h rfl (by decide)) ?_
          refine TR.hp (fun _ h => h.pick1) ?_
          refine TR.o rfl rfl wt0 (OpX.append (bytes := 32) tsl_api_Part (by decide) (by decide) rfl rw1 (encs_one _) (by omega) (zs := encs (p :: (q :: r)).reverse) (encs_push _ _)) (by rintro v8 _ rfl; intro w h; exact h.drop1.tail) ?_; rintro v8 _ rfl
          refine TR.know (fun _ h => row1 h) (fun o8 => ?_)
          refine TR.hp (fun _ h => row_len3 h) ?_
          refine TR.p rfl rfl wt0 (op_assign rfl) ?_
          refine TR.nil ?_
          refine TQ.then ?_
          refine TC.ret ?_
          refine ret1 rfl rfl (fun w' hp => ?_)
          have hq := (hp.drop2.drop1)
          first
            | (rw [List.length_reverse] at hq; exact ⟨_, _, rfl, ⟨_, rfl, by rw [oneR_same c2]⟩, hq⟩)
            | (rw [List.length_reverse] at hq; exact ⟨_, _, rfl, ⟨_, rfl, by rw [oneR_push c2]⟩, hq⟩)
            | (rw [List.length_reverse] at hq; exact ⟨_, _, rfl, ⟨_, rfl, rfl⟩, hq⟩)
        · refine TR.o rfl rfl wt0 (OpX.buildSlice (ps := #[(0, _)]) rfl (bs_api_Part_1 p)) (by rintro _ _ ⟨g52, rfl, rfl⟩; intro w h; exact h.drop1.tail) ?_; rintro _ _ ⟨g52, rfl, rfl⟩
          refine TR.hp (fun _ h => blk_row (k := 3) (m := 1) h rfl (by decide)) ?_
          refine TR.hp (fun _ h => h.pick1) ?_
          refine TR.o rfl rfl wt0 (OpX.append (bytes := 32) tsl_api_Part (by decide) (by decide) rfl hr.cons.cons.cons (encs_one _) (by omega) (zs := encs (q :: r).reverse) rfl) (by rintro v9 _ rfl; intro w h; exact h.drop1.tail) ?_; rintro v9 _ rfl
          refine TR.know (fun _ h => row1 h) (fun o9 => ?_)
          refine TR.hp (fun _ h => row_len3 h) ?_
          refine TR.o rfl rfl wt0 (OpX.append (bytes := 32) tsl_api_Part (by decide) (by decide) rfl rw1 (encs_one _) (by omega) (zs := encs (p :: (q :: r)).reverse) (encs_push _ _)) (by rintro v10 _ rfl; intro w h; exact h.drop1.tail) ?_; rintro v10 _ rfl
          refine TR.know (fun _ h => row1 h) (fun o10 => ?_)
          refine TR.hp (fun _ h => row_len3 h) ?_
          refine TR.p rfl rfl wt0 (op_assign rfl) ?_
          refine TR.nil ?_
          refine TQ.then ?_
          refine TC.ret ?_
          refine ret1 rfl rfl (fun w' hp => ?_)
          have hq := (hp.drop2.drop1)
          first
            | (rw [List.length_reverse] at hq; exact ⟨_, _, rfl, ⟨_, rfl, by rw [oneR_same c2]⟩, hq⟩)
            | (rw [List.length_reverse] at hq; exact ⟨_, _, rfl, ⟨_, rfl, by rw [oneR_push c2]⟩, hq⟩)
            | (rw [List.length_reverse] at hq; exact ⟨_, _, rfl, ⟨_, rfl, rfl⟩, hq⟩)
      · refine TR.o rfl rfl wt0 (OpX.buildSlice (ps := #[(0, _)]) rfl (bs_api_Part_1 p)) (by rintro _ _ ⟨g52, rfl, rfl⟩; intro w h; exact h.tail) ?_; rintro _ _ ⟨g52, rfl, rfl⟩
        refine TR.hp (fun _ h => blk_row (k := 3) (m := 1) h rfl (by decide)) ?_
        refine TR.o rfl rfl wt0 (OpX.buildSlice (ps := #[]) rfl (bs_api_Part_0 )) (by rintro _ _ ⟨g48, rfl, rfl⟩; intro w h; exact h.drop1.tail) ?_; rintro _ _ ⟨g48, rfl, rfl⟩
        refine TR.hp (fun _ h => blk_row (k := 3) (m := 0) h rfl (by decide)) ?_
        refine TR.o rfl rfl wt0 (OpX.append (bytes := 32) tsl_api_Part (by decide) (by decide) rfl hr.cons.cons.cons (encs_one _) (by omega) (zs := encs (q :: r).reverse) rfl) (by rintro v11 _ rfl; intro w h; exact h.drop1.tail) ?_; rintro v11 _ rfl
        refine TR.know (fun _ h => row1 h) (fun o11 => ?_)
        refine TR.hp (fun _ h => row_len3 h) ?_
        refine TR.o rfl rfl wt0 (OpX.append (bytes := 32) tsl_api_Part (by decide) (by decide) rfl rw1 (encs_one _) (by omega) (zs := encs (p :: (q :: r)).reverse) (encs_push _ _)) (by rintro v12 _ rfl; intro w h; exact h.drop1.tail) ?_; rintro v12 _ rfl
        refine TR.know (fun _ h => row1 h) (fun o12 => ?_)
        refine TR.hp (fun _ h => row_len3 h) ?_
        refine TR.p rfl rfl wt0 (op_assign rfl) ?_
        refine TR.nil ?_
        refine TQ.then ?_
        refine TC.ret ?_
        refine ret1 rfl rfl (fun w' hp => ?_)
        have hq := (hp.drop2.drop1)
        first
          | (rw [List.length_reverse] at hq; exact ⟨_, _, rfl, ⟨_, rfl, by rw [oneR_same c2]⟩, hq⟩)
          | (rw [List.length_reverse] at hq; exact ⟨_, _, rfl, ⟨_, rfl, by rw [oneR_push c2]⟩, hq⟩)
          | (rw [List.length_reverse] at hq; exact ⟨_, _, rfl, ⟨_, rfl, rfl⟩, hq⟩)
  · obtain rfl : r = [] := by cases r with | nil => rfl | cons q r' => simp at c1
    have hrl2 : ([] : List Part).reverse.length = ([] : List Part).length := rfl
    refine TR.off rfl rfl (by exact wtFf rfl rfl) ?_
    refine TR.off rfl rfl (by exact wtFf rfl rfl) ?_
    refine TR.off rfl rfl (by exact wtFf rfl rfl) ?_
    refine TR.off rfl rfl (by exact wtFf rfl rfl) ?_
    refine TR.offT rfl rfl (by exact wtFf rfl rfl) (fun _ h => h) ?_
    refine TR.off rfl rfl (by exact wtFf rfl rfl) ?_
    refine TR.offT rfl rfl (by exact wtFf rfl rfl) (fun _ h => h) ?_
    refine TR.offT rfl rfl (by exact wtFf rfl rfl) (fun _ h => h) ?_
    refine TR.off rfl rfl (by exact wtFf rfl rfl) ?_
    refine TR.p rfl rfl wt0 (op_pickF rfl rfl) ?_
    refine TR.nil ?_
    refine TQ.then ?_
    refine TC.condF rfl ?_
    refine TC.skip ?_
    refine TQ.then ?_
    refine TC.seq ?_
    refine TC.draw [] (.cons (.p, 1) (.cons (.t, 3) (.alt (.cons (.o, 0) (.alt (.cons (.o, 2) (.cons (.o, 4) (.cons (.o, 5) (.cons (.p, 6) (.nil))))) (.cons (.o, 4) (.cons (.o, 2) (.cons (.o, 5) (.cons (.p, 6) (.nil))))))) (.cons (.o, 4) (.cons (.o, 0) (.cons (.o, 2) (.cons (.o, 5) (.cons (.p, 6) (.nil))))))))) mo (by kernel_rfl) ?_   -- region 7 ref.go:87
    refine TR.p rfl rfl wt0 (op_move rfl) ?_
    refine TR.t rfl rfl wt0 (op_loadS tst_api_Part rfl m0 rfl) (fun _ h => h) ?_
    refine TR.alt ?_ ?_
    · refine TR.o rfl rfl wt0 (OpX.buildSlice (ps := #[]) rfl (bs_api_Part_0 )) (by rintro _ _ ⟨g48, rfl, rfl⟩; intro w h; exact h.tail) ?_; rintro _ _ ⟨g48, rfl, rfl⟩
      refine TR.hp (fun _ h => blk_row (k := 3) (m := 0) h rfl (by decide)) ?_
      refine TR.alt ?_ ?_
      · refine TR.o rfl rfl wt0 (OpX.append (bytes := 32) tsl_api_Part (by decide) (by decide) rfl hr.cons.cons (encs_one _) (by omega) (zs := encs ([] : List Part).reverse) rfl) (by rintro v13 _ rfl; intro w h; exact h.tail) ?_; rintro v13 _ rfl
        refine TR.know (fun _ h => row1 h) (fun o13 => ?_)
        refine TR.hp (fun _ h => row_len3 h) ?_
        refine TR.o rfl rfl wt0 (OpX.buildSlice (ps := #[(0, _)]) rfl (bs_api_Part_1 p)) (by rintro _ _ ⟨g52, rfl, rfl⟩; intro w h; exact h.drop1.tail) ?_; rintro _ _ ⟨g52, rfl, rfl⟩
        refine TR.hp (fun _ h => blk_row (k := 3) (m := 1) h rfl (by decide)) ?_
        refine TR.hp (fun _ h => h.pick1) ?_
        refine TR.o rfl rfl wt0 (OpX.append (bytes := 32) tsl_api_Part (by decide) (by decide) rfl rw1 (encs_one _) (by omega) (zs := encs (p :: ([] : List Part)).reverse) (encs_push _ _)) (by rintro v14 _ rfl; intro w h; exact h.drop1.tail) ?_; rintro v14 _ rfl
        refine TR.know (fun _ h => row1 h) (fun o14 => ?_)
        refine TR.hp (fun _ h => row_len3 h) ?_
        refine TR.p rfl rfl wt0 (op_assign rfl) ?_
        refine TR.nil ?_
        refine TQ.then ?_
        refine TC.ret ?_
        refine ret1 rfl rfl (fun w' hp => ?_)
        have hq := (hp.drop2.drop1)
        first
          | (rw [List.length_reverse] at hq; exact ⟨_, _, rfl, ⟨_, rfl, by rw [oneR_same c2]⟩, hq⟩)
          | (rw [List.length_reverse] at hq; exact ⟨_, _, rfl, ⟨_, rfl, by rw [oneR_push c2]⟩, hq⟩)
          | (rw [List.length_reverse] at hq; exact ⟨_, _, rfl, ⟨_, rfl, rfl⟩, hq⟩)
      · refine TR.o rfl rfl wt0 (OpX.buildSlice (ps := #[(0, _)]) rfl (bs_api_Part_1 p)) (by rintro _ _ ⟨g52, rfl, rfl⟩; intro w h; exact h.drop1.tail) ?_; rintro _ _ ⟨g52, rfl, rfl⟩
        refine TR.hp (fun _ h => blk_row (k := 3) (m := 1) h rfl (by decide)) ?_
        refine TR.hp (fun _ h => h.pick1) ?_
        refine TR.o rfl rfl wt0 (OpX.append (bytes := 32) tsl_api_Part (by decide) (by decide) rfl hr.cons.cons.cons (encs_one _) (by omega) (zs := encs ([] : List Part).reverse) rfl) (by rintro v15 _ rfl; intro w h; exact h.drop1.tail) ?_; rintro v15 _ rfl
        refine TR.know (fun _ h => row1 h) (fun o15 => ?_)
        refine TR.hp (fun _ h => row_len3 h) ?_
        refine TR.o rfl rfl wt0 (OpX.append (bytes := 32) tsl_api_Part (by decide) (by decide) rfl rw1 (encs_one _) (by omega) (zs := encs (p :: ([] : List Part)).reverse) (encs_push _ _)) (by rintro v16 _ rfl; intro w h; exact h.drop1.tail) ?_; rintro v16 _ rfl
        refine TR.know (fun _ h => row1 h) (fun o16 => ?_)
        refine TR.hp (fun _ h => row_len3 h) ?_
        refine TR.p rfl rfl wt0 (op_assign rfl) ?_
        refine TR.nil ?_
        refine TQ.then ?_
        refine TC.ret ?_
        refine ret1 rfl rfl (fun w' hp => ?_)
        have hq := (hp.drop2.drop1)
        first
          | (rw [List.length_reverse] at hq; exact ⟨_, _, rfl, ⟨_, rfl, by rw [oneR_same c2]⟩, hq⟩)
          | (rw [List.length_reverse] at hq; exact ⟨_, _, rfl, ⟨_, rfl, by rw [oneR_push c2]⟩, hq⟩)
          | (rw [List.length_reverse] at hq; exact ⟨_, _, rfl, ⟨_, rfl, rfl⟩, hq⟩)
    · refine TR.o rfl rfl wt0 (OpX.buildSlice (ps := #[(0, _)]) rfl (bs_api_Part_1 p)) (by rintro _ _ ⟨g52, rfl, rfl⟩; intro w h; exact h.tail) ?_; rintro _ _ ⟨g52, rfl, rfl⟩
      refine TR.hp (fun _ h => blk_row (k := 3) (m := 1) h rfl (by decide)) ?_
      refine TR.o rfl rfl wt0 (OpX.buildSlice (ps := #[]) rfl (bs_api_Part_0 )) (by rintro _ _ ⟨g48, rfl, rfl⟩; intro w h; exact h.drop1.tail) ?_; rintro _ _ ⟨g48, rfl, rfl⟩
      refine TR.hp (fun _ h => blk_row (k := 3) (m := 0) h rfl (by decide)) ?_
      refine TR.o rfl rfl wt0 (OpX.append (bytes := 32) tsl_api_Part (by decide) (by decide) rfl hr.cons.cons.cons (encs_one _) (by omega) (zs := encs ([] : List Part).reverse) rfl) (by rintro v17 _ rfl; intro w h; exact h.drop1.tail) ?_; rintro v17 _ rfl
      refine TR.know (fun _ h => row1 h) (fun o17 => ?_)
      refine TR.hp (fun _ h => row_len3 h) ?_
      refine TR.o rfl rfl wt0 (OpX.append (bytes := 32) tsl_api_Part (by decide) (by decide) rfl rw1 (encs_one _) (by omega) (zs := encs (p :: ([] : List Part)).reverse) (encs_push _ _)) (by rintro v18 _ rfl; intro w h; exact h.drop1.tail) ?_; rintro v18 _ rfl
      refine TR.know (fun _ h => row1 h) (fun o18 => ?_)
      refine TR.hp (fun _ h => row_len3 h) ?_
      refine TR.p rfl rfl wt0 (op_assign rfl) ?_
      refine TR.nil ?_
      refine TQ.then ?_
      refine TC.ret ?_
      refine ret1 rfl rfl (fun w' hp => ?_)
      have hq := (hp.drop2.drop1)
      first
        | (rw [List.length_reverse] at hq; exact ⟨_, _, rfl, ⟨_, rfl, by rw [oneR_same c2]⟩, hq⟩)
        | (rw [List.length_reverse] at hq; exact ⟨_, _, rfl, ⟨_, rfl, by rw [oneR_push c2]⟩, hq⟩)
        | (rw [List.length_reverse] at hq; exact ⟨_, _, rfl, ⟨_, rfl, rfl⟩, hq⟩)

theorem rput_calls (s : ByteArray) (w : World) (hv : valid s = true) (hs : s.size < 9223372036854775807) :
    Calls Tryd.prog 73 (List.toArray [.string s]) w fun e w' => e = .returned (putP s).val ∧ Kp NoB w w' := by
  refine calls_start Tryd.func73 rfl rfl rfl (Hp.init0 w) ?_
  refine TC.seq ?_
  refine TC.region ?_   -- region 0 ref.go:91
  refine TL.opX rfl (OpX.alloc tz_api_Part rfl) ?_; rintro _ _ ⟨g2, rfl, rfl⟩
  refine TL.nil ?_
  refine TQ.then ?_
  refine TC.seq ?_
  refine TC.region ?_   -- region 1 ref.go:92
  refine TL.opP rfl (op_move rfl) ?_
  refine TL.opX rfl (OpX.bytes un_string tsl_uint8 un_uint8 rfl (by simp only [maxLen]; omega)) ?_; rintro v1 _ rfl
  refine TL.know (fun _ h => rd1' h) (fun o1 => ?_)
  refine TL.callq rfl en_56 rfl (fun w2 hp => runes_calls s.data.toList _ w2 (by rw [size_len]; exact rd0 _ _ _ hp)) ?_
  refine TL.opP rfl (op_move rfl) ?_
  refine TL.opP rfl (op_build (ps := #[(0, _), (1, _), (2, _)]) rfl (bl_api_Part_012 _ _ _)) ?_
  refine TL.hp (fun _ h => h.pick1) ?_
  refine TL.opX0 (OpX.storeS tst_api_Part rfl rfl rfl rfl rfl (List.all_eq_true.1 rfl)) ?_; rintro _ _ rfl
  refine TL.nil ?_
  refine TQ.then ?_
  refine TC.ret ?_
  refine retc tst_api_Part rfl rfl m0 rfl (fun w' hp => ?_)
  have h1 := runesF_cases s
  rw [hv] at h1
  have h2 : runesF s.data.toList = (rcount s : Int) := by simpa using h1
  exact ⟨by rw [h2]; rfl, hp.kp⟩

theorem rboth_x (r : List Part) (s : ByteArray) (d : Int) (v : Value) (hv : valid s = true) (hs : s.size < 9223372036854775807) (hb : BothB r s d) :
    CallX Tryd.prog 71 [v, .string s, .int .i64 d] S w0 (.row v 47 3 (r).length (encs (r).reverse) :: F) (fun u L' => ∃ v', u = v' ∧ L' = .row v' 47 3 (bothR r s d).length (encs (bothR r s d).reverse) :: F) := by
  intro w hp
  refine calls_start Tryd.func71 rfl rfl rfl (hp) ?_
  refine TC.seq ?_
  refine TC.region ?_   -- region 0 ref.go:117
  refine TL.opP rfl (op_assign rfl) ?_
  refine TL.nil ?_
  refine TQ.then ?_
  refine TC.seq ?_
  refine TC.seq ?_
  refine TC.region ?_   -- region 1 ref.go:118
  refine TL.opP rfl (op_move rfl) ?_
  refine TL.opP rfl (op_sneq rfl rfl) ?_
  refine TL.nil ?_
  refine TQ.then ?_
  first | refine TC.condD rfl (fun c1 => ?_) (fun c1 => ?_) | refine TC.condB rfl (fun c1 => ?_) (fun c1 => ?_)
  · refine TC.region ?_   -- region 2 ref.go:119
    refine TL.opP rfl (op_move rfl) ?_
    refine TL.opP rfl (op_move rfl) ?_
    refine TL.callq rfl en_73 rfl (fun w2 hp => rput_calls s w2 hv hs) ?_
    refine TL.opX rfl (OpX.callX en_57 rfl (rone_x r (putP s) _ hb.b1 rw0)) ?_; rintro w1 _ ⟨_, rfl, rfl⟩
    refine TL.opP rfl (op_assign rfl) ?_
    refine TL.nil ?_
    refine TQ.then ?_
    refine TC.seq ?_
    refine TC.seq ?_
    refine TC.region ?_   -- region 3 ref.go:121
    refine TL.opP rfl (op_move rfl) ?_
    refine TL.opP rfl (op_gtr rfl rfl) ?_
    refine TL.nil ?_
    refine TQ.then ?_
    first | refine TC.condD rfl (fun c2 => ?_) (fun c2 => ?_) | refine TC.condB rfl (fun c2 => ?_) (fun c2 => ?_)
    · refine TC.region ?_   -- region 4 ref.go:122
      refine TL.opP rfl (op_move rfl) ?_
      refine TL.opP rfl (op_move rfl) ?_
      refine TL.opP rfl (op_build (ps := #[(0, _), (1, _)]) rfl (bl_api_Part_01 _ _)) ?_
      refine TL.opX rfl (OpX.callX en_57 rfl (rone_x (oneR r (putP s)) (dropP d) _ hb.b2 rw0)) ?_; rintro w2 _ ⟨_, rfl, rfl⟩
      refine TL.opP rfl (op_assign rfl) ?_
      refine TL.nil ?_
      refine TQ.then ?_
      refine TC.seq ?_
      refine TC.region ?_   -- region 5 ref.go:124
      refine TL.opP rfl (op_move rfl) ?_
      refine TL.opP rfl (op_assign rfl) ?_
      refine TL.nil ?_
      refine TQ.then ?_
      refine TC.ret ?_
      refine ret1 rfl rfl (fun w' hp => ?_)
      have hq := (hp.drop2.drop1)
      first
        | exact ⟨_, _, rfl, ⟨_, rfl, by rw [bothR, if_pos c2, if_neg c1]⟩, hq⟩
        | exact ⟨_, _, rfl, ⟨_, rfl, by rw [bothR, if_neg c2, if_neg c1]⟩, hq⟩
        | exact ⟨_, _, rfl, ⟨_, rfl, by rw [bothR, if_pos c3, if_pos (by simpa using c1)]⟩, hq⟩
        | exact ⟨_, _, rfl, ⟨_, rfl, by rw [bothR, if_neg c3, if_pos (by simpa using c1)]⟩, hq⟩
    · refine TC.skip ?_
      refine TQ.then ?_
      refine TC.seq ?_
      refine TC.region ?_   -- region 5 ref.go:124
      refine TL.opP rfl (op_move rfl) ?_
      refine TL.opP rfl (op_assign rfl) ?_
      refine TL.nil ?_
      refine TQ.then ?_
      refine TC.ret ?_
      refine ret1 rfl rfl (fun w' hp => ?_)
      have hq := (hp.drop1)
      first
        | exact ⟨_, _, rfl, ⟨_, rfl, by rw [bothR, if_pos c2, if_neg c1]⟩, hq⟩
        | exact ⟨_, _, rfl, ⟨_, rfl, by rw [bothR, if_neg c2, if_neg c1]⟩, hq⟩
        | exact ⟨_, _, rfl, ⟨_, rfl, by rw [bothR, if_pos c3, if_pos (by simpa using c1)]⟩, hq⟩
        | exact ⟨_, _, rfl, ⟨_, rfl, by rw [bothR, if_neg c3, if_pos (by simpa using c1)]⟩, hq⟩
  · refine TC.skip ?_
    refine TQ.then ?_
    refine TC.seq ?_
    refine TC.seq ?_
    refine TC.region ?_   -- region 3 ref.go:121
    refine TL.opP rfl (op_move rfl) ?_
    refine TL.opP rfl (op_gtr rfl rfl) ?_
    refine TL.nil ?_
    refine TQ.then ?_
    first | refine TC.condD rfl (fun c3 => ?_) (fun c3 => ?_) | refine TC.condB rfl (fun c3 => ?_) (fun c3 => ?_)
    · refine TC.region ?_   -- region 4 ref.go:122
      refine TL.opP rfl (op_move rfl) ?_
      refine TL.opP rfl (op_move rfl) ?_
      refine TL.opP rfl (op_build (ps := #[(0, _), (1, _)]) rfl (bl_api_Part_01 _ _)) ?_
      refine TL.opX rfl (OpX.callX en_57 rfl (rone_x r (dropP d) _ hb.b3 rw0)) ?_; rintro w3 _ ⟨_, rfl, rfl⟩
      refine TL.opP rfl (op_assign rfl) ?_
      refine TL.nil ?_
      refine TQ.then ?_
      refine TC.seq ?_
      refine TC.region ?_   -- region 5 ref.go:124
      refine TL.opP rfl (op_move rfl) ?_
      refine TL.opP rfl (op_assign rfl) ?_
      refine TL.nil ?_
      refine TQ.then ?_
      refine TC.ret ?_
      refine ret1 rfl rfl (fun w' hp => ?_)
      have hq := (hp.drop1)
      first
        | exact ⟨_, _, rfl, ⟨_, rfl, by rw [bothR, if_pos c2, if_neg c1]⟩, hq⟩
        | exact ⟨_, _, rfl, ⟨_, rfl, by rw [bothR, if_neg c2, if_neg c1]⟩, hq⟩
        | exact ⟨_, _, rfl, ⟨_, rfl, by rw [bothR, if_pos c3, if_pos (by simpa using c1)]⟩, hq⟩
        | exact ⟨_, _, rfl, ⟨_, rfl, by rw [bothR, if_neg c3, if_pos (by simpa using c1)]⟩, hq⟩
    · refine TC.skip ?_
      refine TQ.then ?_
      refine TC.seq ?_
      refine TC.region ?_   -- region 5 ref.go:124
      refine TL.opP rfl (op_move rfl) ?_
      refine TL.opP rfl (op_assign rfl) ?_
      refine TL.nil ?_
      refine TQ.then ?_
      refine TC.ret ?_
      refine ret1 rfl rfl (fun w' hp => ?_)
      have hq := (hp)
      first
        | exact ⟨_, _, rfl, ⟨_, rfl, by rw [bothR, if_pos c2, if_neg c1]⟩, hq⟩
        | exact ⟨_, _, rfl, ⟨_, rfl, by rw [bothR, if_neg c2, if_neg c1]⟩, hq⟩
        | exact ⟨_, _, rfl, ⟨_, rfl, by rw [bothR, if_pos c3, if_pos (by simpa using c1)]⟩, hq⟩
        | exact ⟨_, _, rfl, ⟨_, rfl, by rw [bothR, if_neg c3, if_pos (by simpa using c1)]⟩, hq⟩

theorem rnorm_x (e : List Part) (v : Value) (hs : ∀ p ∈ e, p.text.size < 9223372036854775807) (hl : e.length ≤ 524288) (hr : Rdb L v 3 e.length (encs e)) :
    CallX Tryd.prog 43 [v] S w0 (L) (fun u L' => ∃ v', u = v' ∧ L' = .row v' 47 3 (normRef e).length (encs (normRef e)) :: L) := by
  intro w hp
  refine calls_start Tryd.func43 rfl rfl rfl (hp) ?_
  refine TC.seq ?_
  refine TC.region ?_   -- region 0 ref.go:128
  refine TL.opP rfl (op_assign rfl) ?_
  refine TL.nil ?_
  refine TQ.then ?_
  refine TC.seq ?_
  refine TC.region ?_   -- region 1 ref.go:129
  refine TL.opP rfl (op_assign rfl) ?_
  refine TL.nil ?_
  refine TQ.then ?_
  refine TC.seq ?_
  refine TC.seq ?_
  refine TC.region ?_   -- region 2 ref.go:130
  refine TL.opP rfl (op_move rfl) ?_
  refine TL.opV rfl (op_lenV rfl un_sl_api_Part rfl hr) ?_
  refine TL.opP rfl (op_move rfl) ?_
  refine TL.nil ?_
  refine TQ.then ?_
  refine TC.block ?_
  refine TC.hp (fun _ h => new_nil 47 3 h) ?_
  refine TC.loop (ι := Nat × List Part × Value) (fun (k, r, ov) => [(3, ov), (8, v), (9, .int .i64 (e.length : Int)), (10, .int .i64 (k : Int))]) (fun (k, r, ov) => .row ov 47 3 (r).length (encs (r).reverse) :: L) (fun (k, r, ov) => NInv e k r) (fun (k, r, ov) => e.length - k) ((0, [], .slice none 0 0)) (NInv.start e) ⟨rfl, rfl, rfl, rfl, trivial⟩ (fun _ h => h) ?_
  rintro ⟨k, r, ov⟩ (hI : NInv e k r)
  have hk := hI.kle
  have hrl := hI.len
  show TC _ _ _ _ [(3, ov), (8, v), (9, .int .i64 (e.length : Int)), (10, .int .i64 (k : Int))] _ _ (.row ov 47 3 (r).length (encs (r).reverse) :: L)
  refine TC.seq ?_
  refine TC.region ?_   -- region 3 ref.go:130
  refine TL.opP rfl (op_lss rfl rfl) ?_
  refine TL.nil ?_
  refine TQ.then ?_
  refine TC.seq ?_
  first | refine TC.condD rfl (fun c1 => ?_) (fun c1 => ?_) | refine TC.condB rfl (fun c1 => ?_) (fun c1 => ?_)
  · have hkl : k < e.length := by omega
    obtain ⟨p, hpk⟩ : ∃ p, e.getD k default = p := ⟨_, rfl⟩
    have hd := drop_getD hkl hpk
    have hpe : p ∈ e := by rw [← hpk, List.getD_eq_getElem?_getD, List.getElem?_eq_getElem hkl]; exact List.getElem_mem hkl
    refine TC.skip ?_
    refine TQ.then ?_
    refine TC.seq ?_
    refine TC.block ?_
    refine TC.seq ?_
    refine TC.region ?_   -- region 4 ref.go:130
    refine TL.opV rfl (op_index tsl_api_Part rfl hr.cons rfl (by omega) (by omega)) ?_
    refine TL.opV rfl (op_loadRS tst_api_Part rfl hr.cons (cs := p.cs) rfl (lkS hkl hpk) (by decide)) ?_
    refine TL.opX rfl (OpX.alloc tz_api_Part rfl) ?_; rintro _ _ ⟨g5, rfl, rfl⟩
    refine TL.opX0 (OpX.storeS tst_api_Part rfl rfl rfl rfl rfl (List.all_eq_true.1 rfl)) ?_; rintro _ _ rfl
    refine TL.nil ?_
    refine TQ.then ?_
    refine TC.seq ?_
    refine TC.seq ?_
    refine TC.region ?_   -- region 5 ref.go:131
    refine TL.opV rfl (op_loadS tst_api_Part rfl m0 rfl) ?_
    refine TL.callq rfl en_59 rfl (fun w2 hp => rfits_calls p w2 (hs p hpe)) ?_
    refine TL.opP rfl (op_not rfl rfl) ?_
    refine TL.nil ?_
    refine TQ.then ?_
    first | refine TC.condD rfl (fun c2 => ?_) (fun c2 => ?_) | refine TC.condB rfl (fun c2 => ?_) (fun c2 => ?_)
    · refine TC.exit ?_
      refine TQ.then_exit ?_
      refine TQ.block_hit ?_
      refine TQ.then ?_
      refine TC.region ?_   -- region 11 ref.go:130
      refine TL.opP rfl (op_add rfl rfl rfl (by omega) (by omega)) ?_
      refine TL.opP rfl (op_move rfl) ?_
      refine TL.nil ?_
      exact TQ.round (k + 1, _, ov) (hI.skip hkl hpk (by simpa using c2)) (by show _ - (k + 1) < _ - k; omega) ⟨rfl, rfl, rfl, rfl, trivial⟩ (fun _ h => h.tail)
    · have hff : fitsB p = true := by simpa using c2
      refine TC.skip ?_
      refine TQ.then ?_
      refine TC.seq ?_
      refine TC.region ?_   -- region 6 ref.go:134
      refine TL.opP rfl (op_move rfl) ?_
      refine TL.opV rfl (op_lenV rfl un_sl_api_Part rfl rw1) ?_
      refine TL.opP rfl (op_assign rfl) ?_
      refine TL.nil ?_
      refine TQ.then ?_
      refine TC.seq ?_
      refine TC.seq ?_
      refine TC.region ?_   -- region 7 ref.go:135
      refine TL.opP rfl (op_field fld_api_Part_Kind rfl) ?_
      refine TL.opV rfl (op_load ts_int rfl m0 rfl) ?_
      refine TL.opP rfl (op_eql rfl rfl) ?_
      refine TL.opP rfl (op_move rfl) ?_
      first | refine TL.splitD (fun c3 => ?_) (fun c3 => ?_) | refine TL.splitB (fun c3 => ?_) (fun c3 => ?_)
      · refine TL.gT rfl rfl ?_
        refine TL.opP rfl (op_move rfl) ?_
        refine TL.gT rfl rfl ?_
        refine TL.opP rfl (op_gtr rfl rfl) ?_
        refine TL.opP rfl (op_pickT rfl rfl) ?_
        refine TL.opP rfl (op_move rfl) ?_
        first | refine TL.splitD (fun c4 => ?_) (fun c4 => ?_) | refine TL.splitB (fun c4 => ?_) (fun c4 => ?_)
        · obtain ⟨q, r, rfl⟩ : ∃ q r', r = q :: r' := by cases r with | nil => simp at c4 | cons q r' => exact ⟨q, r', rfl⟩
          have hlc : (q :: r).length = r.length + 1 := rfl
          refine TL.gT rfl rfl ?_
          refine TL.opP rfl (op_move rfl) ?_
          refine TL.gT rfl rfl ?_
          refine TL.opP rfl (op_move rfl) ?_
          refine TL.gT rfl rfl ?_
          refine TL.opP rfl (op_sub rfl rfl rfl (by omega) (by omega)) ?_
          refine TL.gT rfl rfl ?_
          refine TL.opV rfl (op_index tsl_api_Part rfl rw1 rfl (by omega) (by omega)) ?_
          refine TL.gT rfl rfl ?_
          refine TL.opP rfl (op_fieldA fld_api_Part_Kind rfl) ?_
          refine TL.gT rfl rfl ?_
          refine TL.opV rfl (op_loadR ts_int rfl rw1 (lkR 0 (by omega) rfl)) ?_
          refine TL.gT rfl rfl ?_
          refine TL.opP rfl (op_eql rfl rfl) ?_
          refine TL.opP rfl (op_pickT rfl rfl) ?_
          refine TL.nil ?_
          refine TQ.then ?_
          first | refine TC.condD rfl (fun c5 => ?_) (fun c5 => ?_) | refine TC.condB rfl (fun c5 => ?_) (fun c5 => ?_)
          · obtain ⟨hb1, hb2, hc⟩ := hI.swap hkl hpk hff c3 c5 hl
            refine TC.seq ?_
            refine TC.region ?_   -- region 8 ref.go:136
            refine TL.opP rfl (op_move rfl) ?_
            refine TL.opP rfl (op_move rfl) ?_
            refine TL.opP rfl (op_sub rfl rfl rfl (by omega) (by omega)) ?_
            refine TL.opV rfl (op_index tsl_api_Part rfl rw1 rfl (by omega) (by omega)) ?_
            refine TL.opV rfl (op_loadRS tst_api_Part rfl rw1 (cs := q.cs) rfl (lkRS (by omega)) (by decide)) ?_
            refine TL.opX rfl (OpX.alloc tz_api_Part rfl) ?_; rintro _ _ ⟨g7, rfl, rfl⟩
            refine TL.opX0 (OpX.storeS tst_api_Part rfl rfl rfl rfl rfl (List.all_eq_true.1 rfl)) ?_; rintro _ _ rfl
            refine TL.nil ?_
            refine TQ.then ?_
            refine TC.seq ?_
            refine TC.draw [] (.cons (.p, 0) (.cons (.p, 1) (.cons (.p, 2) (.cons (.t, 3) (.cons (.t, 4) (.cons (.t, 6) (.cons (.o, 5) (.cons (.o, 7) (.cons (.p, 8) (.nil)))))))))) mo (by kernel_rfl) ?_   -- region 9 ref.go:137
            refine TR.p rfl rfl wt0 (op_move rfl) ?_
            refine TR.p rfl rfl wt0 (op_move rfl) ?_
            refine TR.p rfl rfl wt0 (op_sub rfl rfl rfl (by omega) (by omega)) ?_
            refine TR.t rfl rfl wt0 (op_cut 0 r.length tsl_api_Part rfl rw2 (vlo := none) (vhi := (some _)) rfl rfl (.inl ⟨rfl, rfl⟩) (.inr ⟨_, _, rfl, by omega⟩) (by omega) (by omega)) (fun _ h => h) ?_
            refine TR.t rfl rfl wt0 (op_loadS tst_api_Part rfl m1 rfl) (fun _ h => h) ?_
            refine TR.t rfl rfl wt0 (op_loadS tst_api_Part rfl m0 rfl) (fun _ h => h) ?_
            refine TR.o rfl rfl wt0 (OpX.callX en_57 rfl (rone_x r p _ hb1 (rw2).takeR)) (by rintro w1 _ ⟨_, rfl, rfl⟩; intro w h; exact h.tail) ?_; rintro w1 _ ⟨_, rfl, rfl⟩
            refine TR.o rfl rfl wt0 (OpX.callX en_57 rfl (rone_x (oneR r p) q _ hb2 rw0)) (by rintro w2 _ ⟨_, rfl, rfl⟩; intro w h; exact h.drop1.tail) ?_; rintro w2 _ ⟨_, rfl, rfl⟩
            refine TR.p rfl rfl wt0 (op_assign rfl) ?_
            refine TR.nil ?_
            refine TQ.then ?_
            refine TC.exit ?_
            refine TQ.then_exit ?_
            refine TQ.block_hit ?_
            refine TQ.then ?_
            refine TC.region ?_   -- region 11 ref.go:130
            refine TL.opP rfl (op_add rfl rfl rfl (by omega) (by omega)) ?_
            refine TL.opP rfl (op_move rfl) ?_
            refine TL.nil ?_
            exact TQ.round (k + 1, _, w2) (hc) (by show _ - (k + 1) < _ - k; omega) ⟨rfl, rfl, rfl, rfl, trivial⟩ (fun _ h => h.drop4.drop3.drop2.drop1)
          · refine TC.skip ?_
            refine TQ.then ?_
            refine TC.region ?_   -- region 10 ref.go:140
            refine TL.opP rfl (op_move rfl) ?_
            refine TL.opV rfl (op_loadS tst_api_Part rfl m0 rfl) ?_
            refine TL.opX rfl (OpX.callX en_57 rfl (rone_x (q :: r) p _ (hI.ob hkl hl hff) rw1)) ?_; rintro w3 _ ⟨_, rfl, rfl⟩
            refine TL.opP rfl (op_assign rfl) ?_
            refine TL.nil ?_
            refine TQ.block_normal ?_
            refine TQ.then ?_
            refine TC.region ?_   -- region 11 ref.go:130
            refine TL.opP rfl (op_add rfl rfl rfl (by omega) (by omega)) ?_
            refine TL.opP rfl (op_move rfl) ?_
            refine TL.nil ?_
            exact TQ.round (k + 1, _, w3) (hI.one hkl hpk hff (fun d r' e h => by first | exact c3 h.1 | (subst e; simp at c4) | (injection e with e1 e2; subst e1; exact c5 h.2))) (by show _ - (k + 1) < _ - k; omega) ⟨rfl, rfl, rfl, rfl, trivial⟩ (fun _ h => h.drop2.drop1)
        · refine TL.gFf rfl rfl rfl ?_
          refine TL.gFf rfl rfl rfl ?_
          refine TL.gFf rfl rfl rfl ?_
          refine TL.gFf rfl rfl rfl ?_
          refine TL.gFf rfl rfl rfl ?_
          refine TL.gFf rfl rfl rfl ?_
          refine TL.gFf rfl rfl rfl ?_
          refine TL.opP rfl (op_pickF rfl rfl) ?_
          refine TL.nil ?_
          refine TQ.then ?_
          refine TC.condF rfl ?_
          refine TC.skip ?_
          refine TQ.then ?_
          refine TC.region ?_   -- region 10 ref.go:140
          refine TL.opP rfl (op_move rfl) ?_
          refine TL.opV rfl (op_loadS tst_api_Part rfl m0 rfl) ?_
          refine TL.opX rfl (OpX.callX en_57 rfl (rone_x r p _ (hI.ob hkl hl hff) rw1)) ?_; rintro w4 _ ⟨_, rfl, rfl⟩
          refine TL.opP rfl (op_assign rfl) ?_
          refine TL.nil ?_
          refine TQ.block_normal ?_
          refine TQ.then ?_
          refine TC.region ?_   -- region 11 ref.go:130
          refine TL.opP rfl (op_add rfl rfl rfl (by omega) (by omega)) ?_
          refine TL.opP rfl (op_move rfl) ?_
          refine TL.nil ?_
          exact TQ.round (k + 1, _, w4) (hI.one hkl hpk hff (fun d r' e h => by first | exact c3 h.1 | (subst e; simp at c4) | (injection e with e1 e2; subst e1; exact c5 h.2))) (by show _ - (k + 1) < _ - k; omega) ⟨rfl, rfl, rfl, rfl, trivial⟩ (fun _ h => h.drop2.drop1)
      · refine TL.gFf rfl rfl rfl ?_
        refine TL.gFf rfl rfl rfl ?_
        refine TL.opP rfl (op_pickF rfl rfl) ?_
        refine TL.opP rfl (op_move rfl) ?_
        refine TL.gFf rfl rfl rfl ?_
        refine TL.gFf rfl rfl rfl ?_
        refine TL.gFf rfl rfl rfl ?_
        refine TL.gFf rfl rfl rfl ?_
        refine TL.gFf rfl rfl rfl ?_
        refine TL.gFf rfl rfl rfl ?_
        refine TL.gFf rfl rfl rfl ?_
        refine TL.opP rfl (op_pickF rfl rfl) ?_
        refine TL.nil ?_
        refine TQ.then ?_
        refine TC.condF rfl ?_
        refine TC.skip ?_
        refine TQ.then ?_
        refine TC.region ?_   -- region 10 ref.go:140
        refine TL.opP rfl (op_move rfl) ?_
        refine TL.opV rfl (op_loadS tst_api_Part rfl m0 rfl) ?_
        refine TL.opX rfl (OpX.callX en_57 rfl (rone_x r p _ (hI.ob hkl hl hff) rw1)) ?_; rintro w5 _ ⟨_, rfl, rfl⟩
        refine TL.opP rfl (op_assign rfl) ?_
        refine TL.nil ?_
        refine TQ.block_normal ?_
        refine TQ.then ?_
        refine TC.region ?_   -- region 11 ref.go:130
        refine TL.opP rfl (op_add rfl rfl rfl (by omega) (by omega)) ?_
        refine TL.opP rfl (op_move rfl) ?_
        refine TL.nil ?_
        exact TQ.round (k + 1, _, w5) (hI.one hkl hpk hff (fun d r' e h => by first | exact c3 h.1 | (subst e; simp at c4) | (injection e with e1 e2; subst e1; exact c5 h.2))) (by show _ - (k + 1) < _ - k; omega) ⟨rfl, rfl, rfl, rfl, trivial⟩ (fun _ h => h.drop2.drop1)
  · refine TC.exit ?_
    refine TQ.then_exit ?_
    refine TQ.loop_exit ?_
    refine TQ.block_hit ?_
    refine TQ.then ?_
    refine TC.seq ?_
    refine TC.region ?_   -- region 12 ref.go:142
    refine TL.opP rfl (op_move rfl) ?_
    refine TL.opP rfl (op_assign rfl) ?_
    refine TL.nil ?_
    refine TQ.then ?_
    refine TC.ret ?_
    refine ret1 rfl rfl (fun w' hp => ?_)
    have hq := (hp)
    exact ⟨_, _, rfl, ⟨_, rfl, by rw [normRef, List.length_reverse, ← hI.go, List.take_of_length_le (by omega)]⟩, hq⟩

theorem rreplace_x (n a k : Int) (s : ByteArray) (hs : s.size ≤ 1152921504606846976) :
    CallX Tryd.prog 22 [.int .i64 n, .int .i64 a, .int .i64 k, .string s] S w0 (L) (fun u L' => ∃ v', u = .tuple #[v', .int .i64 (replE n a k s)] ∧ L' = .row v' 47 3 (replRef n a k s).length (encs (replRef n a k s)) :: L) := by
  intro w hp
  refine calls_start Tryd.func22 rfl rfl rfl (hp) ?_
  refine TC.seq ?_
  refine TC.region ?_   -- region 0 ref.go:146
  refine TL.opP rfl (op_assign rfl) ?_
  refine TL.opP rfl (op_assign rfl) ?_
  refine TL.nil ?_
  refine TQ.then ?_
  refine TC.seq ?_
  refine TC.region ?_   -- region 1 ref.go:147
  refine TL.opP rfl (op_move rfl) ?_
  refine TL.opX rfl (OpX.bytes un_string tsl_uint8 un_uint8 rfl (by simp only [maxLen]; omega)) ?_; rintro v1 _ rfl
  refine TL.know (fun _ h => rd1' h) (fun o1 => ?_)
  refine TL.callq rfl en_56 rfl (fun w2 hp => runes_calls s.data.toList _ w2 (by rw [size_len]; exact rd0 _ _ _ hp)) ?_
  refine TL.opP rfl (op_assign rfl) ?_
  refine TL.nil ?_
  refine TQ.then ?_
  refine TC.seq ?_
  refine TC.seq ?_
  refine TC.region ?_   -- region 2 ref.go:148
  refine TL.opP rfl (op_move rfl) ?_
  refine TL.opP rfl (op_lss rfl rfl) ?_
  refine TL.opP rfl (op_move rfl) ?_
  first | refine TL.splitD (fun c1 => ?_) (fun c1 => ?_) | refine TL.splitB (fun c1 => ?_) (fun c1 => ?_)
  · refine TL.gFt rfl rfl rfl ?_
    refine TL.gFt rfl rfl rfl ?_
    refine TL.opP rfl (op_pickT rfl rfl) ?_
    refine TL.opP rfl (op_move rfl) ?_
    refine TL.gFt rfl rfl rfl ?_
    refine TL.gFt rfl rfl rfl ?_
    refine TL.opP rfl (op_pickT rfl rfl) ?_
    refine TL.opP rfl (op_move rfl) ?_
    refine TL.gFt rfl rfl rfl ?_
    refine TL.gFt rfl rfl rfl ?_
    refine TL.gFt rfl rfl rfl ?_
    refine TL.opP rfl (op_pickT rfl rfl) ?_
    refine TL.opP rfl (op_move rfl) ?_
    refine TL.gFt rfl rfl rfl ?_
    refine TL.gFt rfl rfl rfl ?_
    refine TL.opP rfl (op_pickT rfl rfl) ?_
    refine TL.opP rfl (op_move rfl) ?_
    refine TL.gFt rfl rfl rfl ?_
    refine TL.gFt rfl rfl rfl ?_
    refine TL.gFt rfl rfl rfl ?_
    refine TL.gFt rfl rfl rfl ?_
    refine TL.gFt rfl rfl rfl ?_
    refine TL.opP rfl (op_pickT rfl rfl) ?_
    refine TL.opP rfl (op_move rfl) ?_
    refine TL.gFt rfl rfl rfl ?_
    refine TL.gFt rfl rfl rfl ?_
    refine TL.opP rfl (op_pickT rfl rfl) ?_
    refine TL.opP rfl (op_move rfl) ?_
    refine TL.gFt rfl rfl rfl ?_
    refine TL.gFt rfl rfl rfl ?_
    refine TL.gFt rfl rfl rfl ?_
    refine TL.gFt rfl rfl rfl ?_
    refine TL.opP rfl (op_pickT rfl rfl) ?_
    refine TL.nil ?_
    refine TQ.then ?_
    refine TC.condT rfl ?_
    refine TC.seq ?_
    refine TC.region ?_   -- region 3 ref.go:149
    refine TL.opP rfl (op_assign rfl) ?_
    refine TL.opP rfl (op_assign rfl) ?_
    refine TL.nil ?_
    refine TQ.then ?_
    refine TC.ret ?_
    refine TQ.then_ret ?_
    refine ret2 rfl rfl rfl (fun w' hp => ?_)
    have hrf := runesF_cases s
    first
      | (have hbad : replBad n a k s := by (unfold replBad; grind)
         exact ⟨_, _, rfl, ⟨.slice none 0 0, by rw [replE, if_pos hbad], by rw [replRef, if_pos hbad]; rfl⟩, new_nil _ 3 (hp.tail)⟩)
      | (have hq := (hp.tail)
         obtain rfl : i = 4 := by omega
         exact ⟨_, _, rfl, ⟨_, by rw [replE, if_neg hok], by rw [replRef, if_neg hok, List.length_reverse, ← hI.1]; first | done | rfl⟩, hq⟩)
  · refine TL.gT rfl rfl ?_
    refine TL.opP rfl (op_move rfl) ?_
    refine TL.gT rfl rfl ?_
    refine TL.opP rfl (op_gtr rfl rfl) ?_
    refine TL.opP rfl (op_pickF rfl rfl) ?_
    refine TL.opP rfl (op_move rfl) ?_
    first | refine TL.splitD (fun c2 => ?_) (fun c2 => ?_) | refine TL.splitB (fun c2 => ?_) (fun c2 => ?_)
    · refine TL.gFt rfl rfl rfl ?_
      refine TL.gFt rfl rfl rfl ?_
      refine TL.opP rfl (op_pickT rfl rfl) ?_
      refine TL.opP rfl (op_move rfl) ?_
      refine TL.gFt rfl rfl rfl ?_
      refine TL.gFt rfl rfl rfl ?_
      refine TL.gFt rfl rfl rfl ?_
      refine TL.opP rfl (op_pickT rfl rfl) ?_
      refine TL.opP rfl (op_move rfl) ?_
      refine TL.gFt rfl rfl rfl ?_
      refine TL.gFt rfl rfl rfl ?_
      refine TL.opP rfl (op_pickT rfl rfl) ?_
      refine TL.opP rfl (op_move rfl) ?_
      refine TL.gFt rfl rfl rfl ?_
      refine TL.gFt rfl rfl rfl ?_
      refine TL.gFt rfl rfl rfl ?_
      refine TL.gFt rfl rfl rfl ?_
      refine TL.gFt rfl rfl rfl ?_
      refine TL.opP rfl (op_pickT rfl rfl) ?_
      refine TL.opP rfl (op_move rfl) ?_
      refine TL.gFt rfl rfl rfl ?_
      refine TL.gFt rfl rfl rfl ?_
      refine TL.opP rfl (op_pickT rfl rfl) ?_
      refine TL.opP rfl (op_move rfl) ?_
      refine TL.gFt rfl rfl rfl ?_
      refine TL.gFt rfl rfl rfl ?_
      refine TL.gFt rfl rfl rfl ?_
      refine TL.gFt rfl rfl rfl ?_
      refine TL.opP rfl (op_pickT rfl rfl) ?_
      refine TL.nil ?_
      refine TQ.then ?_
      refine TC.condT rfl ?_
      refine TC.seq ?_
      refine TC.region ?_   -- region 3 ref.go:149
      refine TL.opP rfl (op_assign rfl) ?_
      refine TL.opP rfl (op_assign rfl) ?_
      refine TL.nil ?_
      refine TQ.then ?_
      refine TC.ret ?_
      refine TQ.then_ret ?_
      refine ret2 rfl rfl rfl (fun w' hp => ?_)
      have hrf := runesF_cases s
      first
        | (have hbad : replBad n a k s := by (unfold replBad; grind)
           exact ⟨_, _, rfl, ⟨.slice none 0 0, by rw [replE, if_pos hbad], by rw [replRef, if_pos hbad]; rfl⟩, new_nil _ 3 (hp.tail)⟩)
        | (have hq := (hp.tail)
           obtain rfl : i = 4 := by omega
           exact ⟨_, _, rfl, ⟨_, by rw [replE, if_neg hok], by rw [replRef, if_neg hok, List.length_reverse, ← hI.1]; first | done | rfl⟩, hq⟩)
    · refine TL.gT rfl rfl ?_
      refine TL.opP rfl (op_move rfl) ?_
      refine TL.gT rfl rfl ?_
      refine TL.opP rfl (op_lss rfl rfl) ?_
      refine TL.opP rfl (op_pickF rfl rfl) ?_
      refine TL.opP rfl (op_move rfl) ?_
      first | refine TL.splitD (fun c3 => ?_) (fun c3 => ?_) | refine TL.splitB (fun c3 => ?_) (fun c3 => ?_)
      · refine TL.gFt rfl rfl rfl ?_
        refine TL.gFt rfl rfl rfl ?_
        refine TL.gFt rfl rfl rfl ?_
        refine TL.opP rfl (op_pickT rfl rfl) ?_
        refine TL.opP rfl (op_move rfl) ?_
        refine TL.gFt rfl rfl rfl ?_
        refine TL.gFt rfl rfl rfl ?_
        refine TL.opP rfl (op_pickT rfl rfl) ?_
        refine TL.opP rfl (op_move rfl) ?_
        refine TL.gFt rfl rfl rfl ?_
        refine TL.gFt rfl rfl rfl ?_
        refine TL.gFt rfl rfl rfl ?_
        refine TL.gFt rfl rfl rfl ?_
        refine TL.gFt rfl rfl rfl ?_
        refine TL.opP rfl (op_pickT rfl rfl) ?_
        refine TL.opP rfl (op_move rfl) ?_
        refine TL.gFt rfl rfl rfl ?_
        refine TL.gFt rfl rfl rfl ?_
        refine TL.opP rfl (op_pickT rfl rfl) ?_
        refine TL.opP rfl (op_move rfl) ?_
        refine TL.gFt rfl rfl rfl ?_
        refine TL.gFt rfl rfl rfl ?_
        refine TL.gFt rfl rfl rfl ?_
        refine TL.gFt rfl rfl rfl ?_
        refine TL.opP rfl (op_pickT rfl rfl) ?_
        refine TL.nil ?_
        refine TQ.then ?_
        refine TC.condT rfl ?_
        refine TC.seq ?_
        refine TC.region ?_   -- region 3 ref.go:149
        refine TL.opP rfl (op_assign rfl) ?_
        refine TL.opP rfl (op_assign rfl) ?_
        refine TL.nil ?_
        refine TQ.then ?_
        refine TC.ret ?_
        refine TQ.then_ret ?_
        refine ret2 rfl rfl rfl (fun w' hp => ?_)
        have hrf := runesF_cases s
        first
          | (have hbad : replBad n a k s := by (unfold replBad; grind)
             exact ⟨_, _, rfl, ⟨.slice none 0 0, by rw [replE, if_pos hbad], by rw [replRef, if_pos hbad]; rfl⟩, new_nil _ 3 (hp.tail)⟩)
          | (have hq := (hp.tail)
             obtain rfl : i = 4 := by omega
             exact ⟨_, _, rfl, ⟨_, by rw [replE, if_neg hok], by rw [replRef, if_neg hok, List.length_reverse, ← hI.1]; first | done | rfl⟩, hq⟩)
      · refine TL.gT rfl rfl ?_
        refine TL.opP rfl (op_move rfl) ?_
        refine TL.gT rfl rfl ?_
        refine TL.opP rfl (op_move rfl) ?_
        refine TL.gT rfl rfl ?_
        refine TL.opP rfl (op_gtr rfl rfl) ?_
        refine TL.opP rfl (op_pickF rfl rfl) ?_
        refine TL.opP rfl (op_move rfl) ?_
        first | refine TL.splitD (fun c4 => ?_) (fun c4 => ?_) | refine TL.splitB (fun c4 => ?_) (fun c4 => ?_)
        · refine TL.gFt rfl rfl rfl ?_
          refine TL.gFt rfl rfl rfl ?_
          refine TL.opP rfl (op_pickT rfl rfl) ?_
          refine TL.opP rfl (op_move rfl) ?_
          refine TL.gFt rfl rfl rfl ?_
          refine TL.gFt rfl rfl rfl ?_
          refine TL.gFt rfl rfl rfl ?_
          refine TL.gFt rfl rfl rfl ?_
          refine TL.gFt rfl rfl rfl ?_
          refine TL.opP rfl (op_pickT rfl rfl) ?_
          refine TL.opP rfl (op_move rfl) ?_
          refine TL.gFt rfl rfl rfl ?_
          refine TL.gFt rfl rfl rfl ?_
          refine TL.opP rfl (op_pickT rfl rfl) ?_
          refine TL.opP rfl (op_move rfl) ?_
          refine TL.gFt rfl rfl rfl ?_
          refine TL.gFt rfl rfl rfl ?_
          refine TL.gFt rfl rfl rfl ?_
          refine TL.gFt rfl rfl rfl ?_
          refine TL.opP rfl (op_pickT rfl rfl) ?_
          refine TL.nil ?_
          refine TQ.then ?_
          refine TC.condT rfl ?_
          refine TC.seq ?_
          refine TC.region ?_   -- region 3 ref.go:149
          refine TL.opP rfl (op_assign rfl) ?_
          refine TL.opP rfl (op_assign rfl) ?_
          refine TL.nil ?_
          refine TQ.then ?_
          refine TC.ret ?_
          refine TQ.then_ret ?_
          refine ret2 rfl rfl rfl (fun w' hp => ?_)
          have hrf := runesF_cases s
          first
            | (have hbad : replBad n a k s := by (unfold replBad; grind)
               exact ⟨_, _, rfl, ⟨.slice none 0 0, by rw [replE, if_pos hbad], by rw [replRef, if_pos hbad]; rfl⟩, new_nil _ 3 (hp.tail)⟩)
            | (have hq := (hp.tail)
               obtain rfl : i = 4 := by omega
               exact ⟨_, _, rfl, ⟨_, by rw [replE, if_neg hok], by rw [replRef, if_neg hok, List.length_reverse, ← hI.1]; first | done | rfl⟩, hq⟩)
        · refine TL.gT rfl rfl ?_
          refine TL.opP rfl (op_move rfl) ?_
          refine TL.gT rfl rfl ?_
          refine TL.opP rfl (op_lss rfl rfl) ?_
          refine TL.opP rfl (op_pickF rfl rfl) ?_
          refine TL.opP rfl (op_move rfl) ?_
          first | refine TL.splitD (fun c5 => ?_) (fun c5 => ?_) | refine TL.splitB (fun c5 => ?_) (fun c5 => ?_)
          · refine TL.gFt rfl rfl rfl ?_
            refine TL.gFt rfl rfl rfl ?_
            refine TL.gFt rfl rfl rfl ?_
            refine TL.gFt rfl rfl rfl ?_
            refine TL.gFt rfl rfl rfl ?_
            refine TL.opP rfl (op_pickT rfl rfl) ?_
            refine TL.opP rfl (op_move rfl) ?_
            refine TL.gFt rfl rfl rfl ?_
            refine TL.gFt rfl rfl rfl ?_
            refine TL.opP rfl (op_pickT rfl rfl) ?_
            refine TL.opP rfl (op_move rfl) ?_
            refine TL.gFt rfl rfl rfl ?_
            refine TL.gFt rfl rfl rfl ?_
            refine TL.gFt rfl rfl rfl ?_
            refine TL.gFt rfl rfl rfl ?_
            refine TL.opP rfl (op_pickT rfl rfl) ?_
            refine TL.nil ?_
            refine TQ.then ?_
            refine TC.condT rfl ?_
            refine TC.seq ?_
            refine TC.region ?_   -- region 3 ref.go:149
            refine TL.opP rfl (op_assign rfl) ?_
            refine TL.opP rfl (op_assign rfl) ?_
            refine TL.nil ?_
            refine TQ.then ?_
            refine TC.ret ?_
            refine TQ.then_ret ?_
            refine ret2 rfl rfl rfl (fun w' hp => ?_)
            have hrf := runesF_cases s
            first
              | (have hbad : replBad n a k s := by (unfold replBad; grind)
                 exact ⟨_, _, rfl, ⟨.slice none 0 0, by rw [replE, if_pos hbad], by rw [replRef, if_pos hbad]; rfl⟩, new_nil _ 3 (hp.tail)⟩)
              | (have hq := (hp.tail)
                 obtain rfl : i = 4 := by omega
                 exact ⟨_, _, rfl, ⟨_, by rw [replE, if_neg hok], by rw [replRef, if_neg hok, List.length_reverse, ← hI.1]; first | done | rfl⟩, hq⟩)
          · refine TL.gT rfl rfl ?_
            refine TL.opP rfl (op_move rfl) ?_
            refine TL.gT rfl rfl ?_
            refine TL.opP rfl (op_move rfl) ?_
            refine TL.gT rfl rfl ?_
            refine TL.opP rfl (op_move rfl) ?_
            refine TL.gT rfl rfl ?_
            refine TL.opP rfl (op_sub rfl rfl rfl (by omega) (by omega)) ?_
            refine TL.gT rfl rfl ?_
            refine TL.opP rfl (op_gtr rfl rfl) ?_
            refine TL.opP rfl (op_pickF rfl rfl) ?_
            refine TL.opP rfl (op_move rfl) ?_
            first | refine TL.splitD (fun c6 => ?_) (fun c6 => ?_) | refine TL.splitB (fun c6 => ?_) (fun c6 => ?_)
            · refine TL.gFt rfl rfl rfl ?_
              refine TL.gFt rfl rfl rfl ?_
              refine TL.opP rfl (op_pickT rfl rfl) ?_
              refine TL.opP rfl (op_move rfl) ?_
              refine TL.gFt rfl rfl rfl ?_
              refine TL.gFt rfl rfl rfl ?_
              refine TL.gFt rfl rfl rfl ?_
              refine TL.gFt rfl rfl rfl ?_
              refine TL.opP rfl (op_pickT rfl rfl) ?_
              refine TL.nil ?_
              refine TQ.then ?_
              refine TC.condT rfl ?_
              refine TC.seq ?_
              refine TC.region ?_   -- region 3 ref.go:149
              refine TL.opP rfl (op_assign rfl) ?_
              refine TL.opP rfl (op_assign rfl) ?_
              refine TL.nil ?_
              refine TQ.then ?_
              refine TC.ret ?_
              refine TQ.then_ret ?_
              refine ret2 rfl rfl rfl (fun w' hp => ?_)
              have hrf := runesF_cases s
              first
                | (have hbad : replBad n a k s := by (unfold replBad; grind)
                   exact ⟨_, _, rfl, ⟨.slice none 0 0, by rw [replE, if_pos hbad], by rw [replRef, if_pos hbad]; rfl⟩, new_nil _ 3 (hp.tail)⟩)
                | (have hq := (hp.tail)
                   obtain rfl : i = 4 := by omega
                   exact ⟨_, _, rfl, ⟨_, by rw [replE, if_neg hok], by rw [replRef, if_neg hok, List.length_reverse, ← hI.1]; first | done | rfl⟩, hq⟩)
            · refine TL.gT rfl rfl ?_
              refine TL.opP rfl (op_move rfl) ?_
              refine TL.gT rfl rfl ?_
              refine TL.opP rfl (op_lss rfl rfl) ?_
              refine TL.opP rfl (op_pickF rfl rfl) ?_
              refine TL.opP rfl (op_move rfl) ?_
              first | refine TL.splitD (fun c7 => ?_) (fun c7 => ?_) | refine TL.splitB (fun c7 => ?_) (fun c7 => ?_)
              · refine TL.gFt rfl rfl rfl ?_
                refine TL.gFt rfl rfl rfl ?_
                refine TL.gFt rfl rfl rfl ?_
                refine TL.gFt rfl rfl rfl ?_
                refine TL.opP rfl (op_pickT rfl rfl) ?_
                refine TL.nil ?_
                refine TQ.then ?_
                refine TC.condT rfl ?_
                refine TC.seq ?_
                refine TC.region ?_   -- region 3 ref.go:149
                refine TL.opP rfl (op_assign rfl) ?_
                refine TL.opP rfl (op_assign rfl) ?_
                refine TL.nil ?_
                refine TQ.then ?_
                refine TC.ret ?_
                refine TQ.then_ret ?_
                refine ret2 rfl rfl rfl (fun w' hp => ?_)
                have hrf := runesF_cases s
                first
                  | (have hbad : replBad n a k s := by (unfold replBad; grind)
                     exact ⟨_, _, rfl, ⟨.slice none 0 0, by rw [replE, if_pos hbad], by rw [replRef, if_pos hbad]; rfl⟩, new_nil _ 3 (hp.tail)⟩)
                  | (have hq := (hp.tail)
                     obtain rfl : i = 4 := by omega
                     exact ⟨_, _, rfl, ⟨_, by rw [replE, if_neg hok], by rw [replRef, if_neg hok, List.length_reverse, ← hI.1]; first | done | rfl⟩, hq⟩)
              · refine TL.gT rfl rfl ?_
                refine TL.opP rfl (op_move rfl) ?_
                refine TL.gT rfl rfl ?_
                refine TL.opP rfl (op_move rfl) ?_
                refine TL.gT rfl rfl ?_
                refine TL.opP rfl (op_sub rfl rfl rfl (by omega) (by omega)) ?_
                refine TL.gT rfl rfl ?_
                refine TL.opP rfl (op_gtr rfl rfl) ?_
                refine TL.opP rfl (op_pickF rfl rfl) ?_
                refine TL.nil ?_
                refine TQ.then ?_
                first | refine TC.condD rfl (fun c8 => ?_) (fun c8 => ?_) | refine TC.condB rfl (fun c8 => ?_) (fun c8 => ?_)
                · refine TC.seq ?_
                  refine TC.region ?_   -- region 3 ref.go:149
                  refine TL.opP rfl (op_assign rfl) ?_
                  refine TL.opP rfl (op_assign rfl) ?_
                  refine TL.nil ?_
                  refine TQ.then ?_
                  refine TC.ret ?_
                  refine TQ.then_ret ?_
                  refine ret2 rfl rfl rfl (fun w' hp => ?_)
                  have hrf := runesF_cases s
                  first
                    | (have hbad : replBad n a k s := by (unfold replBad; grind)
                       exact ⟨_, _, rfl, ⟨.slice none 0 0, by rw [replE, if_pos hbad], by rw [replRef, if_pos hbad]; rfl⟩, new_nil _ 3 (hp.tail)⟩)
                    | (have hq := (hp.tail)
                       obtain rfl : i = 4 := by omega
                       exact ⟨_, _, rfl, ⟨_, by rw [replE, if_neg hok], by rw [replRef, if_neg hok, List.length_reverse, ← hI.1]; first | done | rfl⟩, hq⟩)
                · have hrf0 := runesF_cases s
                  have hok : ¬ replBad n a k s := by unfold replBad; grind
                  have hrf1 : runesF s.data.toList = (rcount s : Int) := by grind
                  have hcb := repl_bounds hok hs
                  refine TC.skip ?_
                  refine TQ.then ?_
                  refine TC.seq ?_
                  refine TC.region ?_   -- region 4 ref.go:151
                  refine TL.opP rfl (op_assign rfl) ?_
                  refine TL.nil ?_
                  refine TQ.then ?_
                  refine TC.seq ?_
                  refine TC.seq ?_
                  refine TC.region ?_   -- region 5 ref.go:152
                  refine TL.opP rfl (op_move rfl) ?_
                  refine TL.opP rfl (op_build (ps := #[(0, _), (1, _)]) rfl (bl_api_Part_01 _ _)) ?_
                  refine TL.opP rfl (op_move rfl) ?_
                  refine TL.opP rfl (op_move rfl) ?_
                  refine TL.opP rfl (op_build (ps := #[(0, _), (1, _), (2, _)]) rfl (bl_api_Part_012 _ _ _)) ?_
                  refine TL.opP rfl (op_move rfl) ?_
                  refine TL.opP rfl (op_build (ps := #[(0, _), (1, _)]) rfl (bl_api_Part_01 _ _)) ?_
                  refine TL.opP rfl (op_move rfl) ?_
                  refine TL.opP rfl (op_move rfl) ?_
                  refine TL.opP rfl (op_sub rfl rfl rfl (by omega) (by omega)) ?_
                  refine TL.opP rfl (op_move rfl) ?_
                  refine TL.opP rfl (op_sub rfl rfl rfl (by omega) (by omega)) ?_
                  refine TL.opP rfl (op_build (ps := #[(0, _), (1, _)]) rfl (bl_api_Part_01 _ _)) ?_
                  refine TL.opX rfl (OpX.buildSlice (ps := #[(0, _), (1, _), (2, _), (3, _)]) rfl (bs_api_Part_4 ⟨1, a, ⟨#[]⟩⟩ ⟨2, runesF s.data.toList, s⟩ ⟨3, k, ⟨#[]⟩⟩ ⟨1, n - a - k, ⟨#[]⟩⟩)) ?_; rintro _ _ ⟨g66, rfl, rfl⟩
                  refine TL.hp (fun _ h => blk_row (k := 3) (m := 4) h rfl (by decide)) ?_
                  refine TL.hp (fun _ h => by rw [hrf1] at h; exact h) ?_
                  refine TL.opV rfl (op_lenV rfl un_sl_api_Part rfl rw0) ?_
                  refine TL.opP rfl (op_move rfl) ?_
                  refine TL.nil ?_
                  refine TQ.then ?_
                  refine TC.block ?_
                  refine TC.hp (fun _ h => new_nil 47 3 h) ?_
                  refine TC.loop (ι := Nat × List Part × Value) (fun (i, r, ov) => [(11, ov), (66, .slice (some ⟨g66, 0, none⟩) 4 4), (67, .int .i64 4), (68, .int .i64 (i : Int))]) (fun (i, r, ov) => .row ov 47 3 (r).length (encs (r).reverse) :: .row (.slice (some ⟨g66, 0, none⟩) 4 4) 47 3 4 (encs ([⟨1, a, ⟨#[]⟩⟩, ⟨2, (rcount s : Int), s⟩, ⟨3, k, ⟨#[]⟩⟩, ⟨1, n - a - k, ⟨#[]⟩⟩] : List Part)) :: L) (fun (i, r, ov) => (([⟨1, a, ⟨#[]⟩⟩, ⟨2, (rcount s : Int), s⟩, ⟨3, k, ⟨#[]⟩⟩, ⟨1, n - a - k, ⟨#[]⟩⟩] : List Part).take i).foldl (fun r p => if 0 < p.n then oneR r p else r) [] = r ∧ i ≤ 4 ∧ RB4 ([⟨1, a, ⟨#[]⟩⟩, ⟨2, (rcount s : Int), s⟩, ⟨3, k, ⟨#[]⟩⟩, ⟨1, n - a - k, ⟨#[]⟩⟩] : List Part) i r) (fun (i, r, ov) => 4 - i) ((0, [], .slice none 0 0)) (⟨rfl, by omega, RB4.start _⟩) ⟨rfl, rfl, rfl, rfl, trivial⟩ (fun _ h => h.drop2) ?_
                  rintro ⟨i, r, ov⟩ (hI : (([⟨1, a, ⟨#[]⟩⟩, ⟨2, (rcount s : Int), s⟩, ⟨3, k, ⟨#[]⟩⟩, ⟨1, n - a - k, ⟨#[]⟩⟩] : List Part).take i).foldl (fun r p => if 0 < p.n then oneR r p else r) [] = r ∧ i ≤ 4 ∧ RB4 ([⟨1, a, ⟨#[]⟩⟩, ⟨2, (rcount s : Int), s⟩, ⟨3, k, ⟨#[]⟩⟩, ⟨1, n - a - k, ⟨#[]⟩⟩] : List Part) i r)
                  have hi4 := hI.2.1
                  show TC _ _ _ _ [(11, ov), (66, .slice (some ⟨g66, 0, none⟩) 4 4), (67, .int .i64 4), (68, .int .i64 (i : Int))] _ _ (.row ov 47 3 (r).length (encs (r).reverse) :: .row (.slice (some ⟨g66, 0, none⟩) 4 4) 47 3 4 (encs ([⟨1, a, ⟨#[]⟩⟩, ⟨2, (rcount s : Int), s⟩, ⟨3, k, ⟨#[]⟩⟩, ⟨1, n - a - k, ⟨#[]⟩⟩] : List Part)) :: L)
                  refine TC.seq ?_
                  refine TC.region ?_   -- region 6 ref.go:152
                  refine TL.opP rfl (op_lss rfl rfl) ?_
                  refine TL.nil ?_
                  refine TQ.then ?_
                  refine TC.seq ?_
                  first | refine TC.condD rfl (fun c9 => ?_) (fun c9 => ?_) | refine TC.condB rfl (fun c9 => ?_) (fun c9 => ?_)
                  · obtain ⟨p, hpk⟩ : ∃ p, ([⟨1, a, ⟨#[]⟩⟩, ⟨2, (rcount s : Int), s⟩, ⟨3, k, ⟨#[]⟩⟩, ⟨1, n - a - k, ⟨#[]⟩⟩] : List Part).getD i default = p := ⟨_, rfl⟩
                    have hkl : i < ([⟨1, a, ⟨#[]⟩⟩, ⟨2, (rcount s : Int), s⟩, ⟨3, k, ⟨#[]⟩⟩, ⟨1, n - a - k, ⟨#[]⟩⟩] : List Part).length := by show i < 4; omega
                    refine TC.skip ?_
                    refine TQ.then ?_
                    refine TC.seq ?_
                    refine TC.block ?_
                    refine TC.seq ?_
                    refine TC.region ?_   -- region 7 ref.go:152
                    refine TL.opV rfl (op_index tsl_api_Part rfl rw1 rfl (by omega) (by omega)) ?_
                    refine TL.opV rfl (op_loadRS tst_api_Part rfl rw1 (cs := p.cs) rfl (lkS hkl hpk) (by decide)) ?_
                    refine TL.opX rfl (OpX.alloc tz_api_Part rfl) ?_; rintro _ _ ⟨g13, rfl, rfl⟩
                    refine TL.opX0 (OpX.storeS tst_api_Part rfl rfl rfl rfl rfl (List.all_eq_true.1 rfl)) ?_; rintro _ _ rfl
                    refine TL.nil ?_
                    refine TQ.then ?_
                    refine TC.seq ?_
                    refine TC.region ?_   -- region 8 ref.go:153
                    refine TL.opP rfl (op_field fld_api_Part_N rfl) ?_
                    refine TL.opV rfl (op_load ts_int rfl m0 rfl) ?_
                    refine TL.opP rfl (op_gtr rfl rfl) ?_
                    refine TL.nil ?_
                    refine TQ.then ?_
                    first | refine TC.condD rfl (fun c10 => ?_) (fun c10 => ?_) | refine TC.condB rfl (fun c10 => ?_) (fun c10 => ?_)
                    · obtain ⟨hb, hb'⟩ := hI.2.2.one hcb (Nat.le_refl 4) hkl hpk c10
                      refine TC.region ?_   -- region 9 ref.go:154
                      refine TL.opP rfl (op_move rfl) ?_
                      refine TL.opV rfl (op_loadS tst_api_Part rfl m0 rfl) ?_
                      refine TL.opX rfl (OpX.callX en_57 rfl (rone_x r p _ hb rw1)) ?_; rintro w2 _ ⟨_, rfl, rfl⟩
                      refine TL.opP rfl (op_assign rfl) ?_
                      refine TL.nil ?_
                      refine TQ.block_normal ?_
                      refine TQ.then ?_
                      refine TC.region ?_   -- region 10 ref.go:152
                      refine TL.opP rfl (op_add rfl rfl rfl (by omega) (by omega)) ?_
                      refine TL.opP rfl (op_move rfl) ?_
                      refine TL.nil ?_
                      exact TQ.round (i + 1, _, w2) (⟨by rw [take_getD hkl hpk, List.foldl_append, hI.1]; show (if 0 < p.n then _ else _) = _; rw [if_pos c10], by omega, hb'⟩) (by show 4 - (i + 1) < 4 - i; omega) ⟨rfl, rfl, rfl, rfl, trivial⟩ (fun _ h => h.drop2.drop1)
                    · refine TC.skip ?_
                      refine TQ.block_normal ?_
                      refine TQ.then ?_
                      refine TC.region ?_   -- region 10 ref.go:152
                      refine TL.opP rfl (op_add rfl rfl rfl (by omega) (by omega)) ?_
                      refine TL.opP rfl (op_move rfl) ?_
                      refine TL.nil ?_
                      exact TQ.round (i + 1, _, ov) (⟨by rw [take_getD hkl hpk, List.foldl_append, hI.1]; show (if 0 < p.n then _ else _) = _; rw [if_neg (by assumption)], by omega, hI.2.2.skip hkl hpk⟩) (by show 4 - (i + 1) < 4 - i; omega) ⟨rfl, rfl, rfl, rfl, trivial⟩ (fun _ h => h.tail)
                  · refine TC.exit ?_
                    refine TQ.then_exit ?_
                    refine TQ.loop_exit ?_
                    refine TQ.block_hit ?_
                    refine TQ.then ?_
                    refine TC.seq ?_
                    refine TC.region ?_   -- region 11 ref.go:157
                    refine TL.opP rfl (op_move rfl) ?_
                    refine TL.opP rfl (op_assign rfl) ?_
                    refine TL.opP rfl (op_assign rfl) ?_
                    refine TL.nil ?_
                    refine TQ.then ?_
                    refine TC.ret ?_
                    refine ret2 rfl rfl rfl (fun w' hp => ?_)
                    have hrf := runesF_cases s
                    first
                      | (have hbad : replBad n a k s := by (unfold replBad; grind)
                         exact ⟨_, _, rfl, ⟨.slice none 0 0, by rw [replE, if_pos hbad], by rw [replRef, if_pos hbad]; rfl⟩, new_nil _ 3 (hp.drop1)⟩)
                      | (have hq := (hp.drop1)
                         obtain rfl : i = 4 := by omega
                         exact ⟨_, _, rfl, ⟨_, by rw [replE, if_neg hok], by rw [replRef, if_neg hok, List.length_reverse, ← hI.1]; first | done | rfl⟩, hq⟩)

theorem rsame_calls (a b : List Part) (va vb : Value) (w : World) (ha : RdRow w va 3 a.length (encs a)) (hb : RdRow w vb 3 b.length (encs b)) :
    Calls Tryd.prog 24 (List.toArray [va, vb]) w fun e w' => e = .returned (.bool (decide (a = b))) ∧ Kp NoB w w' := by
  have hlen : a.length ≤ 9223372036854775807 := by obtain ⟨_, A, c, _, h1, h2, _⟩ := ha; simp only [maxLen] at h2; omega
  refine calls_start Tryd.func24 rfl rfl rfl (Hp.i2 (r := .rd va 3 a.length (encs a)) (s := .rd vb 3 b.length (encs b)) ha hb) ?_
  refine TC.seq ?_
  refine TC.region ?_   -- region 0 ref.go:332
  refine TL.opP rfl (op_assign rfl) ?_
  refine TL.nil ?_
  refine TQ.then ?_
  refine TC.seq ?_
  refine TC.seq ?_
  refine TC.region ?_   -- region 1 ref.go:333
  refine TL.opP rfl (op_move rfl) ?_
  refine TL.opV rfl (op_lenV rfl un_sl_api_Part rfl rd0) ?_
  refine TL.opP rfl (op_move rfl) ?_
  refine TL.opV rfl (op_lenV rfl un_sl_api_Part rfl rd1) ?_
  refine TL.opP rfl (op_neq rfl rfl) ?_
  refine TL.nil ?_
  refine TQ.then ?_
  first | refine TC.condD rfl (fun c1 => ?_) (fun c1 => ?_) | refine TC.condB rfl (fun c1 => ?_) (fun c1 => ?_)
  · refine TC.seq ?_
    refine TC.region ?_   -- region 2 ref.go:334
    refine TL.opP rfl (op_assign rfl) ?_
    refine TL.nil ?_
    refine TQ.then ?_
    refine TC.ret ?_
    refine TQ.then_ret ?_
    refine ret1 rfl rfl (fun w' hp => ?_)
    first
      | exact ⟨by rw [decide_eq_false (by rintro rfl; omega)], hp.kp⟩
      | exact ⟨by rw [decide_eq_false (by rintro rfl; exact c3 (hpa.symm.trans hpb))], hp.kp⟩
      | exact ⟨by rw [decide_eq_true (take_eq_all htk (by omega) (by omega))], hp.kp⟩
  · refine TC.skip ?_
    refine TQ.then ?_
    refine TC.seq ?_
    refine TC.seq ?_
    refine TC.region ?_   -- region 3 ref.go:336
    refine TL.opP rfl (op_move rfl) ?_
    refine TL.opV rfl (op_lenV rfl un_sl_api_Part rfl rd0) ?_
    refine TL.opP rfl (op_move rfl) ?_
    refine TL.nil ?_
    refine TQ.then ?_
    refine TC.block ?_
    refine TC.loop (ι := Nat) (fun k => [(0, va), (1, vb), (12, .int .i64 (a.length : Int)), (13, .int .i64 (k : Int))]) (fun k => [.rd va 3 a.length (encs a), .rd vb 3 b.length (encs b)]) (fun k => k ≤ a.length ∧ a.take k = b.take k) (fun k => a.length - k) (0) (⟨Nat.zero_le _, rfl⟩) ⟨rfl, rfl, rfl, rfl, trivial⟩ (fun _ h => h) ?_
    rintro k ⟨hk, htk⟩
    refine TC.seq ?_
    refine TC.region ?_   -- region 4 ref.go:336
    refine TL.opP rfl (op_lss rfl rfl) ?_
    refine TL.nil ?_
    refine TQ.then ?_
    refine TC.seq ?_
    first | refine TC.condD rfl (fun c2 => ?_) (fun c2 => ?_) | refine TC.condB rfl (fun c2 => ?_) (fun c2 => ?_)
    · have hka : k < a.length := by omega
      have hkb : k < b.length := by omega
      obtain ⟨p, hpa⟩ : ∃ p, a.getD k default = p := ⟨_, rfl⟩
      obtain ⟨q, hpb⟩ : ∃ q, b.getD k default = q := ⟨_, rfl⟩
      refine TC.skip ?_
      refine TQ.then ?_
      refine TC.seq ?_
      refine TC.block ?_
      refine TC.seq ?_
      refine TC.region ?_   -- region 5 ref.go:336
      refine TL.opP rfl (op_move rfl) ?_
      refine TL.opP rfl (op_assign rfl) ?_
      refine TL.nil ?_
      refine TQ.then ?_
      refine TC.seq ?_
      refine TC.draw [] (.cons (.p, 0) (.cons (.p, 1) (.cons (.p, 4) (.cons (.p, 5) (.cons (.t, 2) (.cons (.t, 3) (.cons (.t, 6) (.cons (.t, 7) (.cons (.p, 8) (.nil)))))))))) mo (by kernel_rfl) ?_   -- region 6 ref.go:337
      refine TR.p rfl rfl wt0 (op_move rfl) ?_
      refine TR.p rfl rfl wt0 (op_move rfl) ?_
      refine TR.p rfl rfl wt0 (op_move rfl) ?_
      refine TR.p rfl rfl wt0 (op_move rfl) ?_
      refine TR.t rfl rfl wt0 (op_index tsl_api_Part rfl rd0 rfl (by omega) (by omega)) (fun _ h => h) ?_
      refine TR.t rfl rfl wt0 (op_loadRS tst_api_Part rfl rd0 (cs := p.cs) rfl (lkS hka hpa) (by decide)) (fun _ h => h) ?_
      refine TR.t rfl rfl wt0 (op_index tsl_api_Part rfl rd1 rfl (by omega) (by omega)) (fun _ h => h) ?_
      refine TR.t rfl rfl wt0 (op_loadRS tst_api_Part rfl rd1 (cs := q.cs) rfl (lkS hkb hpb) (by decide)) (fun _ h => h) ?_
      refine TR.p rfl rfl wt0 (op_pneq rfl rfl) ?_
      refine TR.nil ?_
      refine TQ.then ?_
      first | refine TC.condD rfl (fun c3 => ?_) (fun c3 => ?_) | refine TC.condB rfl (fun c3 => ?_) (fun c3 => ?_)
      · refine TC.seq ?_
        refine TC.region ?_   -- region 7 ref.go:338
        refine TL.opP rfl (op_assign rfl) ?_
        refine TL.nil ?_
        refine TQ.then ?_
        refine TC.ret ?_
        refine TQ.block_ret ?_
        refine TQ.then_ret ?_
        refine TQ.loop_ret ?_
        refine TQ.block_ret ?_
        refine TQ.then_ret ?_
        refine ret1 rfl rfl (fun w' hp => ?_)
        first
          | exact ⟨by rw [decide_eq_false (by rintro rfl; omega)], hp.kp⟩
          | exact ⟨by rw [decide_eq_false (by rintro rfl; exact c3 (hpa.symm.trans hpb))], hp.kp⟩
          | exact ⟨by rw [decide_eq_true (take_eq_all htk (by omega) (by omega))], hp.kp⟩
      · refine TC.skip ?_
        refine TQ.block_normal ?_
        refine TQ.then ?_
        refine TC.region ?_   -- region 8 ref.go:336
        refine TL.opP rfl (op_add rfl rfl rfl (by omega) (by omega)) ?_
        refine TL.opP rfl (op_move rfl) ?_
        refine TL.nil ?_
        exact TQ.round (k + 1) (⟨by omega, by rw [take_getD hka hpa, take_getD hkb hpb, htk]; congr 1; simpa using c3⟩) (by omega) ⟨rfl, rfl, rfl, rfl, trivial⟩ (fun _ h => h)
    · refine TC.exit ?_
      refine TQ.then_exit ?_
      refine TQ.loop_exit ?_
      refine TQ.block_hit ?_
      refine TQ.then ?_
      refine TC.seq ?_
      refine TC.region ?_   -- region 9 ref.go:341
      refine TL.opP rfl (op_assign rfl) ?_
      refine TL.nil ?_
      refine TQ.then ?_
      refine TC.ret ?_
      refine ret1 rfl rfl (fun w' hp => ?_)
      first
        | exact ⟨by rw [decide_eq_false (by rintro rfl; omega)], hp.kp⟩
        | exact ⟨by rw [decide_eq_false (by rintro rfl; exact c3 (hpa.symm.trans hpb))], hp.kp⟩
        | exact ⟨by rw [decide_eq_true (take_eq_all htk (by omega) (by omega))], hp.kp⟩

end Go.SK
