/- Layer 12: the document's lists of parts put together, and held against one another. -/
import Derived.Test.YtpomdenbgdgbhaaDoorE93
set_option linter.unusedVariables false
set_option linter.unusedSimpArgs false
set_option maxRecDepth 100000
namespace Go.SK
open Go Go.RowKit Go.Proofs
variable {S : Nat → Prop} {w0 : World} {F L : List Res}
theorem rfits_calls (p : Part) (w : World) (hs : p.text.size < 9223372036854775807) :
    Calls Tryd.prog 114 (List.toArray [p.val]) w fun e w' => e = .returned (.bool (fitsB p)) ∧ Kp NoB w w' := by
 refine calls_start Tryd.func114 rfl rfl rfl (Hp.init0 w) ?_
 refine TC.seq (TC.region ?_)
 refine TL.opX rfl (OpX.box (cs := p.cs) rfl rfl) ?_; rintro _ _ ⟨g1, rfl, rfl⟩
 refine TL.as rfl rfl (TL.nil (TQ.then (TC.seq (TC.seq (TC.region (TL.opP rfl (op_field fld_api_Part_N rfl) (TL.opV rfl (op_load ts_int rfl m0 rfl) (TL.opP rfl (op_lss rfl rfl) (TL.opP rfl (op_move rfl) ?_)))))))))
 refine TL.sp (fun c1 => ?_) (fun c1 => ?_)
 ·refine TL.gFt rfl rfl rfl (TL.gFt rfl rfl rfl (TL.gFt rfl rfl rfl (TL.opP rfl (op_pickT rfl rfl) (TL.nil (TQ.then (TC.condT rfl (TC.seq (TC.region (TL.as rfl rfl (TL.nil (TQ.then (TC.ret (TQ.then_ret ?_)))))))))))))
  refine ret1 rfl rfl (fun w' hp => ?_)
  exact ⟨by first | rw [fitsB_two c1 c2 c3] | (unfold fitsB; rw [rcount_dec]; grind), hp.kp⟩
 ·refine TL.gT rfl rfl (TL.opP rfl (op_field fld_api_Part_N rfl) (TL.gT rfl rfl (TL.opV rfl (op_load ts_int rfl m0 rfl) (TL.gT rfl rfl (TL.opP rfl (op_gtr rfl rfl) (TL.opP rfl (op_pickF rfl rfl) (TL.nil (TQ.then ?_))))))))
  refine TC.sp rfl (fun c2 => ?_) (fun c2 => ?_)
  ·refine TC.seq (TC.region (TL.as rfl rfl (TL.nil (TQ.then (TC.ret (TQ.then_ret ?_))))))
   refine ret1 rfl rfl (fun w' hp => ?_)
   exact ⟨by first | rw [fitsB_two c1 c2 c3] | (unfold fitsB; rw [rcount_dec]; grind), hp.kp⟩
  ·refine TC.skip (TQ.then (TC.seq (TC.seq (TC.region (TL.opP rfl (op_field fld_api_Part_Kind rfl) (TL.opV rfl (op_load ts_int rfl m0 rfl) (TL.opP rfl (op_eql rfl rfl) (TL.nil (TQ.then ?_)))))))))
   refine TC.sp rfl (fun c3 => ?_) (fun c3 => ?_)
   ·refine TC.seq (TC.draw [] (.cons (.p, 0) (.cons (.p, 4) (.cons (.t, 1) (.cons (.t, 5) (.cons (.o, 2) (.cons (.o, 3) (.cons (.p, 6) (.cons (.p, 7) (.nil))))))))) mo (by kernel_rfl) (TR.p rfl rfl wt0 (op_field fld_api_Part_Text rfl) (TR.p rfl rfl wt0 (op_field fld_api_Part_N rfl) (TR.t rfl rfl wt0 (op_load ts_string rfl m0 rfl) (fun _ h => h) (TR.t rfl rfl wt0 (op_load ts_int rfl m0 rfl) (fun _ h => h) ?_)))))
    refine TR.o rfl rfl wt0 (OpX.bytes un_string tsl_uint8 un_uint8 rfl (by simp only [maxLen]; omega)) (by rintro v1 _ rfl; intro w h; exact h.tail) ?_; rintro v1 _ rfl
    refine TR.know (fun _ h => rd1' h) (fun o1 => ?_)
    refine TR.o rfl rfl wt0 (OpX.callX en_96 rfl (CallX.of_quiet (fun w2 hp => runes_calls p.text.data.toList _ w2 (by rw [size_len]; exact rd0 _ _ _ hp)))) (by rintro _ _ ⟨rfl, rfl⟩; intro w h; exact h.tail) ?_; rintro _ _ ⟨rfl, rfl⟩
    refine TR.p rfl rfl wt0 (op_eql rfl rfl) (TR.p rfl rfl wt0 (op_assign rfl) (TR.nil (TQ.then (TC.ret (TQ.then_ret ?_)))))
    refine ret1 rfl rfl (fun w' hp => ?_)
    exact ⟨by first | rw [fitsB_two c1 c2 c3] | (unfold fitsB; rw [rcount_dec]; grind), hp.kp⟩
   ·refine TC.skip (TQ.then (TC.seq (TC.region (TL.opP rfl (op_field fld_api_Part_Kind rfl) (TL.opV rfl (op_load ts_int rfl m0 rfl) (TL.opP rfl (op_eql rfl rfl) (TL.opP rfl (op_move rfl) ?_)))))))
    refine TL.sp (fun c4 => ?_) (fun c4 => ?_)
    ·refine TL.gFt rfl rfl rfl (TL.gFt rfl rfl rfl (TL.gFt rfl rfl rfl (TL.opP rfl (op_pickT rfl rfl) (TL.mv rfl rfl (TL.gT rfl rfl (TL.opP rfl (op_field fld_api_Part_Text rfl) (TL.gT rfl rfl (TL.opV rfl (op_load ts_string rfl m0 rfl) (TL.gT rfl rfl (TL.opP rfl (op_seql rfl rfl) (TL.opP rfl (op_pickT rfl rfl) (TL.as rfl rfl (TL.nil (TQ.then (TC.ret ?_)))))))))))))))
     refine ret1 rfl rfl (fun w' hp => ?_)
     exact ⟨by first | rw [fitsB_two c1 c2 c3] | (unfold fitsB; rw [rcount_dec]; grind), hp.kp⟩
    ·refine TL.gT rfl rfl (TL.opP rfl (op_field fld_api_Part_Kind rfl) (TL.gT rfl rfl (TL.opV rfl (op_load ts_int rfl m0 rfl) (TL.gT rfl rfl (TL.opP rfl (op_eql rfl rfl) (TL.opP rfl (op_pickF rfl rfl) (TL.opP rfl (op_move rfl) ?_)))))))
     refine TL.sp (fun c5 => ?_) (fun c5 => ?_)
     ·refine TL.gT rfl rfl (TL.opP rfl (op_field fld_api_Part_Text rfl) (TL.gT rfl rfl (TL.opV rfl (op_load ts_string rfl m0 rfl) (TL.gT rfl rfl (TL.opP rfl (op_seql rfl rfl) (TL.opP rfl (op_pickT rfl rfl) (TL.as rfl rfl (TL.nil (TQ.then (TC.ret ?_))))))))))
      refine ret1 rfl rfl (fun w' hp => ?_)
      exact ⟨by first | rw [fitsB_two c1 c2 c3] | (unfold fitsB; rw [rcount_dec]; grind), hp.kp⟩
     ·refine TL.gFf rfl rfl rfl (TL.gFf rfl rfl rfl (TL.gFf rfl rfl rfl (TL.opP rfl (op_pickF rfl rfl) (TL.as rfl rfl (TL.nil (TQ.then (TC.ret ?_)))))))
      refine ret1 rfl rfl (fun w' hp => ?_)
      exact ⟨by first | rw [fitsB_two c1 c2 c3] | (unfold fitsB; rw [rcount_dec]; grind), hp.kp⟩

theorem op_pneq {n : Nat} {l : FrL} {dst : Option Tmp} {x y : Operand} {ty t' : TypeId} {pos : String} {af : Array Edge} {gd : Option (Nat × Bool)} {p q : Part} (hx : evO l x = some (.agg p.cs.toArray)) (hy : evO l y = some (.agg q.cs.toArray)) :
    OpP Tryd.prog n l ⟨dst, .binOp .neq 104 x y t', ty, pos, af, gd⟩ (.bool (decide (p ≠ q))) := fun a w ha => by
  have hg : (eqGuard .neq 104 x y (.agg p.cs.toArray) (.agg q.cs.toArray)).run Tryd.prog w = .ok () w := by kernel_rfl
  have h1 : (Op.equal 104 (.agg p.cs.toArray) (.agg q.cs.toArray)).run Tryd.prog w = .ok ((p.kind == q.kind) && ((p.n == q.n) && (p.text.toList == q.text.toList))) w := by
    have hf : (Tryd.prog.fieldsOf 104).toList = [⟨"Kind", 3, 0, false, "", "", 0⟩, ⟨"N", 3, 1, false, "", "", 8⟩, ⟨"Text", 9, 2, false, "", "", 16⟩] := by kernel_rfl
    unfold Op.equal
    rw [show Op.maxDepth = (Op.maxDepth - 2) + 1 + 1 from by decide]
    rw [run_equalIn_struct w _ 104 _ _ (by kernel_rfl) (by kernel_rfl), hf]
    have p1 : (part 3 p.cs.toArray 0).run Tryd.prog w = .ok (.int .i64 p.kind) w := by kernel_rfl
    have p2 : (part 3 p.cs.toArray 1).run Tryd.prog w = .ok (.int .i64 p.n) w := by kernel_rfl
    have p3 : (part 9 p.cs.toArray 2).run Tryd.prog w = .ok (.string p.text) w := by kernel_rfl
    have q1 : (part 3 q.cs.toArray 0).run Tryd.prog w = .ok (.int .i64 q.kind) w := by kernel_rfl
    have q2 : (part 3 q.cs.toArray 1).run Tryd.prog w = .ok (.int .i64 q.n) w := by kernel_rfl
    have q3 : (part 9 q.cs.toArray 2).run Tryd.prog w = .ok (.string q.text) w := by kernel_rfl
    have i1 := fun a b => run_equalIn_int (P := Tryd.prog) w (Op.maxDepth - 2) 3 .i64 .i64 a b un_int
    have i2 := fun a b => run_equalIn_string (P := Tryd.prog) w (Op.maxDepth - 2) 9 a b un_string
    simp only [Op.eqFields, ne_eq, String.reduceEq, not_false_eq_true, if_true, Sem.run_bind, p1, p2, p3, q1, q2, q3, Result.andThen_ok, i1, i2]
    cases h1 : (p.kind == q.kind) <;> cases h2 : (p.n == q.n) <;> cases h3 : (p.text.toList == q.text.toList) <;> simp [Sem.run_pure, i1, i2, h1, h2, h3, p1, p2, p3, q1, q2, q3]
  have h2 : (!((p.kind == q.kind) && ((p.n == q.n) && (p.text.toList == q.text.toList)))) = decide (p ≠ q) := by
    rw [str_eq]
    cases p; cases q
    simp only [ne_eq, Part.mk.injEq, decide_not, Bool.not_eq_not]
    rw [Bool.eq_iff_iff]
    simp
  simp only [execOp, ha.eval hx, ha.eval hy, Sem.run_bind, hg, Result.andThen_ok, binOp, h1, Sem.run_pure, h2]
theorem rone_x (r : List Part) (p : Part) (v : Value) (hb : OneB r p) (hr : Rdb L v 3 r.length (encs r.reverse)) :
    CallX Tryd.prog 108 [v, p.val] S w0 (L) (fun u L' => ∃ v', u = v' ∧ L' = .row v' 104 3 (oneR r p).length (encs (oneR r p).reverse) :: L) := by
 intro w hp
 have hlen := hb.len
 have hp0 := hb.p0
 refine calls_start Tryd.func108 rfl rfl rfl (hp) ?_
 refine TC.seq (TC.region ?_)
 refine TL.opX rfl (OpX.box (cs := p.cs) rfl rfl) ?_; rintro _ _ ⟨g3, rfl, rfl⟩
 refine TL.as rfl rfl (TL.nil (TQ.then (TC.seq (TC.seq (TC.region (TL.mv rfl rfl (TL.opV rfl (op_lenV rfl un_sl_api_Part rfl hr.cons) (TL.as rfl rfl (TL.nil (TQ.then (TC.seq (TC.draw [] (.cons (.p, 0) (.cons (.p, 1) (.cons (.p, 2) (.cons (.p, 3) (.cons (.p, 4) (.cons (.p, 5) (.cons (.p, 9) (.cons (.t, 6) (.cons (.p, 7) (.cons (.t, 8) (.cons (.t, 10) (.cons (.p, 11) (.cons (.p, 12) (.nil)))))))))))))) mo (by kernel_rfl) (TR.p rfl rfl wt0 (op_move rfl) (TR.p rfl rfl wt0 (op_gtr rfl rfl) (TR.p rfl rfl wt0 (op_move rfl) ?_)))))))))))))))
 first | refine TR.splitD (fun c1 => ?_) (fun c1 => ?_) | refine TR.splitB (fun c1 => ?_) (fun c1 => ?_)
 ·obtain ⟨q, r, rfl⟩ : ∃ q r', r = q :: r' := by cases r with | nil => simp at c1 | cons q r' => exact ⟨q, r', rfl⟩
  have hbh := hb.head
  have hlc : (q :: r).length = r.length + 1 := rfl
  have hrl : r.reverse.length = r.length := List.length_reverse
  have hrl2 : (q :: r).reverse.length = (q :: r).length := List.length_reverse
  refine TR.p rfl rfl (by exact wtT rfl rfl) (op_move rfl) (TR.p rfl rfl (by exact wtT rfl rfl) (op_move rfl) (TR.p rfl rfl (by exact wtT rfl rfl) (op_sub rfl rfl rfl (by omega) (by omega)) (TR.p rfl rfl (by exact wtT rfl rfl) (op_field fld_api_Part_Kind rfl) (TR.t rfl rfl (by exact wtT rfl rfl) (op_index tsl_api_Part rfl hr.cons rfl (by omega) (by omega)) (fun _ h => h) (TR.p rfl rfl (by exact wtT rfl rfl) (op_fieldA fld_api_Part_Kind rfl) (TR.t rfl rfl (by exact wtT rfl rfl) (op_loadR ts_int rfl hr.cons (lkR 0 (by omega) rfl)) (fun _ h => h) (TR.t rfl rfl (by exact wtT rfl rfl) (op_load ts_int rfl m0 rfl) (fun _ h => h) (TR.p rfl rfl (by exact wtT rfl rfl) (op_eql rfl rfl) (TR.p rfl rfl wt0 (op_pickT rfl rfl) ?_)))))))))
  refine TR.nil (TQ.then ?_)
  refine TC.sp rfl (fun c2 => ?_) (fun c2 => ?_)
  ·refine TC.seq (TC.region (TL.mv rfl rfl (TL.mv rfl rfl (TL.opP rfl (op_sub rfl rfl rfl (by omega) (by omega)) (TL.opV rfl (op_index tsl_api_Part rfl hr.cons rfl (by omega) (by omega)) (TL.opV rfl (op_loadRS tst_api_Part rfl hr.cons (cs := q.cs) rfl (lkRS (by omega)) (by decide)) ?_))))))
   refine TL.opX rfl (OpX.alloc tz_api_Part rfl) ?_; rintro _ _ ⟨g6, rfl, rfl⟩
   refine TL.opX0 (OpX.storeS tst_api_Part rfl rfl rfl rfl rfl (List.all_eq_true.1 rfl)) ?_; rintro _ _ rfl
   refine TL.nil (TQ.then (TC.seq (TC.region (TL.opP rfl (op_field fld_api_Part_N rfl) (TL.opV rfl (op_load ts_int rfl m0 rfl) (TL.opP rfl (op_field fld_api_Part_N rfl) (TL.opV rfl (op_load ts_int rfl m1 rfl) (TL.opP rfl (op_add rfl rfl rfl (by omega) (by omega)) (TL.opP rfl (op_field fld_api_Part_N rfl) ?_)))))))))
   refine TL.opX0 (OpX.store1 ts_int rfl rfl (by first | rfl | assumption) rfl rfl) ?_; rintro _ _ rfl
   refine TL.nil (TQ.then (TC.seq (TC.region (TL.opP rfl (op_field fld_api_Part_Text rfl) (TL.opV rfl (op_load ts_string rfl m0 rfl) (TL.opP rfl (op_field fld_api_Part_Text rfl) (TL.opV rfl (op_load ts_string rfl m1 rfl) (TL.opP rfl (op_sadd rfl rfl (by omega)) (TL.opP rfl (op_field fld_api_Part_Text rfl) ?_)))))))))
   refine TL.opX0 (OpX.store1 ts_string rfl rfl (by first | rfl | assumption) rfl rfl) ?_; rintro _ _ rfl
   refine TL.nil (TQ.then (TC.seq (TC.draw [] (.cons (.p, 1) (.cons (.p, 2) (.cons (.p, 3) (.cons (.t, 4) (.cons (.t, 6) (.alt (.cons (.o, 0) (.alt (.cons (.o, 5) (.cons (.o, 7) (.cons (.o, 8) (.cons (.p, 9) (.nil))))) (.cons (.o, 7) (.cons (.o, 5) (.cons (.o, 8) (.cons (.p, 9) (.nil))))))) (.cons (.o, 7) (.cons (.o, 0) (.cons (.o, 5) (.cons (.o, 8) (.cons (.p, 9) (.nil)))))))))))) mo (by kernel_rfl) (TR.p rfl rfl wt0 (op_move rfl) (TR.p rfl rfl wt0 (op_move rfl) (TR.p rfl rfl wt0 (op_sub rfl rfl rfl (by omega) (by omega)) (TR.t rfl rfl wt0 (op_cut 0 r.length tsl_api_Part rfl hr.cons.cons (vlo := none) (vhi := (some _)) rfl rfl (.inl ⟨rfl, rfl⟩) (.inr ⟨_, _, rfl, by omega⟩) (by omega) (by omega)) (fun _ h => h) ?_)))))))
   refine TR.t rfl rfl wt0 (op_loadS tst_api_Part rfl m0 rfl) (fun _ h => h) ?_
   refine TR.alt ?_ ?_
   ·refine TR.o rfl rfl wt0 (OpX.buildSlice (ps := #[]) rfl (bs_api_Part_0 )) (by rintro _ _ ⟨g39, rfl, rfl⟩; intro w h; exact h.tail) ?_; rintro _ _ ⟨g39, rfl, rfl⟩
    refine TR.hp (fun _ h => blk_row (k := 3) (m := 0) h rfl (by decide)) ?_
    refine TR.alt ?_ ?_
    ·refine TR.o rfl rfl wt0 (OpX.append (bytes := 32) tsl_api_Part (by decide) (by decide) rfl (hr.cons.cons.cons).takeR (encs_one _) (by omega) (zs := encs r.reverse) rfl) (by rintro v1 _ rfl; intro w h; exact h.tail) ?_; rintro v1 _ rfl
     refine TR.know (fun _ h => row1 h) (fun o1 => (TR.hp (fun _ h => row_len3 h) ?_))
     refine TR.o rfl rfl wt0 (OpX.buildSlice (ps := #[(0, _)]) rfl (bs_api_Part_1 (q.more p))) (by rintro _ _ ⟨g46, rfl, rfl⟩; intro w h; exact h.drop1.tail) ?_; rintro _ _ ⟨g46, rfl, rfl⟩
     refine TR.hp (fun _ h => blk_row (k := 3) (m := 1) h rfl (by decide)) (TR.hp (fun _ h => h.pick1) ?_)
     refine TR.o rfl rfl wt0 (OpX.append (bytes := 32) tsl_api_Part (by decide) (by decide) rfl rw1 (encs_one _) (by omega) (zs := encs (q.more p :: r).reverse) (encs_push _ _)) (by rintro v2 _ rfl; intro w h; exact h.drop1.tail) ?_; rintro v2 _ rfl
     refine TR.know (fun _ h => row1 h) (fun o2 => (TR.hp (fun _ h => row_len3 h) (TR.p rfl rfl wt0 (op_assign rfl) (TR.nil (TQ.then (TC.ret (TQ.then_ret ?_)))))))
     refine ret1 rfl rfl (fun w' hp => ?_)
     have hq := (hp.drop3.drop2.drop1)
     (rw [List.length_reverse] at hq; exact ⟨_, _, rfl, ⟨_, rfl, by rw [oneR_same c2]⟩, hq⟩)
    ·refine TR.o rfl rfl wt0 (OpX.buildSlice (ps := #[(0, _)]) rfl (bs_api_Part_1 (q.more p))) (by rintro _ _ ⟨g46, rfl, rfl⟩; intro w h; exact h.drop1.tail) ?_; rintro _ _ ⟨g46, rfl, rfl⟩
     refine TR.hp (fun _ h => blk_row (k := 3) (m := 1) h rfl (by decide)) (TR.hp (fun _ h => h.pick1) ?_)
     refine TR.o rfl rfl wt0 (OpX.append (bytes := 32) tsl_api_Part (by decide) (by decide) rfl (hr.cons.cons.cons.cons).takeR (encs_one _) (by omega) (zs := encs r.reverse) rfl) (by rintro v3 _ rfl; intro w h; exact h.drop1.tail) ?_; rintro v3 _ rfl
     refine TR.know (fun _ h => row1 h) (fun o3 => (TR.hp (fun _ h => row_len3 h) ?_))
     refine TR.o rfl rfl wt0 (OpX.append (bytes := 32) tsl_api_Part (by decide) (by decide) rfl rw1 (encs_one _) (by omega) (zs := encs (q.more p :: r).reverse) (encs_push _ _)) (by rintro v4 _ rfl; intro w h; exact h.drop1.tail) ?_; rintro v4 _ rfl
     refine TR.know (fun _ h => row1 h) (fun o4 => (TR.hp (fun _ h => row_len3 h) (TR.p rfl rfl wt0 (op_assign rfl) (TR.nil (TQ.then (TC.ret (TQ.then_ret ?_)))))))
     refine ret1 rfl rfl (fun w' hp => ?_)
     have hq := (hp.drop3.drop2.drop1)
     (rw [List.length_reverse] at hq; exact ⟨_, _, rfl, ⟨_, rfl, by rw [oneR_same c2]⟩, hq⟩)
   ·refine TR.o rfl rfl wt0 (OpX.buildSlice (ps := #[(0, _)]) rfl (bs_api_Part_1 (q.more p))) (by rintro _ _ ⟨g46, rfl, rfl⟩; intro w h; exact h.tail) ?_; rintro _ _ ⟨g46, rfl, rfl⟩
    refine TR.hp (fun _ h => blk_row (k := 3) (m := 1) h rfl (by decide)) ?_
    refine TR.o rfl rfl wt0 (OpX.buildSlice (ps := #[]) rfl (bs_api_Part_0 )) (by rintro _ _ ⟨g39, rfl, rfl⟩; intro w h; exact h.drop1.tail) ?_; rintro _ _ ⟨g39, rfl, rfl⟩
    refine TR.hp (fun _ h => blk_row (k := 3) (m := 0) h rfl (by decide)) ?_
    refine TR.o rfl rfl wt0 (OpX.append (bytes := 32) tsl_api_Part (by decide) (by decide) rfl (hr.cons.cons.cons.cons).takeR (encs_one _) (by omega) (zs := encs r.reverse) rfl) (by rintro v5 _ rfl; intro w h; exact h.drop1.tail) ?_; rintro v5 _ rfl
    refine TR.know (fun _ h => row1 h) (fun o5 => (TR.hp (fun _ h => row_len3 h) ?_))
    refine TR.o rfl rfl wt0 (OpX.append (bytes := 32) tsl_api_Part (by decide) (by decide) rfl rw1 (encs_one _) (by omega) (zs := encs (q.more p :: r).reverse) (encs_push _ _)) (by rintro v6 _ rfl; intro w h; exact h.drop1.tail) ?_; rintro v6 _ rfl
    refine TR.know (fun _ h => row1 h) (fun o6 => (TR.hp (fun _ h => row_len3 h) (TR.p rfl rfl wt0 (op_assign rfl) (TR.nil (TQ.then (TC.ret (TQ.then_ret ?_)))))))
    refine ret1 rfl rfl (fun w' hp => ?_)
    have hq := (hp.drop3.drop2.drop1)
    (rw [List.length_reverse] at hq; exact ⟨_, _, rfl, ⟨_, rfl, by rw [oneR_same c2]⟩, hq⟩)
  ·refine TC.skip (TQ.then (TC.seq (TC.draw [] (.cons (.p, 1) (.cons (.t, 3) (.alt (.cons (.o, 0) (.alt (.cons (.o, 2) (.cons (.o, 4) (.cons (.o, 5) (.cons (.p, 6) (.nil))))) (.cons (.o, 4) (.cons (.o, 2) (.cons (.o, 5) (.cons (.p, 6) (.nil))))))) (.cons (.o, 4) (.cons (.o, 0) (.cons (.o, 2) (.cons (.o, 5) (.cons (.p, 6) (.nil))))))))) mo (by kernel_rfl) (TR.p rfl rfl wt0 (op_move rfl) (TR.t rfl rfl wt0 (op_loadS tst_api_Part rfl m0 rfl) (fun _ h => h) ?_)))))
   refine TR.alt ?_ ?_
   ·refine TR.o rfl rfl wt0 (OpX.buildSlice (ps := #[]) rfl (bs_api_Part_0 )) (by rintro _ _ ⟨g48, rfl, rfl⟩; intro w h; exact h.tail) ?_; rintro _ _ ⟨g48, rfl, rfl⟩
    refine TR.hp (fun _ h => blk_row (k := 3) (m := 0) h rfl (by decide)) ?_
    refine TR.alt ?_ ?_
    ·refine TR.o rfl rfl wt0 (OpX.append (bytes := 32) tsl_api_Part (by decide) (by decide) rfl hr.cons.cons (encs_one _) (by omega) (zs := encs (q :: r).reverse) rfl) (by rintro v7 _ rfl; intro w h; exact h.tail) ?_; rintro v7 _ rfl
     refine TR.know (fun _ h => row1 h) (fun o7 => (TR.hp (fun _ h => row_len3 h) ?_))
     refine TR.o rfl rfl wt0 (OpX.buildSlice (ps := #[(0, _)]) rfl (bs_api_Part_1 p)) (by rintro _ _ ⟨g52, rfl, rfl⟩; intro w h; exact h.drop1.tail) ?_; rintro _ _ ⟨g52, rfl, rfl⟩
     refine TR.hp (fun _ h => blk_row (k := 3) (m := 1) h rfl (by decide)) (TR.hp (fun _ h => h.pick1) ?_)
     refine TR.o rfl rfl wt0 (OpX.append (bytes := 32) tsl_api_Part (by decide) (by decide) rfl rw1 (encs_one _) (by omega) (zs := encs (p :: (q :: r)).reverse) (encs_push _ _)) (by rintro v8 _ rfl; intro w h; exact h.drop1.tail) ?_; rintro v8 _ rfl
     refine TR.know (fun _ h => row1 h) (fun o8 => (TR.hp (fun _ h => row_len3 h) (TR.p rfl rfl wt0 (op_assign rfl) (TR.nil (TQ.then (TC.ret ?_))))))
     refine ret1 rfl rfl (fun w' hp => ?_)
     have hq := (hp.drop2.drop1)
     (rw [List.length_reverse] at hq; exact ⟨_, _, rfl, ⟨_, rfl, by rw [oneR_push c2]⟩, hq⟩)
    ·refine TR.o rfl rfl wt0 (OpX.buildSlice (ps := #[(0, _)]) rfl (bs_api_Part_1 p)) (by rintro _ _ ⟨g52, rfl, rfl⟩; intro w h; exact h.drop1.tail) ?_; rintro _ _ ⟨g52, rfl, rfl⟩
     refine TR.hp (fun _ h => blk_row (k := 3) (m := 1) h rfl (by decide)) (TR.hp (fun _ h => h.pick1) ?_)
     refine TR.o rfl rfl wt0 (OpX.append (bytes := 32) tsl_api_Part (by decide) (by decide) rfl hr.cons.cons.cons (encs_one _) (by omega) (zs := encs (q :: r).reverse) rfl) (by rintro v9 _ rfl; intro w h; exact h.drop1.tail) ?_; rintro v9 _ rfl
     refine TR.know (fun _ h => row1 h) (fun o9 => (TR.hp (fun _ h => row_len3 h) ?_))
     refine TR.o rfl rfl wt0 (OpX.append (bytes := 32) tsl_api_Part (by decide) (by decide) rfl rw1 (encs_one _) (by omega) (zs := encs (p :: (q :: r)).reverse) (encs_push _ _)) (by rintro v10 _ rfl; intro w h; exact h.drop1.tail) ?_; rintro v10 _ rfl
     refine TR.know (fun _ h => row1 h) (fun o10 => (TR.hp (fun _ h => row_len3 h) (TR.p rfl rfl wt0 (op_assign rfl) (TR.nil (TQ.then (TC.ret ?_))))))
     refine ret1 rfl rfl (fun w' hp => ?_)
     have hq := (hp.drop2.drop1)
     (rw [List.length_reverse] at hq; exact ⟨_, _, rfl, ⟨_, rfl, by rw [oneR_push c2]⟩, hq⟩)
   ·refine TR.o rfl rfl wt0 (OpX.buildSlice (ps := #[(0, _)]) rfl (bs_api_Part_1 p)) (by rintro _ _ ⟨g52, rfl, rfl⟩; intro w h; exact h.tail) ?_; rintro _ _ ⟨g52, rfl, rfl⟩
    refine TR.hp (fun _ h => blk_row (k := 3) (m := 1) h rfl (by decide)) ?_
    refine TR.o rfl rfl wt0 (OpX.buildSlice (ps := #[]) rfl (bs_api_Part_0 )) (by rintro _ _ ⟨g48, rfl, rfl⟩; intro w h; exact h.drop1.tail) ?_; rintro _ _ ⟨g48, rfl, rfl⟩
    refine TR.hp (fun _ h => blk_row (k := 3) (m := 0) h rfl (by decide)) ?_
    refine TR.o rfl rfl wt0 (OpX.append (bytes := 32) tsl_api_Part (by decide) (by decide) rfl hr.cons.cons.cons (encs_one _) (by omega) (zs := encs (q :: r).reverse) rfl) (by rintro v11 _ rfl; intro w h; exact h.drop1.tail) ?_; rintro v11 _ rfl
    refine TR.know (fun _ h => row1 h) (fun o11 => (TR.hp (fun _ h => row_len3 h) ?_))
    refine TR.o rfl rfl wt0 (OpX.append (bytes := 32) tsl_api_Part (by decide) (by decide) rfl rw1 (encs_one _) (by omega) (zs := encs (p :: (q :: r)).reverse) (encs_push _ _)) (by rintro v12 _ rfl; intro w h; exact h.drop1.tail) ?_; rintro v12 _ rfl
    refine TR.know (fun _ h => row1 h) (fun o12 => (TR.hp (fun _ h => row_len3 h) (TR.p rfl rfl wt0 (op_assign rfl) (TR.nil (TQ.then (TC.ret ?_))))))
    refine ret1 rfl rfl (fun w' hp => ?_)
    have hq := (hp.drop2.drop1)
    (rw [List.length_reverse] at hq; exact ⟨_, _, rfl, ⟨_, rfl, by rw [oneR_push c2]⟩, hq⟩)
 ·obtain rfl : r = [] := by cases r with | nil => rfl | cons q r' => simp at c1
  have hrl2 : ([] : List Part).reverse.length = ([] : List Part).length := rfl
  refine TR.off rfl rfl (by exact wtFf rfl rfl) (TR.off rfl rfl (by exact wtFf rfl rfl) (TR.off rfl rfl (by exact wtFf rfl rfl) (TR.off rfl rfl (by exact wtFf rfl rfl) (TR.offT rfl rfl (by exact wtFf rfl rfl) (fun _ h => h) (TR.off rfl rfl (by exact wtFf rfl rfl) (TR.offT rfl rfl (by exact wtFf rfl rfl) (fun _ h => h) (TR.offT rfl rfl (by exact wtFf rfl rfl) (fun _ h => h) (TR.off rfl rfl (by exact wtFf rfl rfl) (TR.p rfl rfl wt0 (op_pickF rfl rfl) (TR.nil (TQ.then (TC.condF rfl (TC.skip (TQ.then (TC.seq (TC.draw [] (.cons (.p, 1) (.cons (.t, 3) (.alt (.cons (.o, 0) (.alt (.cons (.o, 2) (.cons (.o, 4) (.cons (.o, 5) (.cons (.p, 6) (.nil))))) (.cons (.o, 4) (.cons (.o, 2) (.cons (.o, 5) (.cons (.p, 6) (.nil))))))) (.cons (.o, 4) (.cons (.o, 0) (.cons (.o, 2) (.cons (.o, 5) (.cons (.p, 6) (.nil))))))))) mo (by kernel_rfl) ?_))))))))))))))))
  refine TR.p rfl rfl wt0 (op_move rfl) (TR.t rfl rfl wt0 (op_loadS tst_api_Part rfl m0 rfl) (fun _ h => h) ?_)
  refine TR.alt ?_ ?_
  ·refine TR.o rfl rfl wt0 (OpX.buildSlice (ps := #[]) rfl (bs_api_Part_0 )) (by rintro _ _ ⟨g48, rfl, rfl⟩; intro w h; exact h.tail) ?_; rintro _ _ ⟨g48, rfl, rfl⟩
   refine TR.hp (fun _ h => blk_row (k := 3) (m := 0) h rfl (by decide)) ?_
   refine TR.alt ?_ ?_
   ·refine TR.o rfl rfl wt0 (OpX.append (bytes := 32) tsl_api_Part (by decide) (by decide) rfl hr.cons.cons (encs_one _) (by omega) (zs := encs ([] : List Part).reverse) rfl) (by rintro v13 _ rfl; intro w h; exact h.tail) ?_; rintro v13 _ rfl
    refine TR.know (fun _ h => row1 h) (fun o13 => (TR.hp (fun _ h => row_len3 h) ?_))
    refine TR.o rfl rfl wt0 (OpX.buildSlice (ps := #[(0, _)]) rfl (bs_api_Part_1 p)) (by rintro _ _ ⟨g52, rfl, rfl⟩; intro w h; exact h.drop1.tail) ?_; rintro _ _ ⟨g52, rfl, rfl⟩
    refine TR.hp (fun _ h => blk_row (k := 3) (m := 1) h rfl (by decide)) (TR.hp (fun _ h => h.pick1) ?_)
    refine TR.o rfl rfl wt0 (OpX.append (bytes := 32) tsl_api_Part (by decide) (by decide) rfl rw1 (encs_one _) (by omega) (zs := encs (p :: ([] : List Part)).reverse) (encs_push _ _)) (by rintro v14 _ rfl; intro w h; exact h.drop1.tail) ?_; rintro v14 _ rfl
    refine TR.know (fun _ h => row1 h) (fun o14 => (TR.hp (fun _ h => row_len3 h) (TR.p rfl rfl wt0 (op_assign rfl) (TR.nil (TQ.then (TC.ret ?_))))))
    refine ret1 rfl rfl (fun w' hp => ?_)
    have hq := (hp.drop2.drop1)
    (rw [List.length_reverse] at hq; exact ⟨_, _, rfl, ⟨_, rfl, rfl⟩, hq⟩)
   ·refine TR.o rfl rfl wt0 (OpX.buildSlice (ps := #[(0, _)]) rfl (bs_api_Part_1 p)) (by rintro _ _ ⟨g52, rfl, rfl⟩; intro w h; exact h.drop1.tail) ?_; rintro _ _ ⟨g52, rfl, rfl⟩
    refine TR.hp (fun _ h => blk_row (k := 3) (m := 1) h rfl (by decide)) (TR.hp (fun _ h => h.pick1) ?_)
    refine TR.o rfl rfl wt0 (OpX.append (bytes := 32) tsl_api_Part (by decide) (by decide) rfl hr.cons.cons.cons (encs_one _) (by omega) (zs := encs ([] : List Part).reverse) rfl) (by rintro v15 _ rfl; intro w h; exact h.drop1.tail) ?_; rintro v15 _ rfl
    refine TR.know (fun _ h => row1 h) (fun o15 => (TR.hp (fun _ h => row_len3 h) ?_))
    refine TR.o rfl rfl wt0 (OpX.append (bytes := 32) tsl_api_Part (by decide) (by decide) rfl rw1 (encs_one _) (by omega) (zs := encs (p :: ([] : List Part)).reverse) (encs_push _ _)) (by rintro v16 _ rfl; intro w h; exact h.drop1.tail) ?_; rintro v16 _ rfl
    refine TR.know (fun _ h => row1 h) (fun o16 => (TR.hp (fun _ h => row_len3 h) (TR.p rfl rfl wt0 (op_assign rfl) (TR.nil (TQ.then (TC.ret ?_))))))
    refine ret1 rfl rfl (fun w' hp => ?_)
    have hq := (hp.drop2.drop1)
    (rw [List.length_reverse] at hq; exact ⟨_, _, rfl, ⟨_, rfl, rfl⟩, hq⟩)
  ·refine TR.o rfl rfl wt0 (OpX.buildSlice (ps := #[(0, _)]) rfl (bs_api_Part_1 p)) (by rintro _ _ ⟨g52, rfl, rfl⟩; intro w h; exact h.tail) ?_; rintro _ _ ⟨g52, rfl, rfl⟩
   refine TR.hp (fun _ h => blk_row (k := 3) (m := 1) h rfl (by decide)) ?_
   refine TR.o rfl rfl wt0 (OpX.buildSlice (ps := #[]) rfl (bs_api_Part_0 )) (by rintro _ _ ⟨g48, rfl, rfl⟩; intro w h; exact h.drop1.tail) ?_; rintro _ _ ⟨g48, rfl, rfl⟩
   refine TR.hp (fun _ h => blk_row (k := 3) (m := 0) h rfl (by decide)) ?_
   refine TR.o rfl rfl wt0 (OpX.append (bytes := 32) tsl_api_Part (by decide) (by decide) rfl hr.cons.cons.cons (encs_one _) (by omega) (zs := encs ([] : List Part).reverse) rfl) (by rintro v17 _ rfl; intro w h; exact h.drop1.tail) ?_; rintro v17 _ rfl
   refine TR.know (fun _ h => row1 h) (fun o17 => (TR.hp (fun _ h => row_len3 h) ?_))
   refine TR.o rfl rfl wt0 (OpX.append (bytes := 32) tsl_api_Part (by decide) (by decide) rfl rw1 (encs_one _) (by omega) (zs := encs (p :: ([] : List Part)).reverse) (encs_push _ _)) (by rintro v18 _ rfl; intro w h; exact h.drop1.tail) ?_; rintro v18 _ rfl
   refine TR.know (fun _ h => row1 h) (fun o18 => (TR.hp (fun _ h => row_len3 h) (TR.p rfl rfl wt0 (op_assign rfl) (TR.nil (TQ.then (TC.ret ?_))))))
   refine ret1 rfl rfl (fun w' hp => ?_)
   have hq := (hp.drop2.drop1)
   (rw [List.length_reverse] at hq; exact ⟨_, _, rfl, ⟨_, rfl, rfl⟩, hq⟩)

theorem rnorm_x (e : List Part) (v : Value) (hs : ∀ p ∈ e, p.text.size < 9223372036854775807) (hl : e.length ≤ 524288) (hr : Rdb L v 3 e.length (encs e)) :
    CallX Tryd.prog 80 [v] S w0 (L) (fun u L' => ∃ v', u = v' ∧ L' = .row v' 104 3 (normRef e).length (encs (normRef e)) :: L) := by
 intro w hp
 refine calls_start Tryd.func80 rfl rfl rfl (hp) ?_
 refine TC.seq (TC.region (TL.as rfl rfl (TL.nil (TQ.then (TC.seq (TC.region (TL.as rfl rfl (TL.nil (TQ.then (TC.seq (TC.seq (TC.region (TL.mv rfl rfl (TL.opV rfl (op_lenV rfl un_sl_api_Part rfl hr) (TL.mv rfl rfl (TL.nil (TQ.then (TC.block (TC.hp (fun _ h => new_nil 104 3 h) (TC.loop (ι := Nat × List Part × Value) (fun (k, r, ov) => [(3, ov), (8, v), (9, .int .i64 (e.length : Int)), (10, .int .i64 (k : Int))]) (fun (k, r, ov) => .row ov 104 3 (r).length (encs (r).reverse) :: L) (fun (k, r, ov) => NInv e k r) (fun (k, r, ov) => e.length - k) ((0, [], .slice none 0 0)) (NInv.start e) ⟨rfl, rfl, rfl, rfl, trivial⟩ (fun _ h => h) ?_))))))))))))))))))))
 rintro ⟨k, r, ov⟩ (hI : NInv e k r)
 have hk := hI.kle
 have hrl := hI.len
 show TC _ _ _ _ [(3, ov), (8, v), (9, .int .i64 (e.length : Int)), (10, .int .i64 (k : Int))] _ _ (.row ov 104 3 (r).length (encs (r).reverse) :: L)
 refine TC.seq (TC.region (TL.opP rfl (op_lss rfl rfl) (TL.nil (TQ.then (TC.seq ?_)))))
 refine TC.sp rfl (fun c1 => ?_) (fun c1 => ?_)
 ·have hkl : k < e.length := by omega
  obtain ⟨p, hpk⟩ : ∃ p, e.getD k default = p := ⟨_, rfl⟩
  have hd := drop_getD hkl hpk
  have hpe : p ∈ e := by rw [← hpk, List.getD_eq_getElem?_getD, List.getElem?_eq_getElem hkl]; exact List.getElem_mem hkl
  refine TC.skip (TQ.then (TC.seq (TC.block (TC.seq (TC.region (TL.opV rfl (op_index tsl_api_Part rfl hr.cons rfl (by omega) (by omega)) (TL.opV rfl (op_loadRS tst_api_Part rfl hr.cons (cs := p.cs) rfl (lkS hkl hpk) (by decide)) ?_)))))))
  refine TL.opX rfl (OpX.alloc tz_api_Part rfl) ?_; rintro _ _ ⟨g5, rfl, rfl⟩
  refine TL.opX0 (OpX.storeS tst_api_Part rfl rfl rfl rfl rfl (List.all_eq_true.1 rfl)) ?_; rintro _ _ rfl
  refine TL.nil (TQ.then (TC.seq (TC.seq (TC.region (TL.opV rfl (op_loadS tst_api_Part rfl m0 rfl) (TL.callq rfl en_114 rfl (fun w2 hp => rfits_calls p w2 (hs p hpe)) (TL.opP rfl (op_not rfl rfl) (TL.nil (TQ.then ?_)))))))))
  refine TC.sp rfl (fun c2 => ?_) (fun c2 => ?_)
  ·refine TC.exit (TQ.then_exit (TQ.block_hit (TQ.then (TC.region (TL.opP rfl (op_add rfl rfl rfl (by omega) (by omega)) (TL.mv rfl rfl (TL.nil ?_)))))))
   exact TQ.round (k + 1, _, ov) (hI.skip hkl hpk (by simpa using c2)) (by show _ - (k + 1) < _ - k; omega) ⟨rfl, rfl, rfl, rfl, trivial⟩ (fun _ h => h.tail)
  ·have hff : fitsB p = true := by simpa using c2
   refine TC.skip (TQ.then (TC.seq (TC.region (TL.mv rfl rfl (TL.opV rfl (op_lenV rfl un_sl_api_Part rfl rw1) (TL.as rfl rfl (TL.nil (TQ.then (TC.seq (TC.seq (TC.region (TL.opP rfl (op_field fld_api_Part_Kind rfl) (TL.opV rfl (op_load ts_int rfl m0 rfl) (TL.opP rfl (op_eql rfl rfl) (TL.opP rfl (op_move rfl) ?_)))))))))))))))
   refine TL.sp (fun c3 => ?_) (fun c3 => ?_)
   ·refine TL.gT rfl rfl (TL.mv rfl rfl (TL.gT rfl rfl (TL.opP rfl (op_gtr rfl rfl) (TL.opP rfl (op_pickT rfl rfl) (TL.opP rfl (op_move rfl) ?_)))))
    refine TL.sp (fun c4 => ?_) (fun c4 => ?_)
    ·obtain ⟨q, r, rfl⟩ : ∃ q r', r = q :: r' := by cases r with | nil => simp at c4 | cons q r' => exact ⟨q, r', rfl⟩
     have hlc : (q :: r).length = r.length + 1 := rfl
     refine TL.gT rfl rfl (TL.mv rfl rfl (TL.gT rfl rfl (TL.mv rfl rfl (TL.gT rfl rfl (TL.opP rfl (op_sub rfl rfl rfl (by omega) (by omega)) (TL.gT rfl rfl (TL.opV rfl (op_index tsl_api_Part rfl rw1 rfl (by omega) (by omega)) (TL.gT rfl rfl (TL.opP rfl (op_fieldA fld_api_Part_Kind rfl) (TL.gT rfl rfl (TL.opV rfl (op_loadR ts_int rfl rw1 (lkR 0 (by omega) rfl)) (TL.gT rfl rfl (TL.opP rfl (op_eql rfl rfl) (TL.opP rfl (op_pickT rfl rfl) (TL.nil (TQ.then ?_))))))))))))))))
     refine TC.sp rfl (fun c5 => ?_) (fun c5 => ?_)
     ·obtain ⟨hb1, hb2, hc⟩ := hI.swap hkl hpk hff c3 c5 hl
      refine TC.seq (TC.region (TL.mv rfl rfl (TL.mv rfl rfl (TL.opP rfl (op_sub rfl rfl rfl (by omega) (by omega)) (TL.opV rfl (op_index tsl_api_Part rfl rw1 rfl (by omega) (by omega)) (TL.opV rfl (op_loadRS tst_api_Part rfl rw1 (cs := q.cs) rfl (lkRS (by omega)) (by decide)) ?_))))))
      refine TL.opX rfl (OpX.alloc tz_api_Part rfl) ?_; rintro _ _ ⟨g7, rfl, rfl⟩
      refine TL.opX0 (OpX.storeS tst_api_Part rfl rfl rfl rfl rfl (List.all_eq_true.1 rfl)) ?_; rintro _ _ rfl
      refine TL.nil (TQ.then (TC.seq (TC.draw [] (.cons (.p, 0) (.cons (.p, 1) (.cons (.p, 2) (.cons (.t, 3) (.cons (.t, 4) (.cons (.t, 6) (.cons (.o, 5) (.cons (.o, 7) (.cons (.p, 8) (.nil)))))))))) mo (by kernel_rfl) (TR.p rfl rfl wt0 (op_move rfl) (TR.p rfl rfl wt0 (op_move rfl) (TR.p rfl rfl wt0 (op_sub rfl rfl rfl (by omega) (by omega)) (TR.t rfl rfl wt0 (op_cut 0 r.length tsl_api_Part rfl rw2 (vlo := none) (vhi := (some _)) rfl rfl (.inl ⟨rfl, rfl⟩) (.inr ⟨_, _, rfl, by omega⟩) (by omega) (by omega)) (fun _ h => h) (TR.t rfl rfl wt0 (op_loadS tst_api_Part rfl m1 rfl) (fun _ h => h) (TR.t rfl rfl wt0 (op_loadS tst_api_Part rfl m0 rfl) (fun _ h => h) ?_)))))))))
      refine TR.o rfl rfl wt0 (OpX.callX en_108 rfl (rone_x r p _ hb1 (rw2).takeR)) (by rintro w1 _ ⟨_, rfl, rfl⟩; intro w h; exact h.tail) ?_; rintro w1 _ ⟨_, rfl, rfl⟩
      refine TR.o rfl rfl wt0 (OpX.callX en_108 rfl (rone_x (oneR r p) q _ hb2 rw0)) (by rintro w2 _ ⟨_, rfl, rfl⟩; intro w h; exact h.drop1.tail) ?_; rintro w2 _ ⟨_, rfl, rfl⟩
      refine TR.p rfl rfl wt0 (op_assign rfl) (TR.nil (TQ.then (TC.exit (TQ.then_exit (TQ.block_hit (TQ.then (TC.region (TL.opP rfl (op_add rfl rfl rfl (by omega) (by omega)) (TL.mv rfl rfl (TL.nil ?_))))))))))
      exact TQ.round (k + 1, _, w2) (hc) (by show _ - (k + 1) < _ - k; omega) ⟨rfl, rfl, rfl, rfl, trivial⟩ (fun _ h => h.drop4.drop3.drop2.drop1)
     ·refine TC.skip (TQ.then (TC.region (TL.mv rfl rfl (TL.opV rfl (op_loadS tst_api_Part rfl m0 rfl) ?_))))
      refine TL.opX rfl (OpX.callX en_108 rfl (rone_x (q :: r) p _ (hI.ob hkl hl hff) rw1)) ?_; rintro w3 _ ⟨_, rfl, rfl⟩
      refine TL.as rfl rfl (TL.nil (TQ.block_normal (TQ.then (TC.region (TL.opP rfl (op_add rfl rfl rfl (by omega) (by omega)) (TL.mv rfl rfl (TL.nil ?_)))))))
      exact TQ.round (k + 1, _, w3) (hI.one hkl hpk hff (fun d r' e h => by first | exact c3 h.1 | (subst e; simp at c4) | (injection e with e1 e2; subst e1; exact c5 h.2))) (by show _ - (k + 1) < _ - k; omega) ⟨rfl, rfl, rfl, rfl, trivial⟩ (fun _ h => h.drop2.drop1)
    ·refine TL.gFf rfl rfl rfl (TL.gFf rfl rfl rfl (TL.gFf rfl rfl rfl (TL.gFf rfl rfl rfl (TL.gFf rfl rfl rfl (TL.gFf rfl rfl rfl (TL.gFf rfl rfl rfl (TL.opP rfl (op_pickF rfl rfl) (TL.nil (TQ.then (TC.condF rfl (TC.skip (TQ.then (TC.region (TL.mv rfl rfl (TL.opV rfl (op_loadS tst_api_Part rfl m0 rfl) ?_)))))))))))))))
     refine TL.opX rfl (OpX.callX en_108 rfl (rone_x r p _ (hI.ob hkl hl hff) rw1)) ?_; rintro w4 _ ⟨_, rfl, rfl⟩
     refine TL.as rfl rfl (TL.nil (TQ.block_normal (TQ.then (TC.region (TL.opP rfl (op_add rfl rfl rfl (by omega) (by omega)) (TL.mv rfl rfl (TL.nil ?_)))))))
     exact TQ.round (k + 1, _, w4) (hI.one hkl hpk hff (fun d r' e h => by first | exact c3 h.1 | (subst e; simp at c4) | (injection e with e1 e2; subst e1; exact c5 h.2))) (by show _ - (k + 1) < _ - k; omega) ⟨rfl, rfl, rfl, rfl, trivial⟩ (fun _ h => h.drop2.drop1)
   ·refine TL.gFf rfl rfl rfl (TL.gFf rfl rfl rfl (TL.opP rfl (op_pickF rfl rfl) (TL.mv rfl rfl (TL.gFf rfl rfl rfl (TL.gFf rfl rfl rfl (TL.gFf rfl rfl rfl (TL.gFf rfl rfl rfl (TL.gFf rfl rfl rfl (TL.gFf rfl rfl rfl (TL.gFf rfl rfl rfl (TL.opP rfl (op_pickF rfl rfl) (TL.nil (TQ.then (TC.condF rfl (TC.skip (TQ.then (TC.region (TL.mv rfl rfl (TL.opV rfl (op_loadS tst_api_Part rfl m0 rfl) ?_)))))))))))))))))))
    refine TL.opX rfl (OpX.callX en_108 rfl (rone_x r p _ (hI.ob hkl hl hff) rw1)) ?_; rintro w5 _ ⟨_, rfl, rfl⟩
    refine TL.as rfl rfl (TL.nil (TQ.block_normal (TQ.then (TC.region (TL.opP rfl (op_add rfl rfl rfl (by omega) (by omega)) (TL.mv rfl rfl (TL.nil ?_)))))))
    exact TQ.round (k + 1, _, w5) (hI.one hkl hpk hff (fun d r' e h => by first | exact c3 h.1 | (subst e; simp at c4) | (injection e with e1 e2; subst e1; exact c5 h.2))) (by show _ - (k + 1) < _ - k; omega) ⟨rfl, rfl, rfl, rfl, trivial⟩ (fun _ h => h.drop2.drop1)
 ·refine TC.exit (TQ.then_exit (TQ.loop_exit (TQ.block_hit (TQ.then (TC.seq (TC.region (TL.mv rfl rfl (TL.as rfl rfl (TL.nil (TQ.then (TC.ret ?_)))))))))))
  refine ret1 rfl rfl (fun w' hp => ?_)
  have hq := (hp)
  exact ⟨_, _, rfl, ⟨_, rfl, by rw [normRef, List.length_reverse, ← hI.go, List.take_of_length_le (by omega)]⟩, hq⟩

theorem rsame_calls (a b : List Part) (va vb : Value) (w : World) (ha : RdRow w va 3 a.length (encs a)) (hb : RdRow w vb 3 b.length (encs b)) :
    Calls Tryd.prog 27 (List.toArray [va, vb]) w fun e w' => e = .returned (.bool (decide (a = b))) ∧ Kp NoB w w' := by
 have hlen : a.length ≤ 9223372036854775807 := by obtain ⟨_, A, c, _, h1, h2, _⟩ := ha; simp only [maxLen] at h2; omega
 refine calls_start Tryd.func27 rfl rfl rfl (Hp.i2 (r := .rd va 3 a.length (encs a)) (s := .rd vb 3 b.length (encs b)) ha hb) ?_
 refine TC.seq (TC.region (TL.as rfl rfl (TL.nil (TQ.then (TC.seq (TC.seq (TC.region (TL.mv rfl rfl (TL.opV rfl (op_lenV rfl un_sl_api_Part rfl rd0) (TL.mv rfl rfl (TL.opV rfl (op_lenV rfl un_sl_api_Part rfl rd1) (TL.opP rfl (op_neq rfl rfl) (TL.nil (TQ.then ?_))))))))))))))
 refine TC.sp rfl (fun c1 => ?_) (fun c1 => ?_)
 ·refine TC.seq (TC.region (TL.as rfl rfl (TL.nil (TQ.then (TC.ret (TQ.then_ret ?_))))))
  refine ret1 rfl rfl (fun w' hp => ?_)
  exact ⟨by rw [decide_eq_false (by rintro rfl; omega)], hp.kp⟩
 ·refine TC.skip (TQ.then (TC.seq (TC.seq (TC.region (TL.mv rfl rfl (TL.opV rfl (op_lenV rfl un_sl_api_Part rfl rd0) (TL.mv rfl rfl (TL.nil (TQ.then (TC.block (TC.loop (ι := Nat) (fun k => [(0, va), (1, vb), (12, .int .i64 (a.length : Int)), (13, .int .i64 (k : Int))]) (fun k => [.rd va 3 a.length (encs a), .rd vb 3 b.length (encs b)]) (fun k => k ≤ a.length ∧ a.take k = b.take k) (fun k => a.length - k) (0) (⟨Nat.zero_le _, rfl⟩) ⟨rfl, rfl, rfl, rfl, trivial⟩ (fun _ h => h) ?_)))))))))))
  rintro k ⟨hk, htk⟩
  refine TC.seq (TC.region (TL.opP rfl (op_lss rfl rfl) (TL.nil (TQ.then (TC.seq ?_)))))
  refine TC.sp rfl (fun c2 => ?_) (fun c2 => ?_)
  ·have hka : k < a.length := by omega
   have hkb : k < b.length := by omega
   obtain ⟨p, hpa⟩ : ∃ p, a.getD k default = p := ⟨_, rfl⟩
   obtain ⟨q, hpb⟩ : ∃ q, b.getD k default = q := ⟨_, rfl⟩
   refine TC.skip (TQ.then (TC.seq (TC.block (TC.seq (TC.region (TL.mv rfl rfl (TL.as rfl rfl (TL.nil (TQ.then (TC.seq (TC.draw [] (.cons (.p, 0) (.cons (.p, 1) (.cons (.p, 4) (.cons (.p, 5) (.cons (.t, 2) (.cons (.t, 3) (.cons (.t, 6) (.cons (.t, 7) (.cons (.p, 8) (.nil)))))))))) mo (by kernel_rfl) (TR.p rfl rfl wt0 (op_move rfl) (TR.p rfl rfl wt0 (op_move rfl) (TR.p rfl rfl wt0 (op_move rfl) (TR.p rfl rfl wt0 (op_move rfl) (TR.t rfl rfl wt0 (op_index tsl_api_Part rfl rd0 rfl (by omega) (by omega)) (fun _ h => h) (TR.t rfl rfl wt0 (op_loadRS tst_api_Part rfl rd0 (cs := p.cs) rfl (lkS hka hpa) (by decide)) (fun _ h => h) (TR.t rfl rfl wt0 (op_index tsl_api_Part rfl rd1 rfl (by omega) (by omega)) (fun _ h => h) ?_))))))))))))))))))
   refine TR.t rfl rfl wt0 (op_loadRS tst_api_Part rfl rd1 (cs := q.cs) rfl (lkS hkb hpb) (by decide)) (fun _ h => h) (TR.p rfl rfl wt0 (op_pneq rfl rfl) (TR.nil (TQ.then ?_)))
   refine TC.sp rfl (fun c3 => ?_) (fun c3 => ?_)
   ·refine TC.seq (TC.region (TL.as rfl rfl (TL.nil (TQ.then (TC.ret (TQ.block_ret (TQ.then_ret (TQ.loop_ret (TQ.block_ret (TQ.then_ret ?_))))))))))
    refine ret1 rfl rfl (fun w' hp => ?_)
    exact ⟨by rw [decide_eq_false (by rintro rfl; exact c3 (hpa.symm.trans hpb))], hp.kp⟩
   ·refine TC.skip (TQ.block_normal (TQ.then (TC.region (TL.opP rfl (op_add rfl rfl rfl (by omega) (by omega)) (TL.mv rfl rfl (TL.nil ?_))))))
    exact TQ.round (k + 1) (⟨by omega, by rw [take_getD hka hpa, take_getD hkb hpb, htk]; congr 1; simpa using c3⟩) (by omega) ⟨rfl, rfl, rfl, rfl, trivial⟩ (fun _ h => h)
  ·refine TC.exit (TQ.then_exit (TQ.loop_exit (TQ.block_hit (TQ.then (TC.seq (TC.region (TL.as rfl rfl (TL.nil (TQ.then (TC.ret ?_))))))))))
   refine ret1 rfl rfl (fun w' hp => ?_)
   exact ⟨by rw [decide_eq_true (take_eq_all htk (by omega) (by omega))], hp.kp⟩

end Go.SK
