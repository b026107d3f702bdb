/- Walks: layer 17, the program's histories. -/
import Derived.Test.YtcfdglknagbbgaaDoorMF
import Derived.Test.YtcfdglknagbbgaaDoorK8
import Derived.Test.YtcfdglknagbbgaaDoorMI
import Derived.Test.YtcfdglknagbbgaaDoorSh
set_option linter.unusedVariables false
set_option linter.unusedSimpArgs false
set_option maxRecDepth 100000
namespace Go.SK
open Go Go.RowKit Go.Proofs
section
variable {P : Program} {n : Nat} {l : FrL} {dst : Option Tmp} {ty : TypeId} {pos : String} {af : Array Edge} {gd : Option (Nat × Bool)}
theorem op_eqPtr {x : Operand} {t t' : TypeId} {A : Option Addr} {b : Bool} (hx : evO l x = some (.pointer A)) (hq : ∀ w : World, (binOp .eql t (.pointer A) (.pointer none)).run P w = .ok (.bool b) w) :
    OpP P n l ⟨dst, .binOp .eql t x (.const (.pointer none)) t', ty, pos, af, gd⟩ (.bool b) := fun q w ha => by
  have hg : (eqGuard .eql t x (.const (.pointer none)) (.pointer A) (.pointer none)).run P w = .ok () w := by simp [eqGuard]
  have hc : q.eval (.const (.pointer none)) = .pointer none := rfl
  simp only [execOp, ha.eval hx, hc, Sem.run_bind, hg, Result.andThen_ok, hq w, Sem.run_pure]
end
variable {S : Nat → Prop} {w0 : World} {F L : List Res}
theorem hist_eq (g : Nat) (w : World) : (binOp .eql 29 (.pointer (some ⟨g, 0, none⟩)) (.pointer none)).run Tryd.prog w = .ok (.bool false) w := by kernel_rfl
theorem eq_nil_pile (m : Nat) (A : Option Addr) (c : Nat) (w : World) : (binOp .eql 64 (.slice A m c) (.slice none 0 0)).run Tryd.prog w = .ok (.bool (decide (A = none))) w := by
  cases A with
  | none => kernel_rfl
  | some a => kernel_rfl
theorem eq_nil_parts (m : Nat) (A : Option Addr) (c : Nat) (w : World) : (binOp .eql 23 (.slice A m c) (.slice none 0 0)).run Tryd.prog w = .ok (.bool (decide (A = none))) w := by
  cases A with
  | none => kernel_rfl
  | some a => kernel_rfl
theorem cells_one {v : Value} (h : v.oneCell' = true) : v.cells = [v].toArray := by cases v <;> first | rfl | cases h
theorem one1' {v : Value} (h : v.oneCell' = true) : ∀ u ∈ [v], u.oneCell' = true := fun u hu => by rw [List.mem_singleton.1 hu]; exact h
theorem on_long {w : World} {v : Value} {t : TypeId} {ps : List PE} {x : PE} (h : Hp S w0 w (.row v t 1 (ps.length + 1) (pv (ps ++ [x])) :: L)) (c : 50 < ps.length + 1) (he : ∀ y ∈ ps, Src L y.1 3 y.2.length (encs y.2)) (hx : Src L x.1 3 x.2.length (encs x.2)) : Hp S w0 w (pileR (Value.cut v 1 (ps.length + 1) 1) (onP ps x) :: L) :=
  rd_pile (rd_cut (row_rd h) 1 (ps.length + 1) (by omega) (Nat.le_refl _)) (by
    rw [onP, if_pos c, Nat.one_mul, Nat.mul_one, List.take_of_length_le (by simp), ← List.map_drop]) (fun y hy => by
    rcases onP_mem hy with hy | rfl
    · exact he y hy
    · exact hx)
theorem on_short {w : World} {v : Value} {t : TypeId} {ps : List PE} {x : PE} (h : Hp S w0 w (.row v t 1 (ps.length + 1) (pv (ps ++ [x])) :: L)) (c : ¬ 50 < ps.length + 1) (he : ∀ y ∈ ps, Src L y.1 3 y.2.length (encs y.2)) (hx : Src L x.1 3 x.2.length (encs x.2)) : Hp S w0 w (pileR v (onP ps x) :: L) :=
  row_pile h (by rw [onP, if_neg c]) (fun y hy => by
    rcases onP_mem hy with hy | rfl
    · exact he y hy
    · exact hx)
theorem row0 {w : World} {v : Value} {t m : Nat} {xs : List Value} (h : Hp S w0 w (.row v t 1 (0 + m) xs :: L)) : Hp S w0 w (.row v t 1 m xs :: L) := by rw [Nat.zero_add] at h; exact h
theorem bes0 {w : World} {v : Value} {t m : Nat} {ps : List PE} (h : Hp S w0 w (.row v t 1 m (pv ps) :: L)) : Hp S w0 w (.row v t 1 m (pv (ps.take ps.length) ++ pv []) :: L) := by
  rw [List.take_of_length_le (Nat.le_refl _)]; show Hp S w0 w (.row v t 1 m (pv ps ++ []) :: L); rw [List.append_nil]; exact h
theorem pile_mem {ps : List PE} {j : Nat} {x : PE} (h : j < ps.length) (hx : ps.getD j default = x) : x ∈ ps := by
  rw [← hx, List.getD_eq_getElem?_getD, List.getElem?_eq_getElem h]; exact List.getElem_mem h
theorem cut_pile {ps : List PE} {j : Nat} : (((pv ps).drop (0 * 1)).take ((j - 0) * 1)) = pv (ps.take j) := by
  rw [Nat.zero_mul, List.drop_zero, Nat.mul_one, Nat.sub_zero, ← List.map_take]
theorem cut_one {ps : List PE} {j : Nat} (h : ∀ u ∈ pv ps, u.oneCell' = true) : ∀ u ∈ (((pv ps).drop (0 * 1)).take ((j - 0) * 1)), u.oneCell' = true := fun u hu => h u (List.mem_of_mem_drop (List.mem_of_mem_take hu))
theorem dead_x (bv av : Value) (n : Int) (mk : Bool) (g : Nat) :
    CallX Tryd.prog 26 [.pointer (some ⟨g, 0, none⟩)] S w0 (.blk g (.cells [bv, av, .int .i64 n, .bool mk].toArray 66 (0, 0)) :: F) (fun u L' => u = .bool (!mk) ∧ L' = .blk g (.cells [bv, av, .int .i64 n, .bool mk].toArray 66 (0, 0)) :: F) := by
 intro w hp
 refine calls_start Tryd.func26 rfl rfl rfl (hp) ?_
 refine TC.seq (TC.region (TL.opP rfl (op_assign rfl) (TL.nil (TQ.then (TC.seq (TC.region (TL.opP rfl (op_move rfl) (TL.opP rfl (op_eqPtr rfl (hist_eq g)) (TL.opP rfl (op_move rfl) (TL.gT rfl rfl (TL.opP rfl (op_move rfl) (TL.gT rfl rfl (TL.opP rfl (op_nilCheck rfl) (TL.gT rfl rfl (TL.opP rfl (op_field fld_undo_History_made rfl) (TL.gT rfl rfl (TL.opV rfl (op_load ts_bool rfl m0 rfl) (TL.gT rfl rfl (TL.opP rfl (op_not rfl rfl) (TL.opP rfl (by first | exact op_pickT rfl rfl | exact op_pickF rfl rfl) (TL.opP rfl (op_assign rfl) (TL.nil (TQ.then (TC.ret ?_))))))))))))))))))))))))
 refine ret1 rfl rfl (fun w' hp => ?_)
 exact ⟨_, _, rfl, ⟨rfl, rfl⟩, (hp)⟩


theorem hsize_x (bv av : Value) (n : Int) (g : Nat) :
    CallX Tryd.prog 20 [.pointer (some ⟨g, 0, none⟩)] S w0 (.blk g (.cells [bv, av, .int .i64 n, .bool true].toArray 66 (0, 0)) :: F) (fun u L' => u = .int .i64 n ∧ L' = .blk g (.cells [bv, av, .int .i64 n, .bool true].toArray 66 (0, 0)) :: F) := by
 intro w hp
 refine calls_start Tryd.func20 rfl rfl rfl (hp) ?_
 refine TC.seq (TC.region (TL.opP rfl (op_assign rfl) (TL.nil (TQ.then (TC.seq (TC.seq (TC.region (TL.opP rfl (op_move rfl) ?_))))))))
 refine TL.opX rfl (OpX.callX en_26 rfl (dead_x _ _ _ true _)) ?_; rintro _ _ ⟨rfl, rfl⟩
 refine TL.nil (TQ.then ?_)
 first | refine TC.condD rfl (fun c1 => ?_) (fun c1 => ?_) | refine TC.condB rfl (fun c1 => ?_) (fun c1 => ?_)
 ·exact absurd c1 (by decide)
 ·refine TC.skip (TQ.then (TC.seq (TC.region (TL.opP rfl (op_move rfl) (TL.opP rfl (op_nilCheck rfl) (TL.opP rfl (op_field fld_undo_History_n rfl) (TL.opV rfl (op_load ts_int rfl m0 rfl) (TL.opP rfl (op_assign rfl) (TL.nil (TQ.then (TC.ret ?_)))))))))))
  refine ret1 rfl rfl (fun w' hp => ?_)
  exact ⟨_, _, rfl, ⟨rfl, rfl⟩, (hp)⟩

theorem hfits_x (e : List Part) (v bv av : Value) (n : Int) (g : Nat) (hs : small e) (hT : tabs ∈ F) (he : Rdb F v 3 e.length (encs e)) :
    CallX Tryd.prog 27 [.pointer (some ⟨g, 0, none⟩), v] S w0 (.blk g (.cells [bv, av, .int .i64 n, .bool true].toArray 66 (0, 0)) :: F) (fun u L' => u = .tuple #[.int .i64 (fitT e n), .int .i64 (fitE e n)] ∧ L' = .blk g (.cells [bv, av, .int .i64 n, .bool true].toArray 66 (0, 0)) :: F) := by
 intro w hp
 refine calls_start Tryd.func27 rfl rfl rfl (hp) ?_
 refine TC.seq (TC.region (TL.opP rfl (op_assign rfl) (TL.opP rfl (op_assign rfl) (TL.nil (TQ.then (TC.seq (TC.region (TL.opP rfl (op_move rfl) (TL.callq rfl en_42 rfl (fun w2 hp => size_calls e v w2 (tabs_at hp (.tail _ hT)) hs (he.cons _ _ _ hp)) (TL.opP rfl (op_move rfl) (TL.opP rfl (op_extract rfl rfl) (TL.opP rfl (op_extract rfl rfl) (TL.opP rfl (op_extract rfl rfl) (TL.opP rfl (op_assign rfl) (TL.opP rfl (op_assign rfl) (TL.opP rfl (op_assign rfl) (TL.nil (TQ.then (TC.seq (TC.seq (TC.region (TL.opP rfl (op_move rfl) (TL.opP rfl (op_neq rfl rfl) (TL.opP rfl (op_move rfl) ?_))))))))))))))))))))))))
 first | refine TL.splitD (fun c1 => ?_) (fun c1 => ?_) | refine TL.splitB (fun c1 => ?_) (fun c1 => ?_)
 ·refine TL.gFt rfl rfl rfl (TL.gFt rfl rfl rfl (TL.gFt rfl rfl rfl (TL.gFt rfl rfl rfl (TL.gFt rfl rfl rfl (TL.gFt rfl rfl rfl (TL.opP rfl (op_pickT rfl rfl) (TL.opP rfl (op_move rfl) (TL.gFt rfl rfl rfl (TL.gFt rfl rfl rfl (TL.opP rfl (op_pickT rfl rfl) (TL.nil (TQ.then (TC.condT rfl (TC.seq (TC.region (TL.opP rfl (op_assign rfl) (TL.opP rfl (op_assign rfl) (TL.nil (TQ.then (TC.ret (TQ.then_ret ?_)))))))))))))))))))))
  refine ret2 rfl rfl rfl (fun w' hp => ?_)
  first
    | (have hb := fit_no (e := e) (n := n) (fun ⟨a, b, c⟩ => by first | exact c1 a | exact c2 b | (exact absurd c3 (by omega)))
       exact ⟨_, _, rfl, ⟨by (rw [hb.1, hb.2]; first | done | rfl), rfl⟩, (hp)⟩)
    | (have hb := fit_yes (e := e) (n := n) ⟨by omega, by omega, by omega⟩
       exact ⟨_, _, rfl, ⟨by (rw [hb.1, hb.2]; first | done | rfl), rfl⟩, (hp)⟩)
 ·refine TL.gT rfl rfl (TL.opP rfl (op_move rfl) (TL.gT rfl rfl (TL.opP rfl (op_move rfl) (TL.gT rfl rfl (TL.opP rfl (op_nilCheck rfl) (TL.gT rfl rfl (TL.opP rfl (op_field fld_undo_History_n rfl) (TL.gT rfl rfl (TL.opV rfl (op_load ts_int rfl m0 rfl) (TL.gT rfl rfl (TL.opP rfl (op_neq rfl rfl) (TL.opP rfl (op_pickF rfl rfl) (TL.opP rfl (op_move rfl) ?_)))))))))))))
  first | refine TL.splitD (fun c2 => ?_) (fun c2 => ?_) | refine TL.splitB (fun c2 => ?_) (fun c2 => ?_)
  ·refine TL.gFt rfl rfl rfl (TL.gFt rfl rfl rfl (TL.opP rfl (op_pickT rfl rfl) (TL.nil (TQ.then (TC.condT rfl (TC.seq (TC.region (TL.opP rfl (op_assign rfl) (TL.opP rfl (op_assign rfl) (TL.nil (TQ.then (TC.ret (TQ.then_ret ?_)))))))))))))
   refine ret2 rfl rfl rfl (fun w' hp => ?_)
   first
     | (have hb := fit_no (e := e) (n := n) (fun ⟨a, b, c⟩ => by first | exact c1 a | exact c2 b | (exact absurd c3 (by omega)))
        exact ⟨_, _, rfl, ⟨by (rw [hb.1, hb.2]; first | done | rfl), rfl⟩, (hp)⟩)
     | (have hb := fit_yes (e := e) (n := n) ⟨by omega, by omega, by omega⟩
        exact ⟨_, _, rfl, ⟨by (rw [hb.1, hb.2]; first | done | rfl), rfl⟩, (hp)⟩)
  ·refine TL.gT rfl rfl (TL.opP rfl (op_move rfl) (TL.gT rfl rfl (TL.opP rfl (op_gtr rfl rfl) (TL.opP rfl (op_pickF rfl rfl) (TL.nil (TQ.then ?_))))))
   first | refine TC.condD rfl (fun c3 => ?_) (fun c3 => ?_) | refine TC.condB rfl (fun c3 => ?_) (fun c3 => ?_)
   ·refine TC.seq (TC.region (TL.opP rfl (op_assign rfl) (TL.opP rfl (op_assign rfl) (TL.nil (TQ.then (TC.ret (TQ.then_ret ?_)))))))
    refine ret2 rfl rfl rfl (fun w' hp => ?_)
    first
      | (have hb := fit_no (e := e) (n := n) (fun ⟨a, b, c⟩ => by first | exact c1 a | exact c2 b | (exact absurd c3 (by omega)))
         exact ⟨_, _, rfl, ⟨by (rw [hb.1, hb.2]; first | done | rfl), rfl⟩, (hp)⟩)
      | (have hb := fit_yes (e := e) (n := n) ⟨by omega, by omega, by omega⟩
         exact ⟨_, _, rfl, ⟨by (rw [hb.1, hb.2]; first | done | rfl), rfl⟩, (hp)⟩)
   ·refine TC.skip (TQ.then (TC.seq (TC.region (TL.opP rfl (op_move rfl) (TL.opP rfl (op_assign rfl) (TL.opP rfl (op_assign rfl) (TL.nil (TQ.then (TC.ret ?_)))))))))
    refine ret2 rfl rfl rfl (fun w' hp => ?_)
    first
      | (have hb := fit_no (e := e) (n := n) (fun ⟨a, b, c⟩ => by first | exact c1 a | exact c2 b | (exact absurd c3 (by omega)))
         exact ⟨_, _, rfl, ⟨by (rw [hb.1, hb.2]; first | done | rfl), rfl⟩, (hp)⟩)
      | (have hb := fit_yes (e := e) (n := n) ⟨by omega, by omega, by omega⟩
         exact ⟨_, _, rfl, ⟨by (rw [hb.1, hb.2]; first | done | rfl), rfl⟩, (hp)⟩)

theorem clone_x (e : List Part) (v : Value) (hl : e.length ≤ 4398046511104) (hr : Rdb L v 3 e.length (encs e)) :
    CallX Tryd.prog 44 [v] S w0 (L) (fun u L' => ∃ v', u = v' ∧ L' = .row v' 50 3 (e).length (encs (e)) :: L) := by
 intro w hp
 refine calls_start Tryd.func44 rfl rfl rfl (hp) ?_
 refine TC.seq (TC.region (TL.opP rfl (op_assign rfl) (TL.nil (TQ.then (TC.seq (TC.seq (TC.region (TL.opP rfl (op_move rfl) ?_))))))))
 refine TL.opX rfl (OpX.eqNil rfl hr (eq_nil_parts _)) ?_; rintro _ _ ⟨b1, rfl, hb1, rfl⟩
 refine TL.nil (TQ.then ?_)
 first | refine TC.condD rfl (fun c1 => ?_) (fun c1 => ?_) | refine TC.condB rfl (fun c1 => ?_) (fun c1 => ?_)
 ·refine TC.seq (TC.region (TL.opP rfl (op_assign rfl) (TL.nil (TQ.then (TC.ret (TQ.then_ret ?_))))))
  refine ret1 rfl rfl (fun w' hp => ?_)
  first
    | (obtain rfl : e = [] := List.length_eq_zero_iff.1 (hb1 (by assumption))
       exact ⟨_, _, rfl, ⟨.slice none 0 0, rfl, rfl⟩, new_nil _ 3 (hp)⟩)
    | exact ⟨_, _, rfl, ⟨_, rfl, rfl⟩, (hp)⟩
 ·refine TC.skip (TQ.then (TC.seq (TC.region ?_)))
  refine TL.opX rfl (OpX.buildSlice (ps := #[]) rfl (bs_api_Part_0 )) ?_; rintro _ _ ⟨g5, rfl, rfl⟩
  refine TL.hp (fun _ h => blk_row (k := 3) (m := 0) h rfl (by decide)) (TL.opP rfl (op_move rfl) ?_)
  refine TL.opX rfl (OpX.append (bytes := 32) tsl_api_Part (by decide) (by decide) rfl hr.cons (encs_one _) (by omega) (zs := encs e) rfl) ?_; rintro v2 _ rfl
  refine TL.know (fun _ h => row1 h) (fun o2 => (TL.hp (fun _ h => row_len3 h) (TL.opP rfl (op_assign rfl) (TL.nil (TQ.then (TC.ret ?_))))))
  refine ret1 rfl rfl (fun w' hp => ?_)
  first
    | (obtain rfl : e = [] := List.length_eq_zero_iff.1 (hb1 (by assumption))
       exact ⟨_, _, rfl, ⟨.slice none 0 0, rfl, rfl⟩, new_nil _ 3 (hp)⟩)
    | exact ⟨_, _, rfl, ⟨_, rfl, rfl⟩, (hp)⟩

theorem pclone_x (m : Nat) (xs : List Value) (v : Value) (hl : m ≤ 4398046511104) (h1 : ∀ u ∈ xs, u.oneCell' = true) (hr : Rdb L v 1 m xs) :
    CallX Tryd.prog 43 [v] S w0 (L) (fun u L' => ∃ v', u = v' ∧ L' = .row v' 23 1 m xs :: L) := by
 intro w hp
 have hxl := hr.len hp
 refine calls_start Tryd.func43 rfl rfl rfl (hp) ?_
 refine TC.seq (TC.region (TL.opP rfl (op_assign rfl) (TL.nil (TQ.then (TC.seq (TC.seq (TC.region (TL.opP rfl (op_move rfl) ?_))))))))
 refine TL.opX rfl (OpX.eqNil rfl hr (eq_nil_pile _)) ?_; rintro _ _ ⟨b1, rfl, hb1, rfl⟩
 refine TL.nil (TQ.then ?_)
 first | refine TC.condD rfl (fun c1 => ?_) (fun c1 => ?_) | refine TC.condB rfl (fun c1 => ?_) (fun c1 => ?_)
 ·refine TC.seq (TC.region (TL.opP rfl (op_assign rfl) (TL.nil (TQ.then (TC.ret (TQ.then_ret ?_))))))
  refine ret1 rfl rfl (fun w' hp => ?_)
  first
    | (obtain rfl : m = 0 := hb1 (by assumption)
       obtain rfl : xs = [] := List.length_eq_zero_iff.1 (by simpa using hxl)
       exact ⟨_, _, rfl, ⟨.slice none 0 0, rfl, rfl⟩, new_nil _ 1 (hp)⟩)
    | exact ⟨_, _, rfl, ⟨_, rfl, rfl⟩, row0 (hp)⟩
 ·refine TC.skip (TQ.then (TC.seq (TC.region ?_)))
  refine TL.opX rfl (OpX.buildSlice (ps := #[]) rfl (bs_o_pile_0 )) ?_; rintro _ _ ⟨g5, rfl, rfl⟩
  refine TL.hp (fun _ h => blk_row (k := 1) (m := 0) h rfl (by decide)) (TL.opP rfl (op_move rfl) ?_)
  refine TL.opX rfl (OpX.append (bytes := 24) tsl_o_pile (by decide) (by decide) rfl hr.cons h1 (by omega) (zs := xs) rfl) ?_; rintro v2 _ rfl
  refine TL.know (fun _ h => row1 h) (fun o2 => (TL.opP rfl (op_assign rfl) (TL.nil (TQ.then (TC.ret ?_)))))
  refine ret1 rfl rfl (fun w' hp => ?_)
  first
    | (obtain rfl : m = 0 := hb1 (by assumption)
       obtain rfl : xs = [] := List.length_eq_zero_iff.1 (by simpa using hxl)
       exact ⟨_, _, rfl, ⟨.slice none 0 0, rfl, rfl⟩, new_nil _ 1 (hp)⟩)
    | exact ⟨_, _, rfl, ⟨_, rfl, rfl⟩, row0 (hp)⟩

theorem on_x (ps : List PE) (v ve : Value) (e : List Part) (hm : pileR v ps ∈ L) (he : Src L ve 3 e.length (encs e)) (hl : ps.length ≤ 1048576) :
    CallX Tryd.prog 28 [v, ve] S w0 (L) (fun u L' => ∃ v', u = v' ∧ L' = pileR v' (onP ps (ve, e)) :: L) := by
 intro w hp
 have h1 := pile_one hm hp
 have he1 := he.rdb.one hp
 refine calls_start Tryd.func28 rfl rfl rfl (hp) ?_
 refine TC.seq (TC.region (TL.opP rfl (op_assign rfl) (TL.nil (TQ.then (TC.seq (TC.region (TL.opP rfl (op_move rfl) ?_)))))))
 refine TL.opX rfl (OpX.callX en_43 rfl (pclone_x ps.length (pv ps) v (by omega) h1 (Src.pile hm).rdb)) ?_; rintro w1 _ ⟨_, rfl, rfl⟩
 refine TL.opP rfl (op_move rfl) ?_
 refine TL.opX rfl (OpX.buildSlice (ps := #[(0, _)]) rfl (bs_o_pile_1 _)) ?_; rintro _ _ ⟨g9, rfl, rfl⟩
 refine TL.hp (fun _ h => blk_row (k := 1) (m := 1) h rfl (by decide)) (TL.hp (fun _ h => h.pick1) ?_)
 refine TL.opX rfl (OpX.append (bytes := 24) tsl_o_pile (by decide) (by decide) rfl rw1 (one1' he1) (by omega) (zs := pv (ps ++ [(ve, e)])) (by simp)) ?_; rintro v2 _ rfl
 refine TL.know (fun _ h => row1 h) (fun o2 => (TL.opP rfl (op_assign rfl) (TL.nil (TQ.then (TC.seq (TC.seq (TC.region (TL.opP rfl (op_move rfl) (TL.opV rfl (op_lenV rfl un_undo_pile rfl rw0) (TL.opP rfl (op_gtr rfl rfl) (TL.nil (TQ.then ?_))))))))))))
 first | refine TC.condD rfl (fun c1 => ?_) (fun c1 => ?_) | refine TC.condB rfl (fun c1 => ?_) (fun c1 => ?_)
 ·refine TC.region (TL.opP rfl (op_move rfl) (TL.opV rfl (op_cut 1 (ps.length + 1) tsl_o_pile rfl rw0 (vlo := (some _)) (vhi := none) rfl rfl (.inr ⟨_, _, rfl, by omega⟩) (.inl ⟨rfl, rfl⟩) (by omega) (by omega)) (TL.opP rfl (op_assign rfl) (TL.nil (TQ.then (TC.seq (TC.region (TL.opP rfl (op_move rfl) (TL.opP rfl (op_assign rfl) (TL.nil (TQ.then (TC.ret ?_))))))))))))
  refine ret1 rfl rfl (fun w' hp => ?_)
  first
    | exact ⟨_, _, rfl, ⟨_, rfl, rfl⟩, on_long (hp.drop1) (by omega) (fun y hy => Src.pileE hm hy) he⟩
    | exact ⟨_, _, rfl, ⟨_, rfl, rfl⟩, on_short (hp.drop1) (by omega) (fun y hy => Src.pileE hm hy) he⟩
 ·refine TC.skip (TQ.then (TC.seq (TC.region (TL.opP rfl (op_move rfl) (TL.opP rfl (op_assign rfl) (TL.nil (TQ.then (TC.ret ?_))))))))
  refine ret1 rfl rfl (fun w' hp => ?_)
  first
    | exact ⟨_, _, rfl, ⟨_, rfl, rfl⟩, on_long (hp.drop1) (by omega) (fun y hy => Src.pileE hm hy) he⟩
    | exact ⟨_, _, rfl, ⟨_, rfl, rfl⟩, on_short (hp.drop1) (by omega) (fun y hy => Src.pileE hm hy) he⟩

theorem bes_x (ps : List PE) (v ve : Value) (e : List Part) (hm : pileR v ps ∈ L) (he : Rdb L ve 3 e.length (encs e)) (hl : ps.length ≤ 1048576) (hb : BesB (sn ps) e) (hT : tabs ∈ L) :
    CallX Tryd.prog 29 [v, ve] S w0 (L) (fun u L' => ∃ v' ps' b, u = .tuple #[v', .bool b] ∧ b = besE (sn ps) e ∧ (b = true → sn ps' = besF (sn ps) e) ∧ L' = pileR v' ps' :: L) := by
 intro w hp
 have h1 := pile_one hm hp
 refine calls_start Tryd.func29 rfl rfl rfl (hp) ?_
 refine TC.seq (TC.region (TL.opP rfl (op_assign rfl) (TL.opP rfl (op_assign rfl) (TL.nil (TQ.then (TC.seq (TC.region (TL.opP rfl (op_move rfl) ?_))))))))
 refine TL.opX rfl (OpX.callX en_43 rfl (pclone_x ps.length (pv ps) v (by omega) h1 (Src.pile hm).rdb)) ?_; rintro w1 _ ⟨_, rfl, rfl⟩
 refine TL.opP rfl (op_assign rfl) (TL.nil (TQ.then (TC.seq (TC.seq (TC.region (TL.opP rfl (op_move rfl) (TL.opV rfl (op_lenV rfl un_undo_pile rfl rw0) (TL.opP rfl (op_sub rfl rfl rfl (by omega) (by omega)) (TL.opP rfl (op_assign rfl) (TL.nil (TQ.then (TC.block (TC.hp (fun _ h => mk_col0 (bes0 h)) (TC.loop (ι := Nat × List Part × Value × List PE × List Ent) (fun (k, e', ve', news, es) => [(1, ve'), (6, w1), (7, .int .i64 ((k : Int) - 1))]) (fun (k, e', ve', news, es) => .row w1 23 1 ps.length (pv (ps.take k) ++ pv news) :: col 3 es :: L) (fun (k, e', ve', news, es) => BI ps e ve k ve' e' news es) (fun (k, e', ve', news, es) => k) ((ps.length, e, ve, [], [])) ((BI.start hb)) ⟨rfl, rfl, rfl, trivial⟩ (fun _ h => h.pick1) ?_))))))))))))))
 rintro ⟨k, e', ve', news, es⟩ (hI : BI ps e ve k ve' e' news es)
 have hkl := hI.kle
 have hnl := hI.len
 show TC _ _ _ _ [(1, ve'), (6, w1), (7, .int .i64 ((k : Int) - 1))] _ _ (.row w1 23 1 ps.length (pv (ps.take k) ++ pv news) :: col 3 es :: L)
 refine TC.seq (TC.seq (TC.region (TL.opP rfl (op_move rfl) (TL.opP rfl (op_geq rfl rfl) (TL.nil (TQ.then ?_))))))
 first | refine TC.condD rfl (fun c1 => ?_) (fun c1 => ?_) | refine TC.condB rfl (fun c1 => ?_) (fun c1 => ?_)
 ·obtain ⟨j, rfl⟩ : ∃ j, k = j + 1 := ⟨k - 1, by omega⟩
  obtain ⟨x, hx⟩ : ∃ x, ps.getD j default = x := ⟨_, rfl⟩
  obtain ⟨hsx, hse⟩ := hI.at_ hx
  have hxr := (Src.pileE hm (pile_mem (by omega) hx)).rdb
  refine TC.skip (TQ.then (TC.seq (TC.block (TC.seq (TC.region (TL.opP rfl (op_move rfl) (TL.opP rfl (op_move rfl) (TL.opV rfl (op_index tsl_o_pile rfl rw0 rfl (by omega) (by omega)) (TL.opV rfl (op_loadR ts_sl_api_Part rfl rw0 (pv_get (by omega) hx (by omega))) (TL.opP rfl (op_move rfl) ?_))))))))))
  refine TL.opX rfl (OpX.callX en_19 rfl (transform_x x.2 e' _ _ hsx.1 hse.1 hsx.2 hse.2 (.tail _ (.tail _ hT)) hxr.cons.cons (hI.me _ he.cons.cons m1))) ?_; rintro _ _ ⟨v12, v22, rfl, rfl⟩
  refine TL.know (fun _ h => row1 h) (fun op1 => ?_)
  refine TL.know (fun _ h => row1 h.pick1) (fun op2 => (TL.opP rfl (op_move rfl) (TL.opP rfl (op_extract rfl rfl) (TL.opP rfl (op_extract rfl rfl) (TL.opP rfl (op_extract rfl rfl) (TL.opP rfl (op_assign rfl) (TL.opP rfl (op_assign rfl) (TL.opP rfl (op_assign rfl) (TL.nil (TQ.then (TC.seq (TC.seq (TC.region (TL.opP rfl (op_move rfl) (TL.opP rfl (op_neq rfl rfl) (TL.nil (TQ.then ?_)))))))))))))))))
  first | refine TC.condD rfl (fun c2 => ?_) (fun c2 => ?_) | refine TC.condB rfl (fun c2 => ?_) (fun c2 => ?_)
  ·refine TC.seq (TC.region (TL.opP rfl (op_assign rfl) (TL.opP rfl (op_assign rfl) (TL.nil (TQ.then (TC.ret (TQ.then_ret (TQ.block_ret (TQ.then_ret (TQ.loop_ret (TQ.block_ret (TQ.then_ret ?_))))))))))))
   refine ret2 rfl rfl rfl (fun w' hp => ?_)
   first
     | exact ⟨_, _, rfl, ⟨.slice none 0 0, [], false, rfl, (hI.bad hx (by simpa using c2)).symm, fun h => absurd h (by decide), rfl⟩, nil_pile (hp.drop3.drop2.drop1.tail)⟩
     | exact ⟨_, _, rfl, ⟨_, news, true, rfl, hz.symm, fun _ => hf, rfl⟩, (row_pile (hp.drop3.drop2.drop1.tail) (by rw [List.take_zero]; rfl) (hI.src (.head _))).drop1⟩
  ·refine TC.skip (TQ.then (TC.region (TL.opP rfl (op_move rfl) (TL.opP rfl (op_move rfl) (TL.opP rfl (op_move rfl) (TL.opP rfl (op_move rfl) (TL.opV rfl (op_index tsl_o_pile rfl rw2 rfl (by omega) (by omega)) (TL.hp (fun _ h => h.pick2) ?_))))))))
   refine TL.opX0 (OpX.storeRow (k := 1) (fun w => by kernel_rfl) rfl rfl (cells_one op1) (ys := [v12]) rfl (by decide) (by first | exact (List.all_eq_true.1 rfl) | (intro u hu; simp only [List.mem_cons, List.not_mem_nil, or_false] at hu; rcases hu with rfl | rfl <;> assumption)) (by omega) (pv_set (y := (v12, trF1 x.2 e')) (by omega) (by omega))) ?_; rintro _ _ rfl
   refine TL.hp (fun _ h => h.pick3.pick2) (TL.hp (fun _ h => col_addR h) (TL.opP rfl (op_assign rfl) (TL.hp (fun _ h => h.pick2) (TL.hp (fun _ h => col_addR h) (TL.nil (TQ.block_normal (TQ.then (TC.region (TL.opP rfl (op_move rfl) (TL.opP rfl (op_sub rfl rfl rfl (by omega) (by omega)) (TL.opP rfl (op_assign rfl) (TL.nil ?_))))))))))))
   exact TQ.round (j, trF2 x.2 e', v22, (v12, trF1 x.2 e') :: news, (v22, (trF2 x.2 e').length, encs (trF2 x.2 e')) :: (v12, (trF1 x.2 e').length, encs (trF1 x.2 e')) :: es) (hI.step hx (by simpa using c2)) (by show j < j + 1; omega) ⟨rfl, rfl, gi rfl (by omega), trivial⟩ (fun _ h => h.pick1)
 ·obtain rfl : k = 0 := by omega
  obtain ⟨hz, hf⟩ := hI.stop
  refine TC.exit (TQ.then_exit (TQ.loop_exit (TQ.block_hit (TQ.then (TC.seq (TC.region (TL.opP rfl (op_move rfl) (TL.opP rfl (op_assign rfl) (TL.opP rfl (op_assign rfl) (TL.nil (TQ.then (TC.ret ?_))))))))))))
  refine ret2 rfl rfl rfl (fun w' hp => ?_)
  first
    | exact ⟨_, _, rfl, ⟨.slice none 0 0, [], false, rfl, (hI.bad hx (by simpa using c2)).symm, fun h => absurd h (by decide), rfl⟩, nil_pile (hp)⟩
    | exact ⟨_, _, rfl, ⟨_, news, true, rfl, hz.symm, fun _ => hf, rfl⟩, (row_pile (hp) (by rw [List.take_zero]; rfl) (hI.src (.head _))).drop1⟩

theorem hmine_x (e : List Part) (s : ByteArray) (v : Value) (bv av : Value) (n : Int) (pb pa : List PE) (g : Nat) (hs : Sm e) (hss : s.size ≤ 70368744177664) (hbl : pb.length ≤ 50) (hT : tabs ∈ F) (he : Rdb F v 3 e.length (encs e)) :
    CallX Tryd.prog 12 [.pointer (some ⟨g, 0, none⟩), v, .string s] S w0 (.blk g (.cells [bv, av, .int .i64 n, .bool true].toArray 66 (0, 0)) :: pileR bv pb :: pileR av pa :: F) (fun u L' => ∃ bv' av' n' pb' pa', u = .int .i64 ((hsOf pb pa n).mineE e s) ∧ hsOf pb' pa' n' = (hsOf pb pa n).mine e s ∧ L' = .blk g (.cells [bv', av', .int .i64 n', .bool true].toArray 66 (0, 0)) :: pileR bv' pb' :: pileR av' pa' :: F) := by
 intro w hp
 refine calls_start Tryd.func12 rfl rfl rfl (hp) ?_
 refine TC.seq (TC.region (TL.opP rfl (op_assign rfl) (TL.nil (TQ.then (TC.seq (TC.seq (TC.region (TL.opP rfl (op_move rfl) ?_))))))))
 refine TL.opX rfl (OpX.callX en_26 rfl (dead_x _ _ _ true _)) ?_; rintro _ _ ⟨rfl, rfl⟩
 refine TL.nil (TQ.then ?_)
 first | refine TC.condD rfl (fun c1 => ?_) (fun c1 => ?_) | refine TC.condB rfl (fun c1 => ?_) (fun c1 => ?_)
 ·exact absurd c1 (by decide)
 ·refine TC.skip (TQ.then (TC.seq (TC.region (TL.opP rfl (op_move rfl) (TL.opP rfl (op_move rfl) ?_)))))
  refine TL.opX rfl (OpX.callX en_27 rfl (hfits_x e v _ _ _ _ hs.1 (.tail _ (.tail _ hT)) he.cons.cons)) ?_; rintro _ _ ⟨rfl, rfl⟩
  refine TL.opP rfl (op_move rfl) (TL.opP rfl (op_extract rfl rfl) (TL.opP rfl (op_extract rfl rfl) (TL.opP rfl (op_assign rfl) (TL.opP rfl (op_assign rfl) (TL.nil (TQ.then (TC.seq (TC.seq (TC.region (TL.opP rfl (op_move rfl) (TL.opP rfl (op_neq rfl rfl) (TL.nil (TQ.then ?_)))))))))))))
  first | refine TC.condD rfl (fun c2 => ?_) (fun c2 => ?_) | refine TC.condB rfl (fun c2 => ?_) (fun c2 => ?_)
  ·refine TC.seq (TC.region (TL.opP rfl (op_move rfl) (TL.opP rfl (op_assign rfl) (TL.nil (TQ.then (TC.ret (TQ.then_ret ?_)))))))
   refine ret1 rfl rfl (fun w' hp => ?_)
   first
     | exact ⟨_, _, rfl, ⟨_, _, _, _, _, congrArg (Value.int .i64) (mine_no c2).1, (mine_no c2).2, rfl⟩, (hp)⟩
     | exact ⟨_, _, rfl, ⟨_, _, _, _, _, congrArg (Value.int .i64) (mine_bad (pa := pa) (pb := pb) c2 c3).1, (mine_bad c2 c3).2, rfl⟩, (hp)⟩
     | exact ⟨_, _, rfl, ⟨_, _, _, _, _, congrArg (Value.int .i64) (mine_ok (pa := pa) (vi := «w?») c2 c3 hbl).1, (mine_ok c2 c3 hbl).2, rfl⟩, (hp)⟩
  ·refine TC.skip (TQ.then (TC.seq (TC.region (TL.opP rfl (op_move rfl) (TL.opP rfl (op_move rfl) ?_)))))
   refine TL.opX rfl (OpX.callX en_18 rfl (invert_x e s v hss hs.1 hs.2 (.tail _ (.tail _ (.tail _ hT))) he.cons.cons.cons)) ?_; rintro _ _ ⟨w3, rfl, rfl⟩
   refine TL.hp (fun _ h => row_rd h) (TL.opP rfl (op_move rfl) (TL.opP rfl (op_extract rfl rfl) (TL.opP rfl (op_extract rfl rfl) (TL.opP rfl (op_assign rfl) (TL.opP rfl (op_assign rfl) (TL.nil (TQ.then (TC.seq (TC.seq (TC.region (TL.opP rfl (op_move rfl) (TL.opP rfl (op_neq rfl rfl) (TL.nil (TQ.then ?_))))))))))))))
   first | refine TC.condD rfl (fun c3 => ?_) (fun c3 => ?_) | refine TC.condB rfl (fun c3 => ?_) (fun c3 => ?_)
   ·refine TC.seq (TC.region (TL.opP rfl (op_move rfl) (TL.opP rfl (op_assign rfl) (TL.nil (TQ.then (TC.ret (TQ.then_ret ?_)))))))
    refine ret1 rfl rfl (fun w' hp => ?_)
    first
      | exact ⟨_, _, rfl, ⟨_, _, _, _, _, congrArg (Value.int .i64) (mine_no c2).1, (mine_no c2).2, rfl⟩, (hp.tail)⟩
      | exact ⟨_, _, rfl, ⟨_, _, _, _, _, congrArg (Value.int .i64) (mine_bad (pa := pa) (pb := pb) c2 c3).1, (mine_bad c2 c3).2, rfl⟩, (hp.tail)⟩
      | exact ⟨_, _, rfl, ⟨_, _, _, _, _, congrArg (Value.int .i64) (mine_ok (pa := pa) (vi := w3) c2 c3 hbl).1, (mine_ok c2 c3 hbl).2, rfl⟩, (hp.tail)⟩
   ·refine TC.skip (TQ.then (TC.seq (TC.region (TL.opP rfl (op_move rfl) (TL.opP rfl (op_move rfl) (TL.opP rfl (op_move rfl) (TL.opP rfl (op_move rfl) (TL.opP rfl (op_nilCheck rfl) (TL.opP rfl (op_field fld_undo_History_back rfl) (TL.opV rfl (op_load ts_undo_pile rfl m1 rfl) (TL.opP rfl (op_move rfl) ?_)))))))))))
    refine TL.opX rfl (OpX.callX en_28 rfl (on_x pb _ _ (invF e s) m2 (Src.rd m0) (by omega))) ?_; rintro b4 _ ⟨_, rfl, rfl⟩
    refine TL.know (fun _ h => (Src.pile (.head _)).rdb.one h) (fun ob => (TL.opP rfl (op_move rfl) (TL.opP rfl (op_nilCheck rfl) (TL.opP rfl (op_field fld_undo_History_back rfl) (TL.hp (fun _ h => h.pick2) ?_)))))
    refine TL.opX0 (OpX.store1 ts_undo_pile rfl rfl (by first | rfl | assumption) rfl rfl) ?_; rintro _ _ rfl
    refine TL.opP rfl (op_nilCheck rfl) (TL.opP rfl (op_field fld_undo_History_again rfl) ?_)
    refine TL.opX0 (OpX.store1 ts_undo_pile rfl rfl (by first | rfl | assumption) rfl rfl) ?_; rintro _ _ rfl
    refine TL.opP rfl (op_nilCheck rfl) (TL.opP rfl (op_field fld_undo_History_n rfl) ?_)
    refine TL.opX0 (OpX.store1 ts_int rfl rfl (by first | rfl | assumption) rfl rfl) ?_; rintro _ _ rfl
    refine TL.hp (fun _ h => nil_pile h) (TL.nil (TQ.then (TC.seq (TC.region (TL.opP rfl (op_assign rfl) (TL.nil (TQ.then (TC.ret ?_))))))))
    refine ret1 rfl rfl (fun w' hp => ?_)
    first
      | exact ⟨_, _, rfl, ⟨_, _, _, _, _, congrArg (Value.int .i64) (mine_no c2).1, (mine_no c2).2, rfl⟩, (hp.drop5.drop4.drop3.pick2.pick2)⟩
      | exact ⟨_, _, rfl, ⟨_, _, _, _, _, congrArg (Value.int .i64) (mine_bad (pa := pa) (pb := pb) c2 c3).1, (mine_bad c2 c3).2, rfl⟩, (hp.drop5.drop4.drop3.pick2.pick2)⟩
      | exact ⟨_, _, rfl, ⟨_, _, _, _, _, congrArg (Value.int .i64) (mine_ok (pa := pa) (vi := w3) c2 c3 hbl).1, (mine_ok c2 c3 hbl).2, rfl⟩, (hp.drop5.drop4.drop3.pick2.pick2)⟩

theorem htheirs_x (e : List Part) (v : Value) (bv av : Value) (n : Int) (pb pa : List PE) (g : Nat) (hs : Sm e) (hbl : pb.length ≤ 50) (hal : pa.length ≤ 50) (hpb : ¬ fitE e n ≠ 0 → BesB (sn pb) e) (hpa : ¬ fitE e n ≠ 0 → BesB (sn pa) e) (hT : tabs ∈ F) (he : Rdb F v 3 e.length (encs e)) :
    CallX Tryd.prog 13 [.pointer (some ⟨g, 0, none⟩), v] S w0 (.blk g (.cells [bv, av, .int .i64 n, .bool true].toArray 66 (0, 0)) :: pileR bv pb :: pileR av pa :: F) (fun u L' => ∃ bv' av' n' pb' pa', u = .int .i64 ((hsOf pb pa n).theirsE e) ∧ hsOf pb' pa' n' = (hsOf pb pa n).theirs e ∧ L' = .blk g (.cells [bv', av', .int .i64 n', .bool true].toArray 66 (0, 0)) :: pileR bv' pb' :: pileR av' pa' :: F) := by
 intro w hp
 refine calls_start Tryd.func13 rfl rfl rfl (hp) ?_
 refine TC.seq (TC.region (TL.opP rfl (op_assign rfl) (TL.nil (TQ.then (TC.seq (TC.seq (TC.region (TL.opP rfl (op_move rfl) ?_))))))))
 refine TL.opX rfl (OpX.callX en_26 rfl (dead_x _ _ _ true _)) ?_; rintro _ _ ⟨rfl, rfl⟩
 refine TL.nil (TQ.then ?_)
 first | refine TC.condD rfl (fun c1 => ?_) (fun c1 => ?_) | refine TC.condB rfl (fun c1 => ?_) (fun c1 => ?_)
 ·exact absurd c1 (by decide)
 ·refine TC.skip (TQ.then (TC.seq (TC.region (TL.opP rfl (op_move rfl) (TL.opP rfl (op_move rfl) ?_)))))
  refine TL.opX rfl (OpX.callX en_27 rfl (hfits_x e v _ _ _ _ hs.1 (.tail _ (.tail _ hT)) he.cons.cons)) ?_; rintro _ _ ⟨rfl, rfl⟩
  refine TL.opP rfl (op_move rfl) (TL.opP rfl (op_extract rfl rfl) (TL.opP rfl (op_extract rfl rfl) (TL.opP rfl (op_assign rfl) (TL.opP rfl (op_assign rfl) (TL.nil (TQ.then (TC.seq (TC.seq (TC.region (TL.opP rfl (op_move rfl) (TL.opP rfl (op_neq rfl rfl) (TL.nil (TQ.then ?_)))))))))))))
  first | refine TC.condD rfl (fun c2 => ?_) (fun c2 => ?_) | refine TC.condB rfl (fun c2 => ?_) (fun c2 => ?_)
  ·refine TC.seq (TC.region (TL.opP rfl (op_move rfl) (TL.opP rfl (op_assign rfl) (TL.nil (TQ.then (TC.ret (TQ.then_ret ?_)))))))
   refine ret1 rfl rfl (fun w' hp => ?_)
   first
     | exact ⟨_, _, rfl, ⟨_, _, _, _, _, congrArg (Value.int .i64) (theirs_no c2).1, (theirs_no c2).2, rfl⟩, (hp)⟩
     | (have hbb : ¬ (besE (sn pb) e = true ∧ besE (sn pa) e = true) := by (rw [← «hz1?», ← «hz2?»]; rintro ⟨a1, a2⟩; simp_all)
        exact ⟨_, _, rfl, ⟨_, _, _, _, _, congrArg (Value.int .i64) (theirs_bad (pa := pa) (pb := pb) c2 hbb).1, (theirs_bad c2 hbb).2, rfl⟩, (hp)⟩)
     | (have h1 : «bo1?» = true := by simpa using c3
        have h2 : «bo2?» = true := by simpa using c4
        have ht := theirs_ok (pb := pb) (pa := pa) c2 ⟨by rw [← «hz1?»]; exact h1, by rw [← «hz2?»]; exact h2⟩ («hf1?» h1) («hf2?» h2)
        exact ⟨_, _, rfl, ⟨_, _, _, _, _, congrArg (Value.int .i64) ht.1, ht.2, rfl⟩, (hp)⟩)
  ·refine TC.skip (TQ.then (TC.seq (TC.region (TL.opP rfl (op_move rfl) (TL.opP rfl (op_nilCheck rfl) (TL.opP rfl (op_field fld_undo_History_back rfl) (TL.opV rfl (op_load ts_undo_pile rfl m0 rfl) (TL.opP rfl (op_move rfl) ?_))))))))
   refine TL.opX rfl (OpX.callX en_29 rfl (bes_x pb _ _ e m1 (he.cons.cons.cons) (by omega) (hpb c2) (.tail _ (.tail _ (.tail _ hT))))) ?_; rintro _ _ ⟨q13, ps13, bo13, rfl, hz13, hf13, rfl⟩
   refine TL.know (fun _ h => (Src.pile (.head _)).rdb.one h) (fun ob1 => (TL.opP rfl (op_move rfl) (TL.opP rfl (op_extract rfl rfl) (TL.opP rfl (op_extract rfl rfl) (TL.opP rfl (op_assign rfl) (TL.opP rfl (op_assign rfl) (TL.nil (TQ.then (TC.seq (TC.region (TL.opP rfl (op_move rfl) (TL.opP rfl (op_nilCheck rfl) (TL.opP rfl (op_field fld_undo_History_again rfl) (TL.opV rfl (op_load ts_undo_pile rfl m1 rfl) (TL.opP rfl (op_move rfl) ?_)))))))))))))))
   refine TL.opX rfl (OpX.callX en_29 rfl (bes_x pa _ _ e m3 (he.cons.cons.cons.cons) (by omega) (hpa c2) (.tail _ (.tail _ (.tail _ (.tail _ hT)))))) ?_; rintro _ _ ⟨q24, ps24, bo24, rfl, hz24, hf24, rfl⟩
   refine TL.know (fun _ h => (Src.pile (.head _)).rdb.one h) (fun ob2 => (TL.opP rfl (op_move rfl) (TL.opP rfl (op_extract rfl rfl) (TL.opP rfl (op_extract rfl rfl) (TL.opP rfl (op_assign rfl) (TL.opP rfl (op_assign rfl) (TL.nil (TQ.then (TC.seq (TC.seq (TC.region (TL.opP rfl (op_move rfl) (TL.opP rfl (op_not rfl rfl) (TL.opP rfl (op_move rfl) ?_))))))))))))))
   first | refine TL.splitD (fun c3 => ?_) (fun c3 => ?_) | refine TL.splitB (fun c3 => ?_) (fun c3 => ?_)
   ·refine TL.gFt rfl rfl rfl (TL.gFt rfl rfl rfl (TL.opP rfl (op_pickT rfl rfl) (TL.nil (TQ.then (TC.condT rfl (TC.seq (TC.region (TL.opP rfl (op_assign rfl) (TL.nil (TQ.then (TC.ret (TQ.then_ret ?_))))))))))))
    refine ret1 rfl rfl (fun w' hp => ?_)
    first
      | exact ⟨_, _, rfl, ⟨_, _, _, _, _, congrArg (Value.int .i64) (theirs_no c2).1, (theirs_no c2).2, rfl⟩, (hp.drop1.tail)⟩
      | (have hbb : ¬ (besE (sn pb) e = true ∧ besE (sn pa) e = true) := by (rw [← hz13, ← hz24]; rintro ⟨a1, a2⟩; simp_all)
         exact ⟨_, _, rfl, ⟨_, _, _, _, _, congrArg (Value.int .i64) (theirs_bad (pa := pa) (pb := pb) c2 hbb).1, (theirs_bad c2 hbb).2, rfl⟩, (hp.drop1.tail)⟩)
      | (have h1 : bo13 = true := by simpa using c3
         have h2 : bo24 = true := by simpa using c4
         have ht := theirs_ok (pb := pb) (pa := pa) c2 ⟨by rw [← hz13]; exact h1, by rw [← hz24]; exact h2⟩ (hf13 h1) (hf24 h2)
         exact ⟨_, _, rfl, ⟨_, _, _, _, _, congrArg (Value.int .i64) ht.1, ht.2, rfl⟩, (hp.drop1.tail)⟩)
   ·refine TL.gT rfl rfl (TL.opP rfl (op_move rfl) (TL.gT rfl rfl (TL.opP rfl (op_not rfl rfl) (TL.opP rfl (op_pickF rfl rfl) (TL.nil (TQ.then ?_))))))
    first | refine TC.condD rfl (fun c4 => ?_) (fun c4 => ?_) | refine TC.condB rfl (fun c4 => ?_) (fun c4 => ?_)
    ·refine TC.seq (TC.region (TL.opP rfl (op_assign rfl) (TL.nil (TQ.then (TC.ret (TQ.then_ret ?_))))))
     refine ret1 rfl rfl (fun w' hp => ?_)
     first
       | exact ⟨_, _, rfl, ⟨_, _, _, _, _, congrArg (Value.int .i64) (theirs_no c2).1, (theirs_no c2).2, rfl⟩, (hp.drop1.tail)⟩
       | (have hbb : ¬ (besE (sn pb) e = true ∧ besE (sn pa) e = true) := by (rw [← hz13, ← hz24]; rintro ⟨a1, a2⟩; simp_all)
          exact ⟨_, _, rfl, ⟨_, _, _, _, _, congrArg (Value.int .i64) (theirs_bad (pa := pa) (pb := pb) c2 hbb).1, (theirs_bad c2 hbb).2, rfl⟩, (hp.drop1.tail)⟩)
       | (have h1 : bo13 = true := by simpa using c3
          have h2 : bo24 = true := by simpa using c4
          have ht := theirs_ok (pb := pb) (pa := pa) c2 ⟨by rw [← hz13]; exact h1, by rw [← hz24]; exact h2⟩ (hf13 h1) (hf24 h2)
          exact ⟨_, _, rfl, ⟨_, _, _, _, _, congrArg (Value.int .i64) ht.1, ht.2, rfl⟩, (hp.drop1.tail)⟩)
    ·refine TC.skip (TQ.then (TC.seq (TC.region (TL.opP rfl (op_move rfl) (TL.opP rfl (op_move rfl) (TL.opP rfl (op_move rfl) (TL.opP rfl (op_move rfl) (TL.opP rfl (op_move rfl) (TL.opP rfl (op_move rfl) (TL.opP rfl (op_nilCheck rfl) (TL.opP rfl (op_field fld_undo_History_back rfl) (TL.hp (fun _ h => h.pick2) ?_))))))))))))
     refine TL.opX0 (OpX.store1 ts_undo_pile rfl rfl (by first | rfl | assumption) rfl rfl) ?_; rintro _ _ rfl
     refine TL.opP rfl (op_nilCheck rfl) (TL.opP rfl (op_field fld_undo_History_again rfl) ?_)
     refine TL.opX0 (OpX.store1 ts_undo_pile rfl rfl (by first | rfl | assumption) rfl rfl) ?_; rintro _ _ rfl
     refine TL.opP rfl (op_nilCheck rfl) (TL.opP rfl (op_field fld_undo_History_n rfl) ?_)
     refine TL.opX0 (OpX.store1 ts_int rfl rfl (by first | rfl | assumption) rfl rfl) ?_; rintro _ _ rfl
     refine TL.nil (TQ.then (TC.seq (TC.region (TL.opP rfl (op_assign rfl) (TL.nil (TQ.then (TC.ret ?_)))))))
     refine ret1 rfl rfl (fun w' hp => ?_)
     first
       | exact ⟨_, _, rfl, ⟨_, _, _, _, _, congrArg (Value.int .i64) (theirs_no c2).1, (theirs_no c2).2, rfl⟩, (hp.drop4.drop3.pick1.pick2.pick2)⟩
       | (have hbb : ¬ (besE (sn pb) e = true ∧ besE (sn pa) e = true) := by (rw [← hz13, ← hz24]; rintro ⟨a1, a2⟩; simp_all)
          exact ⟨_, _, rfl, ⟨_, _, _, _, _, congrArg (Value.int .i64) (theirs_bad (pa := pa) (pb := pb) c2 hbb).1, (theirs_bad c2 hbb).2, rfl⟩, (hp.drop4.drop3.pick1.pick2.pick2)⟩)
       | (have h1 : bo13 = true := by simpa using c3
          have h2 : bo24 = true := by simpa using c4
          have ht := theirs_ok (pb := pb) (pa := pa) c2 ⟨by rw [← hz13]; exact h1, by rw [← hz24]; exact h2⟩ (hf13 h1) (hf24 h2)
          exact ⟨_, _, rfl, ⟨_, _, _, _, _, congrArg (Value.int .i64) ht.1, ht.2, rfl⟩, (hp.drop4.drop3.pick1.pick2.pick2)⟩)

theorem hmove_x (fv tv : Value) (pf pt : List PE) (s : ByteArray) (bv av : Value) (n : Int) (g : Nat) (hf : pileR fv pf ∈ F) (ht : pileR tv pt ∈ F) (hsm : ∀ x ∈ pf, Sm x.2) (hss : s.size ≤ 70368744177664) (hfl : pf.length ≤ 50) (htl : pt.length ≤ 50) (hT : tabs ∈ F) :
    CallX Tryd.prog 30 [.pointer (some ⟨g, 0, none⟩), fv, tv, .string s] S w0 (.blk g (.cells [bv, av, .int .i64 n, .bool true].toArray 66 (0, 0)) :: F) (fun u L' => ∃ a b ve pa' pb' n', u = .tuple #[a, b, ve, .int .i64 (moveE (sn pf) n s)] ∧ (¬ moveE (sn pf) n s = 0 → n' = n) ∧ (moveE (sn pf) n s = 0 → sn pa' = (sn pf).tail ∧ sn pb' = onH (sn pt) (invF ((sn pf).headD []) s) ∧ n' = (sizeF ((sn pf).headD [])).2) ∧ L' = pileR a pa' :: pileR b pb' :: .row ve 50 3 (moveF (sn pf) n s).length (encs (moveF (sn pf) n s)) :: .blk g (.cells [bv, av, .int .i64 n', .bool true].toArray 66 (0, 0)) :: F) := by
 intro w hp
 have h1 := pile_one (.tail _ hf) hp
 refine calls_start Tryd.func30 rfl rfl rfl (hp) ?_
 refine TC.seq (TC.region (TL.opP rfl (op_assign rfl) (TL.opP rfl (op_assign rfl) (TL.opP rfl (op_assign rfl) (TL.opP rfl (op_assign rfl) (TL.nil (TQ.then (TC.seq (TC.block (TC.seq (TC.region (TL.opP rfl (op_move rfl) ?_))))))))))))
 refine TL.opX rfl (OpX.callX en_26 rfl (dead_x _ _ _ true _)) ?_; rintro _ _ ⟨rfl, rfl⟩
 refine TL.opP rfl (op_assign rfl) (TL.nil (TQ.then ?_))
 first | refine TC.condD rfl (fun c1 => ?_) (fun c1 => ?_) | refine TC.condB rfl (fun c1 => ?_) (fun c1 => ?_)
 ·exact absurd c1 (by decide)
 ·refine TC.seq (TC.region (TL.opP rfl (op_move rfl) (TL.opV rfl (op_lenV rfl un_undo_pile rfl (Src.pile hf).rdb.cons) (TL.opP rfl (op_eql rfl rfl) (TL.opP rfl (op_assign rfl) (TL.nil (TQ.then ?_)))))))
  first | refine TC.condD rfl (fun c2 => ?_) (fun c2 => ?_) | refine TC.condB rfl (fun c2 => ?_) (fun c2 => ?_)
  ·refine TC.seq (TC.region (TL.opP rfl (op_assign rfl) (TL.opP rfl (op_assign rfl) (TL.opP rfl (op_assign rfl) (TL.opP rfl (op_assign rfl) (TL.nil (TQ.then (TC.ret (TQ.block_ret (TQ.then_ret ?_))))))))))
   refine ret4 rfl rfl rfl rfl rfl (fun w' hp => ?_)
   first
     | (obtain rfl : pf = [] := List.length_eq_zero_iff.1 (by omega)
        exact ⟨_, _, rfl, ⟨.slice none 0 0, .slice none 0 0, .slice none 0 0, [], [], n, rfl, fun _ => rfl, fun h => absurd h (by rw [move_none.1]; decide), by rw [move_none.2]; rfl⟩, nil_pile (nil_pile (new_nil _ 3 (hp)))⟩)
     | (have hbd : valid s = false ∨ (rcount s : Int) ≠ n := by first | (left; simpa using c3) | (right; exact c4)
        have hj : pf.length = (pf.length - 1) + 1 := by omega
        have hmv := move_bad (n := n) (s := s) hj hbd
        exact ⟨_, _, rfl, ⟨.slice none 0 0, .slice none 0 0, .slice none 0 0, [], [], n, by (rw [hmv.1]; first | done | rfl), fun _ => rfl, fun h => absurd h (by rw [hmv.1]; decide), by rw [hmv.2]; rfl⟩, nil_pile (nil_pile (new_nil _ 3 (hp)))⟩)
     | (have hmv := move_nz (n := n) (s := s) hj hx hgd c5
        exact ⟨_, _, rfl, ⟨.slice none 0 0, .slice none 0 0, .slice none 0 0, [], [], n, by (rw [hmv.1]; first | done | rfl), fun _ => rfl, fun h => absurd (hmv.1.symm.trans h) c5, by rw [hmv.2]; rfl⟩, nil_pile (nil_pile (new_nil _ 3 (hp)))⟩)
     | (have hmv := move_ok (n := n) (s := s) hj hx hgd c5
        have hq := (hp)
        have hq2 := row_pile (ps := pf.take j) hq cut_pile (fun y hy => (Src.pileE hf (List.mem_of_mem_take hy)).cons.cons.cons)
        exact ⟨_, _, rfl, ⟨_, _, _, pf.take j, onP pt (_, invF x.2 s), (sizeF x.2).2, by (rw [hmv.1]; first | done | rfl), fun h => absurd hmv.1 h, fun _ => ⟨hmv.2.2.1.symm, by (rw [sn_onP htl, hmv.2.2.2]; first | done | rfl), by (rw [hmv.2.2.2]; first | done | rfl)⟩, by (rw [hmv.2.1]; first | done | rfl)⟩, hq2⟩)
  ·obtain ⟨j, hj⟩ : ∃ j, pf.length = j + 1 := ⟨pf.length - 1, by omega⟩
   obtain ⟨x, hx⟩ : ∃ x, pf.getD j default = x := ⟨_, rfl⟩
   have hxm := pile_mem (by omega) hx
   have hsx := hsm x hxm
   have hxr := (Src.pileE hf hxm).rdb
   refine TC.seq (TC.draw [] (.cons (.p, 0) (.cons (.t, 1) (.cons (.p, 2) (.cons (.p, 3) (.cons (.p, 4) (.cons (.p, 6) (.cons (.p, 7) (.cons (.p, 8) (.cons (.t, 5) (.cons (.t, 9) (.cons (.p, 10) (.cons (.p, 11) (.cons (.p, 12) (.nil)))))))))))))) mo (by kernel_rfl) (TR.p rfl rfl wt0 (op_move rfl) (TR.tcall rfl rfl wt0 en_8 rfl (fun w2 hp => valid_calls s w2 (tabs_at hp (.tail _ hT)) (by omega)) (fun _ h => h) (TR.p rfl rfl wt0 (op_not rfl rfl) (TR.p rfl rfl wt0 (op_move rfl) ?_)))))
   first | refine TR.splitD (fun c3 => ?_) (fun c3 => ?_) | refine TR.splitB (fun c3 => ?_) (fun c3 => ?_)
   ·refine TR.off rfl rfl (by exact wtFt rfl rfl) (TR.off rfl rfl (by exact wtFt rfl rfl) (TR.off rfl rfl (by exact wtFt rfl rfl) (TR.off rfl rfl (by exact wtFt rfl rfl) (TR.offT rfl rfl (by exact wtFt rfl rfl) (fun _ h => h) (TR.offT rfl rfl (by exact wtFt rfl rfl) (fun _ h => h) (TR.off rfl rfl (by exact wtFt rfl rfl) (TR.p rfl rfl wt0 (op_pickT rfl rfl) (TR.p rfl rfl wt0 (op_assign rfl) (TR.nil (TQ.then (TC.condT rfl (TC.seq (TC.region (TL.opP rfl (op_assign rfl) (TL.opP rfl (op_assign rfl) (TL.opP rfl (op_assign rfl) (TL.opP rfl (op_assign rfl) (TL.nil (TQ.then (TC.ret (TQ.block_ret (TQ.then_ret ?_))))))))))))))))))))))
    refine ret4 rfl rfl rfl rfl rfl (fun w' hp => ?_)
    first
      | (obtain rfl : pf = [] := List.length_eq_zero_iff.1 (by omega)
         exact ⟨_, _, rfl, ⟨.slice none 0 0, .slice none 0 0, .slice none 0 0, [], [], n, rfl, fun _ => rfl, fun h => absurd h (by rw [move_none.1]; decide), by rw [move_none.2]; rfl⟩, nil_pile (nil_pile (new_nil _ 3 (hp)))⟩)
      | (have hbd : valid s = false ∨ (rcount s : Int) ≠ n := by first | (left; simpa using c3) | (right; exact c4)
         have hj : pf.length = (pf.length - 1) + 1 := by omega
         have hmv := move_bad (n := n) (s := s) hj hbd
         exact ⟨_, _, rfl, ⟨.slice none 0 0, .slice none 0 0, .slice none 0 0, [], [], n, by (rw [hmv.1]; first | done | rfl), fun _ => rfl, fun h => absurd h (by rw [hmv.1]; decide), by rw [hmv.2]; rfl⟩, nil_pile (nil_pile (new_nil _ 3 (hp)))⟩)
      | (have hmv := move_nz (n := n) (s := s) hj hx hgd c5
         exact ⟨_, _, rfl, ⟨.slice none 0 0, .slice none 0 0, .slice none 0 0, [], [], n, by (rw [hmv.1]; first | done | rfl), fun _ => rfl, fun h => absurd (hmv.1.symm.trans h) c5, by rw [hmv.2]; rfl⟩, nil_pile (nil_pile (new_nil _ 3 (hp)))⟩)
      | (have hmv := move_ok (n := n) (s := s) hj hx hgd c5
         have hq := (hp)
         have hq2 := row_pile (ps := pf.take j) hq cut_pile (fun y hy => (Src.pileE hf (List.mem_of_mem_take hy)).cons.cons.cons)
         exact ⟨_, _, rfl, ⟨_, _, _, pf.take j, onP pt (_, invF x.2 s), (sizeF x.2).2, by (rw [hmv.1]; first | done | rfl), fun h => absurd hmv.1 h, fun _ => ⟨hmv.2.2.1.symm, by (rw [sn_onP htl, hmv.2.2.2]; first | done | rfl), by (rw [hmv.2.2.2]; first | done | rfl)⟩, by (rw [hmv.2.1]; first | done | rfl)⟩, hq2⟩)
   ·refine TR.p rfl rfl (by exact wtT rfl rfl) (op_move rfl) (TR.p rfl rfl (by exact wtT rfl rfl) (op_move rfl) (TR.p rfl rfl (by exact wtT rfl rfl) (op_nilCheck rfl) (TR.p rfl rfl (by exact wtT rfl rfl) (op_field fld_undo_History_n rfl) (TR.tcall rfl rfl (by exact wtT rfl rfl) en_21 rfl (fun w2 hp => rcount_calls s w2 (by omega)) (fun _ h => h) (TR.t rfl rfl (by exact wtT rfl rfl) (op_load ts_int rfl m0 rfl) (fun _ h => h) (TR.p rfl rfl (by exact wtT rfl rfl) (op_neq rfl rfl) (TR.p rfl rfl wt0 (op_pickF rfl rfl) (TR.p rfl rfl wt0 (op_assign rfl) (TR.nil (TQ.then ?_))))))))))
    first | refine TC.condD rfl (fun c4 => ?_) (fun c4 => ?_) | refine TC.condB rfl (fun c4 => ?_) (fun c4 => ?_)
    ·refine TC.seq (TC.region (TL.opP rfl (op_assign rfl) (TL.opP rfl (op_assign rfl) (TL.opP rfl (op_assign rfl) (TL.opP rfl (op_assign rfl) (TL.nil (TQ.then (TC.ret (TQ.block_ret (TQ.then_ret ?_))))))))))
     refine ret4 rfl rfl rfl rfl rfl (fun w' hp => ?_)
     first
       | (obtain rfl : pf = [] := List.length_eq_zero_iff.1 (by omega)
          exact ⟨_, _, rfl, ⟨.slice none 0 0, .slice none 0 0, .slice none 0 0, [], [], n, rfl, fun _ => rfl, fun h => absurd h (by rw [move_none.1]; decide), by rw [move_none.2]; rfl⟩, nil_pile (nil_pile (new_nil _ 3 (hp)))⟩)
       | (have hbd : valid s = false ∨ (rcount s : Int) ≠ n := by first | (left; simpa using c3) | (right; exact c4)
          have hj : pf.length = (pf.length - 1) + 1 := by omega
          have hmv := move_bad (n := n) (s := s) hj hbd
          exact ⟨_, _, rfl, ⟨.slice none 0 0, .slice none 0 0, .slice none 0 0, [], [], n, by (rw [hmv.1]; first | done | rfl), fun _ => rfl, fun h => absurd h (by rw [hmv.1]; decide), by rw [hmv.2]; rfl⟩, nil_pile (nil_pile (new_nil _ 3 (hp)))⟩)
       | (have hmv := move_nz (n := n) (s := s) hj hx hgd c5
          exact ⟨_, _, rfl, ⟨.slice none 0 0, .slice none 0 0, .slice none 0 0, [], [], n, by (rw [hmv.1]; first | done | rfl), fun _ => rfl, fun h => absurd (hmv.1.symm.trans h) c5, by rw [hmv.2]; rfl⟩, nil_pile (nil_pile (new_nil _ 3 (hp)))⟩)
       | (have hmv := move_ok (n := n) (s := s) hj hx hgd c5
          have hq := (hp)
          have hq2 := row_pile (ps := pf.take j) hq cut_pile (fun y hy => (Src.pileE hf (List.mem_of_mem_take hy)).cons.cons.cons)
          exact ⟨_, _, rfl, ⟨_, _, _, pf.take j, onP pt (_, invF x.2 s), (sizeF x.2).2, by (rw [hmv.1]; first | done | rfl), fun h => absurd hmv.1 h, fun _ => ⟨hmv.2.2.1.symm, by (rw [sn_onP htl, hmv.2.2.2]; first | done | rfl), by (rw [hmv.2.2.2]; first | done | rfl)⟩, by (rw [hmv.2.1]; first | done | rfl)⟩, hq2⟩)
    ·have hgd : ¬ (valid s = false ∨ (rcount s : Int) ≠ n) := by rintro (a | a) <;> simp_all
     refine TC.skip (TQ.block_normal (TQ.then (TC.seq (TC.region (TL.opP rfl (op_move rfl) (TL.opP rfl (op_move rfl) (TL.opV rfl (op_lenV rfl un_undo_pile rfl (Src.pile hf).rdb.cons) (TL.opP rfl (op_sub rfl rfl rfl (by omega) (by omega)) (TL.opV rfl (op_index tsl_o_pile rfl (Src.pile hf).rdb.cons rfl (by omega) (by omega)) (TL.opV rfl (op_loadR ts_sl_api_Part rfl (Src.pile hf).rdb.cons (lkM (f := Prod.fst) (by omega) hx (by omega))) (TL.opP rfl (op_assign rfl) (TL.nil (TQ.then (TC.seq (TC.region (TL.opP rfl (op_move rfl) (TL.opP rfl (op_move rfl) ?_)))))))))))))))))
     refine TL.opX rfl (OpX.callX en_18 rfl (invert_x x.2 s x.1 hss hsx.1 hsx.2 (.tail _ hT) hxr.cons)) ?_; rintro _ _ ⟨w2, rfl, rfl⟩
     refine TL.opP rfl (op_move rfl) (TL.hp (fun _ h => row_rd h) (TL.opP rfl (op_extract rfl rfl) (TL.opP rfl (op_extract rfl rfl) (TL.opP rfl (op_assign rfl) (TL.opP rfl (op_assign rfl) (TL.nil (TQ.then (TC.seq (TC.seq (TC.region (TL.opP rfl (op_move rfl) (TL.opP rfl (op_neq rfl rfl) (TL.nil (TQ.then ?_))))))))))))))
     first | refine TC.condD rfl (fun c5 => ?_) (fun c5 => ?_) | refine TC.condB rfl (fun c5 => ?_) (fun c5 => ?_)
     ·refine TC.seq (TC.region (TL.opP rfl (op_move rfl) (TL.opP rfl (op_assign rfl) (TL.opP rfl (op_assign rfl) (TL.opP rfl (op_assign rfl) (TL.opP rfl (op_assign rfl) (TL.nil (TQ.then (TC.ret (TQ.then_ret ?_))))))))))
      refine ret4 rfl rfl rfl rfl rfl (fun w' hp => ?_)
      first
        | (obtain rfl : pf = [] := List.length_eq_zero_iff.1 (by omega)
           exact ⟨_, _, rfl, ⟨.slice none 0 0, .slice none 0 0, .slice none 0 0, [], [], n, rfl, fun _ => rfl, fun h => absurd h (by rw [move_none.1]; decide), by rw [move_none.2]; rfl⟩, nil_pile (nil_pile (new_nil _ 3 (hp.tail)))⟩)
        | (have hbd : valid s = false ∨ (rcount s : Int) ≠ n := by first | (left; simpa using c3) | (right; exact c4)
           have hj : pf.length = (pf.length - 1) + 1 := by omega
           have hmv := move_bad (n := n) (s := s) hj hbd
           exact ⟨_, _, rfl, ⟨.slice none 0 0, .slice none 0 0, .slice none 0 0, [], [], n, by (rw [hmv.1]; first | done | rfl), fun _ => rfl, fun h => absurd h (by rw [hmv.1]; decide), by rw [hmv.2]; rfl⟩, nil_pile (nil_pile (new_nil _ 3 (hp.tail)))⟩)
        | (have hmv := move_nz (n := n) (s := s) hj hx hgd c5
           exact ⟨_, _, rfl, ⟨.slice none 0 0, .slice none 0 0, .slice none 0 0, [], [], n, by (rw [hmv.1]; first | done | rfl), fun _ => rfl, fun h => absurd (hmv.1.symm.trans h) c5, by rw [hmv.2]; rfl⟩, nil_pile (nil_pile (new_nil _ 3 (hp.tail)))⟩)
        | (have hmv := move_ok (n := n) (s := s) hj hx hgd c5
           have hq := (hp.tail)
           have hq2 := row_pile (ps := pf.take j) hq cut_pile (fun y hy => (Src.pileE hf (List.mem_of_mem_take hy)).cons.cons.cons)
           exact ⟨_, _, rfl, ⟨_, _, _, pf.take j, onP pt (_, invF x.2 s), (sizeF x.2).2, by (rw [hmv.1]; first | done | rfl), fun h => absurd hmv.1 h, fun _ => ⟨hmv.2.2.1.symm, by (rw [sn_onP htl, hmv.2.2.2]; first | done | rfl), by (rw [hmv.2.2.2]; first | done | rfl)⟩, by (rw [hmv.2.1]; first | done | rfl)⟩, hq2⟩)
     ·refine TC.skip (TQ.then (TC.seq (TC.region (TL.opP rfl (op_move rfl) (TL.opP rfl (op_move rfl) (TL.callq rfl en_42 rfl (fun w2 hp => size_calls x.2 x.1 w2 (tabs_at hp (.tail _ (.tail _ hT))) hsx.1 (hxr.cons.cons _ _ _ hp)) (TL.opP rfl (op_move rfl) (TL.opP rfl (op_extract rfl rfl) (TL.opP rfl (op_extract rfl rfl) (TL.opP rfl (op_extract rfl rfl) (TL.opP rfl (op_nilCheck rfl) (TL.opP rfl (op_field fld_undo_History_n rfl) (TL.hp (fun _ h => h.pick1) ?_)))))))))))))
      refine TL.opX0 (OpX.store1 ts_int rfl rfl (by first | rfl | assumption) rfl rfl) ?_; rintro _ _ rfl
      refine TL.nil (TQ.then (TC.seq (TC.region (TL.opP rfl (op_move rfl) (TL.opP rfl (op_move rfl) (TL.opV rfl (op_lenV rfl un_undo_pile rfl (Src.pile hf).rdb.cons.cons) (TL.opP rfl (op_sub rfl rfl rfl (by omega) (by omega)) (TL.opV rfl (op_cut 0 j tsl_o_pile rfl (Src.pile hf).rdb.cons.cons (vlo := none) (vhi := (some _)) rfl rfl (.inl ⟨rfl, rfl⟩) (.inr ⟨_, _, rfl, by omega⟩) (by omega) (by omega)) ?_))))))))
      refine TL.opX rfl (OpX.callX en_43 rfl (pclone_x (j - 0) _ _ (by omega) (cut_one h1) (Rdb.cut (Src.pile hf).rdb.cons.cons 0 j (by omega) (by omega)))) ?_; rintro w3 _ ⟨_, rfl, rfl⟩
      refine TL.opP rfl (op_move rfl) (TL.opP rfl (op_move rfl) ?_)
      refine TL.opX rfl (OpX.callX en_28 rfl (on_x pt _ _ (invF x.2 s) (.tail _ (.tail _ (.tail _ (ht)))) (Src.rd m2) (by omega))) ?_; rintro b4 _ ⟨_, rfl, rfl⟩
      refine TL.opP rfl (op_move rfl) ?_
      refine TL.opX rfl (OpX.callX en_44 rfl (clone_x x.2 x.1 (by have := hsx.2; omega) hxr.cons.cons.cons.cons)) ?_; rintro w5 _ ⟨_, rfl, rfl⟩
      refine TL.opP rfl (op_assign rfl) (TL.opP rfl (op_assign rfl) (TL.opP rfl (op_assign rfl) (TL.opP rfl (op_assign rfl) (TL.nil (TQ.then (TC.ret ?_))))))
      refine ret4 rfl rfl rfl rfl rfl (fun w' hp => ?_)
      first
        | (obtain rfl : pf = [] := List.length_eq_zero_iff.1 (by omega)
           exact ⟨_, _, rfl, ⟨.slice none 0 0, .slice none 0 0, .slice none 0 0, [], [], n, rfl, fun _ => rfl, fun h => absurd h (by rw [move_none.1]; decide), by rw [move_none.2]; rfl⟩, nil_pile (nil_pile (new_nil _ 3 (hp.drop4.pick3.pick1.pick2.pick3)))⟩)
        | (have hbd : valid s = false ∨ (rcount s : Int) ≠ n := by first | (left; simpa using c3) | (right; exact c4)
           have hj : pf.length = (pf.length - 1) + 1 := by omega
           have hmv := move_bad (n := n) (s := s) hj hbd
           exact ⟨_, _, rfl, ⟨.slice none 0 0, .slice none 0 0, .slice none 0 0, [], [], n, by (rw [hmv.1]; first | done | rfl), fun _ => rfl, fun h => absurd h (by rw [hmv.1]; decide), by rw [hmv.2]; rfl⟩, nil_pile (nil_pile (new_nil _ 3 (hp.drop4.pick3.pick1.pick2.pick3)))⟩)
        | (have hmv := move_nz (n := n) (s := s) hj hx hgd c5
           exact ⟨_, _, rfl, ⟨.slice none 0 0, .slice none 0 0, .slice none 0 0, [], [], n, by (rw [hmv.1]; first | done | rfl), fun _ => rfl, fun h => absurd (hmv.1.symm.trans h) c5, by rw [hmv.2]; rfl⟩, nil_pile (nil_pile (new_nil _ 3 (hp.drop4.pick3.pick1.pick2.pick3)))⟩)
        | (have hmv := move_ok (n := n) (s := s) hj hx hgd c5
           have hq := (hp.drop4.pick3.pick1.pick2.pick3)
           have hq2 := row_pile (ps := pf.take j) hq cut_pile (fun y hy => (Src.pileE hf (List.mem_of_mem_take hy)).cons.cons.cons)
           exact ⟨_, _, rfl, ⟨_, _, _, pf.take j, onP pt (_, invF x.2 s), (sizeF x.2).2, by (rw [hmv.1]; first | done | rfl), fun h => absurd hmv.1 h, fun _ => ⟨hmv.2.2.1.symm, by (rw [sn_onP htl, hmv.2.2.2]; first | done | rfl), by (rw [hmv.2.2.2]; first | done | rfl)⟩, by (rw [hmv.2.1]; first | done | rfl)⟩, hq2⟩)

theorem hundo_x (s : ByteArray) (bv av : Value) (n : Int) (pb pa : List PE) (g : Nat) (hsm : ∀ x ∈ pb, Sm x.2) (hss : s.size ≤ 70368744177664) (hfl : pb.length ≤ 50) (htl : pa.length ≤ 50) (hT : tabs ∈ F) :
    CallX Tryd.prog 14 [.pointer (some ⟨g, 0, none⟩), .string s] S w0 (.blk g (.cells [bv, av, .int .i64 n, .bool true].toArray 66 (0, 0)) :: pileR bv pb :: pileR av pa :: F) (fun u L' => ∃ bv' av' n' pb' pa' ve, u = .tuple #[ve, .int .i64 ((hsOf pb pa n).undoE s)] ∧ hsOf pb' pa' n' = (hsOf pb pa n).undo s ∧ L' = .row ve 50 3 ((hsOf pb pa n).undoF s).length (encs ((hsOf pb pa n).undoF s)) :: .blk g (.cells [bv', av', .int .i64 n', .bool true].toArray 66 (0, 0)) :: pileR bv' pb' :: pileR av' pa' :: F) := by
 intro w hp
 refine calls_start Tryd.func14 rfl rfl rfl (hp) ?_
 refine TC.seq (TC.region (TL.opP rfl (op_assign rfl) (TL.opP rfl (op_assign rfl) (TL.nil (TQ.then (TC.seq (TC.region (TL.opP rfl (op_assign rfl) (TL.opP rfl (op_assign rfl) (TL.nil (TQ.then (TC.seq (TC.seq (TC.region (TL.opP rfl (op_move rfl) ?_)))))))))))))))
 refine TL.opX rfl (OpX.callX en_26 rfl (dead_x _ _ _ true _)) ?_; rintro _ _ ⟨rfl, rfl⟩
 refine TL.opP rfl (op_not rfl rfl) (TL.nil (TQ.then ?_))
 first | refine TC.condD rfl (fun c1 => ?_) (fun c1 => ?_) | refine TC.condB rfl (fun c1 => ?_) (fun c1 => ?_)
 ·refine TC.draw [] (.cons (.p, 0) (.cons (.p, 1) (.cons (.p, 2) (.cons (.p, 4) (.cons (.p, 5) (.cons (.p, 6) (.cons (.t, 3) (.cons (.p, 8) (.cons (.t, 7) (.cons (.p, 9) (.nil))))))))))) mo (by kernel_rfl) (TR.p rfl rfl wt0 (op_move rfl) (TR.p rfl rfl wt0 (op_nilCheck rfl) (TR.p rfl rfl wt0 (op_field fld_undo_History_back rfl) (TR.p rfl rfl wt0 (op_move rfl) (TR.p rfl rfl wt0 (op_nilCheck rfl) (TR.p rfl rfl wt0 (op_field fld_undo_History_again rfl) (TR.t rfl rfl wt0 (op_load ts_undo_pile rfl m0 rfl) (fun _ h => h) (TR.p rfl rfl wt0 (op_assign rfl) (TR.t rfl rfl wt0 (op_load ts_undo_pile rfl m0 rfl) (fun _ h => h) (TR.p rfl rfl wt0 (op_assign rfl) (TR.nil (TQ.then (TC.seq (TC.region (TL.opP rfl (op_move rfl) ?_)))))))))))))))
  refine TL.opP rfl (op_move rfl) (TL.opP rfl (op_move rfl) (TL.opP rfl (op_move rfl) ?_))
  refine TL.opX rfl (OpX.callX en_30 rfl (hmove_x _ _ pb pa s _ _ _ _ m0 m1 hsm hss hfl htl (.tail _ (.tail _ hT)))) ?_; rintro _ _ ⟨a2, b2, ve2, qa2, qb2, m2, rfl, hn02, hn12, rfl⟩
  refine TL.know (fun _ h => (Src.pile (.head _)).rdb.one h) (fun oa => ?_)
  refine TL.know (fun _ h => (Src.pile (.tail _ (.head _))).rdb.one h) (fun ob => (TL.opP rfl (op_move rfl) (TL.opP rfl (op_extract rfl rfl) (TL.opP rfl (op_extract rfl rfl) (TL.opP rfl (op_extract rfl rfl) (TL.opP rfl (op_extract rfl rfl) (TL.opP rfl (op_assign rfl) (TL.opP rfl (op_assign rfl) (TL.opP rfl (op_assign rfl) (TL.opP rfl (op_assign rfl) (TL.nil (TQ.then (TC.seq (TC.seq (TC.region (TL.opP rfl (op_move rfl) (TL.opP rfl (op_eql rfl rfl) (TL.nil (TQ.then ?_)))))))))))))))))))
  first | refine TC.condD rfl (fun c2 => ?_) (fun c2 => ?_) | refine TC.condB rfl (fun c2 => ?_) (fun c2 => ?_)
  ·refine TC.region (TL.opP rfl (op_move rfl) (TL.opP rfl (op_move rfl) (TL.opP rfl (op_move rfl) (TL.opP rfl (op_move rfl) (TL.opP rfl (op_nilCheck rfl) (TL.opP rfl (op_field fld_undo_History_back rfl) (TL.hp (fun _ h => h.pick3) ?_)))))))
   refine TL.opX0 (OpX.store1 ts_undo_pile rfl rfl (by first | rfl | assumption) rfl rfl) ?_; rintro _ _ rfl
   refine TL.opP rfl (op_nilCheck rfl) (TL.opP rfl (op_field fld_undo_History_again rfl) ?_)
   refine TL.opX0 (OpX.store1 ts_undo_pile rfl rfl (by first | rfl | assumption) rfl rfl) ?_; rintro _ _ rfl
   refine TL.nil (TQ.then (TC.seq (TC.region (TL.opP rfl (op_move rfl) (TL.opP rfl (op_move rfl) (TL.opP rfl (op_assign rfl) (TL.opP rfl (op_assign rfl) (TL.nil (TQ.then (TC.ret ?_))))))))))
   refine ret2 rfl rfl rfl (fun w' hp => ?_)
   first
     | exact ⟨_, _, rfl, ⟨_, _, _, _, _, _, rfl, undo_ok c2 (hn12 c2), rfl⟩, (hp.drop5.drop4.pick2.pick2.pick2.pick3)⟩
     | (obtain rfl := hn02 c2
        exact ⟨_, _, rfl, ⟨_, _, _, _, _, _, rfl, undo_no c2, rfl⟩, (hp.drop5.drop4.pick2.pick2.pick2.pick3)⟩)
  ·refine TC.skip (TQ.then (TC.seq (TC.region (TL.opP rfl (op_move rfl) (TL.opP rfl (op_move rfl) (TL.opP rfl (op_assign rfl) (TL.opP rfl (op_assign rfl) (TL.nil (TQ.then (TC.ret ?_))))))))))
   refine ret2 rfl rfl rfl (fun w' hp => ?_)
   first
     | exact ⟨_, _, rfl, ⟨_, _, _, _, _, _, rfl, undo_ok c2 (hn12 c2), rfl⟩, (hp.drop1.tail)⟩
     | (obtain rfl := hn02 c2
        exact ⟨_, _, rfl, ⟨_, _, _, _, _, _, rfl, undo_no c2, rfl⟩, (hp.drop1.tail)⟩)
 ·exact absurd c1 (by decide)

theorem hredo_x (s : ByteArray) (bv av : Value) (n : Int) (pb pa : List PE) (g : Nat) (hsm : ∀ x ∈ pa, Sm x.2) (hss : s.size ≤ 70368744177664) (hfl : pa.length ≤ 50) (htl : pb.length ≤ 50) (hT : tabs ∈ F) :
    CallX Tryd.prog 15 [.pointer (some ⟨g, 0, none⟩), .string s] S w0 (.blk g (.cells [bv, av, .int .i64 n, .bool true].toArray 66 (0, 0)) :: pileR bv pb :: pileR av pa :: F) (fun u L' => ∃ bv' av' n' pb' pa' ve, u = .tuple #[ve, .int .i64 ((hsOf pb pa n).redoE s)] ∧ hsOf pb' pa' n' = (hsOf pb pa n).redo s ∧ L' = .row ve 50 3 ((hsOf pb pa n).redoF s).length (encs ((hsOf pb pa n).redoF s)) :: .blk g (.cells [bv', av', .int .i64 n', .bool true].toArray 66 (0, 0)) :: pileR bv' pb' :: pileR av' pa' :: F) := by
 intro w hp
 refine calls_start Tryd.func15 rfl rfl rfl (hp) ?_
 refine TC.seq (TC.region (TL.opP rfl (op_assign rfl) (TL.opP rfl (op_assign rfl) (TL.nil (TQ.then (TC.seq (TC.region (TL.opP rfl (op_assign rfl) (TL.opP rfl (op_assign rfl) (TL.nil (TQ.then (TC.seq (TC.seq (TC.region (TL.opP rfl (op_move rfl) ?_)))))))))))))))
 refine TL.opX rfl (OpX.callX en_26 rfl (dead_x _ _ _ true _)) ?_; rintro _ _ ⟨rfl, rfl⟩
 refine TL.opP rfl (op_not rfl rfl) (TL.nil (TQ.then ?_))
 first | refine TC.condD rfl (fun c1 => ?_) (fun c1 => ?_) | refine TC.condB rfl (fun c1 => ?_) (fun c1 => ?_)
 ·refine TC.draw [] (.cons (.p, 0) (.cons (.p, 1) (.cons (.p, 2) (.cons (.p, 4) (.cons (.p, 5) (.cons (.p, 6) (.cons (.t, 3) (.cons (.p, 8) (.cons (.t, 7) (.cons (.p, 9) (.nil))))))))))) mo (by kernel_rfl) (TR.p rfl rfl wt0 (op_move rfl) (TR.p rfl rfl wt0 (op_nilCheck rfl) (TR.p rfl rfl wt0 (op_field fld_undo_History_again rfl) (TR.p rfl rfl wt0 (op_move rfl) (TR.p rfl rfl wt0 (op_nilCheck rfl) (TR.p rfl rfl wt0 (op_field fld_undo_History_back rfl) (TR.t rfl rfl wt0 (op_load ts_undo_pile rfl m0 rfl) (fun _ h => h) (TR.p rfl rfl wt0 (op_assign rfl) (TR.t rfl rfl wt0 (op_load ts_undo_pile rfl m0 rfl) (fun _ h => h) (TR.p rfl rfl wt0 (op_assign rfl) (TR.nil (TQ.then (TC.seq (TC.region (TL.opP rfl (op_move rfl) ?_)))))))))))))))
  refine TL.opP rfl (op_move rfl) (TL.opP rfl (op_move rfl) (TL.opP rfl (op_move rfl) ?_))
  refine TL.opX rfl (OpX.callX en_30 rfl (hmove_x _ _ pa pb s _ _ _ _ m1 m0 hsm hss hfl htl (.tail _ (.tail _ hT)))) ?_; rintro _ _ ⟨a2, b2, ve2, qa2, qb2, m2, rfl, hn02, hn12, rfl⟩
  refine TL.know (fun _ h => (Src.pile (.head _)).rdb.one h) (fun oa => ?_)
  refine TL.know (fun _ h => (Src.pile (.tail _ (.head _))).rdb.one h) (fun ob => (TL.opP rfl (op_move rfl) (TL.opP rfl (op_extract rfl rfl) (TL.opP rfl (op_extract rfl rfl) (TL.opP rfl (op_extract rfl rfl) (TL.opP rfl (op_extract rfl rfl) (TL.opP rfl (op_assign rfl) (TL.opP rfl (op_assign rfl) (TL.opP rfl (op_assign rfl) (TL.opP rfl (op_assign rfl) (TL.nil (TQ.then (TC.seq (TC.seq (TC.region (TL.opP rfl (op_move rfl) (TL.opP rfl (op_eql rfl rfl) (TL.nil (TQ.then ?_)))))))))))))))))))
  first | refine TC.condD rfl (fun c2 => ?_) (fun c2 => ?_) | refine TC.condB rfl (fun c2 => ?_) (fun c2 => ?_)
  ·refine TC.region (TL.opP rfl (op_move rfl) (TL.opP rfl (op_move rfl) (TL.opP rfl (op_move rfl) (TL.opP rfl (op_move rfl) (TL.opP rfl (op_nilCheck rfl) (TL.opP rfl (op_field fld_undo_History_again rfl) (TL.hp (fun _ h => h.pick3) ?_)))))))
   refine TL.opX0 (OpX.store1 ts_undo_pile rfl rfl (by first | rfl | assumption) rfl rfl) ?_; rintro _ _ rfl
   refine TL.opP rfl (op_nilCheck rfl) (TL.opP rfl (op_field fld_undo_History_back rfl) ?_)
   refine TL.opX0 (OpX.store1 ts_undo_pile rfl rfl (by first | rfl | assumption) rfl rfl) ?_; rintro _ _ rfl
   refine TL.nil (TQ.then (TC.seq (TC.region (TL.opP rfl (op_move rfl) (TL.opP rfl (op_move rfl) (TL.opP rfl (op_assign rfl) (TL.opP rfl (op_assign rfl) (TL.nil (TQ.then (TC.ret ?_))))))))))
   refine ret2 rfl rfl rfl (fun w' hp => ?_)
   first
     | exact ⟨_, _, rfl, ⟨_, _, _, _, _, _, rfl, redo_ok c2 (hn12 c2), rfl⟩, (hp.drop5.drop4.pick1.pick2.pick2.pick3)⟩
     | (obtain rfl := hn02 c2
        exact ⟨_, _, rfl, ⟨_, _, _, _, _, _, rfl, redo_no c2, rfl⟩, (hp.drop5.drop4.pick1.pick2.pick2.pick3)⟩)
  ·refine TC.skip (TQ.then (TC.seq (TC.region (TL.opP rfl (op_move rfl) (TL.opP rfl (op_move rfl) (TL.opP rfl (op_assign rfl) (TL.opP rfl (op_assign rfl) (TL.nil (TQ.then (TC.ret ?_))))))))))
   refine ret2 rfl rfl rfl (fun w' hp => ?_)
   first
     | exact ⟨_, _, rfl, ⟨_, _, _, _, _, _, rfl, redo_ok c2 (hn12 c2), rfl⟩, (hp.drop1.tail)⟩
     | (obtain rfl := hn02 c2
        exact ⟨_, _, rfl, ⟨_, _, _, _, _, _, rfl, redo_no c2, rfl⟩, (hp.drop1.tail)⟩)
 ·exact absurd c1 (by decide)

theorem hnew_x (n : Int) (h0 : 0 ≤ n) (h1 : n ≤ 1048576) :
    CallX Tryd.prog 24 [.int .i64 n] S w0 (L) (fun u L' => ∃ g, u = .tuple #[.pointer (some ⟨g, 0, none⟩), .int .i64 0] ∧ L' = .blk g (.cells [(.slice none 0 0), (.slice none 0 0), .int .i64 n, .bool true].toArray 66 (0, 0)) :: pileR (.slice none 0 0) [] :: pileR (.slice none 0 0) [] :: L) := by
 intro w hp
 refine calls_start Tryd.func24 rfl rfl rfl (hp) ?_
 refine TC.seq (TC.region (TL.opP rfl (op_assign rfl) (TL.opP rfl (op_assign rfl) (TL.nil (TQ.then (TC.seq (TC.seq (TC.region (TL.opP rfl (op_move rfl) (TL.opP rfl (op_lss rfl rfl) (TL.opP rfl (op_move rfl) ?_)))))))))))
 first | refine TL.splitD (fun c1 => ?_) (fun c1 => ?_) | refine TL.splitB (fun c1 => ?_) (fun c1 => ?_)
 ·exact absurd c1 (by omega)
 ·refine TL.gT rfl rfl (TL.opP rfl (op_move rfl) (TL.gT rfl rfl (TL.opP rfl (op_gtr rfl rfl) (TL.opP rfl (op_pickF rfl rfl) (TL.nil (TQ.then ?_))))))
  first | refine TC.condD rfl (fun c2 => ?_) (fun c2 => ?_) | refine TC.condB rfl (fun c2 => ?_) (fun c2 => ?_)
  ·exact absurd c2 (by omega)
  ·refine TC.skip (TQ.then (TC.seq (TC.region (TL.opP rfl (op_move rfl) (TL.opP rfl (op_build (ps := #[(2, _), (3, _)]) rfl (bl_undo_History_23 _ _)) ?_)))))
   refine TL.opX rfl (OpX.box (cs := [.slice none 0 0, .slice none 0 0, .int .i64 n, .bool true]) rfl rfl) ?_; rintro _ _ ⟨g12, rfl, rfl⟩
   refine TL.opP rfl (op_assign rfl) (TL.opP rfl (op_assign rfl) (TL.nil (TQ.then (TC.ret ?_))))
   refine ret2 rfl rfl rfl (fun w' hp => ?_)
   exact ⟨_, _, rfl, ⟨_, rfl, rfl⟩, (nil_pile (nil_pile (hp))).pick2⟩


end Go.SK
