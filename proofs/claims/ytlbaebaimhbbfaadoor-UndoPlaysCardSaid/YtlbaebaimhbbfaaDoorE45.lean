/- Walks: the document's transformation, by edits spread out. -/
import Derived.Test.YtlbaebaimhbbfaaDoorE44
import Derived.Test.YtlbaebaimhbbfaaDoorMP
set_option linter.unusedVariables false
set_option linter.unusedSimpArgs false
set_option maxRecDepth 100000
namespace Go.SK
open Go Go.RowKit Go.Proofs
variable {S : Nat → Prop} {w0 : World} {F L : List Res}
theorem strs_one (P : List (List Int)) : ∀ u ∈ P.map sv, u.oneCell' = true := fun u hu => by obtain ⟨t, _, rfl⟩ := List.mem_map.1 hu; rfl
theorem bools_one (D : List Bool) : ∀ u ∈ D.map bv, u.oneCell' = true := fun u hu => by obtain ⟨t, _, rfl⟩ := List.mem_map.1 hu; rfl
theorem wlast_x (P : List (List Int)) (t : List Int) (vp vd : Value) (hP : 0 < P.length) (hl : P.length ≤ 1099511627776) (hsz : (P.getD (P.length - 1) []).length + t.length ≤ 1099511627776) (ovd : vd.oneCell' = true) (hr : Rdb L vp 1 P.length (P.map sv)) :
    CallX Tryd.prog 69 [.agg #[vp, vd], .string (enc t)] S w0 (L) (fun u L' => ∃ v', u = .agg #[v', vd] ∧ v'.oneCell' = true ∧ L' = .row v' 9 1 (lastW P t).length ((lastW P t).map sv) :: L) := by
 intro w hp
 have hla := (enc_size (P.getD (P.length - 1) [])).2
 have hlt := (enc_size t).2
 have hlap := lastW_len P t
 refine calls_start Tryd.func69 rfl rfl rfl (hp) ?_
 refine TC.seq (TC.region ?_)
 refine TL.opX rfl (OpX.box (cs := [vp, vd]) rfl rfl) ?_; rintro _ _ ⟨g2, rfl, rfl⟩
 refine TL.opX rfl (OpX.alloc tz_sealskinref03_Wide rfl) ?_; rintro _ _ ⟨g4, rfl, rfl⟩
 refine TL.nil (TQ.then (TC.seq (TC.region ?_)))
 refine TL.opX rfl (OpX.buildSlice (ps := #[]) rfl (bs_string_0 )) ?_; rintro _ _ ⟨g6, rfl, rfl⟩
 refine TL.hp (fun _ h => blk_row (k := 1) (m := 0) h rfl (by decide)) (TL.opP rfl (op_field fld_sealskinref03_Wide_Puts rfl) (TL.opV rfl (op_load ts_sl_string rfl m2 rfl) ?_))
 refine TL.opX rfl (OpX.append (bytes := 16) tsl_string (by decide) (by decide) rfl hr.cons.cons.cons (strs_one _) (by omega) (zs := P.map sv) rfl) ?_; rintro v1 _ rfl
 refine TL.know (fun _ h => row1 h) (fun o1 => (TL.hp (fun _ h => row_lenM h) (TL.opP rfl (op_assign rfl) (TL.nil (TQ.then (TC.seq (TC.region (TL.opP rfl (op_move rfl) (TL.opP rfl (op_move rfl) (TL.opV rfl (op_lenV rfl un_sl_string rfl rw0) (TL.opP rfl (op_sub rfl rfl rfl (by omega) (by omega)) (TL.opP rfl (op_move rfl) (TL.opP rfl (op_move rfl) (TL.opV rfl (op_lenV rfl un_sl_string rfl rw0) (TL.opP rfl (op_sub rfl rfl rfl (by omega) (by omega)) (TL.opV rfl (op_index tsl_string rfl rw0 rfl (by omega) (by omega)) (TL.opV rfl (op_loadR ts_string rfl rw0 (lkM (i := P.length - 1) (d := []) (by omega) rfl (by omega))) (TL.opP rfl (op_move rfl) (TL.opP rfl (op_sadde rfl rfl (by omega)) (TL.opV rfl (op_index tsl_string rfl rw0 rfl (by omega) (by omega)) ?_))))))))))))))))))))
 refine TL.opX0 (OpX.storeRow (k := 1) (fun w => by kernel_rfl) rfl rfl rfl (ys := [sv (P.getD (P.length - 1) [] ++ t)]) rfl (by decide) (by first | exact (List.all_eq_true.1 rfl) | (intro u hu; simp only [List.mem_cons, List.not_mem_nil, or_false] at hu; rcases hu with rfl | rfl <;> assumption)) (by omega) (stM (i := P.length - 1) (by omega) (by omega))) ?_; rintro _ _ rfl
 refine TL.hp (fun _ h => row_lenM h) (TL.nil (TQ.then (TC.seq (TC.region (TL.opP rfl (op_move rfl) (TL.opP rfl (op_field fld_sealskinref03_Wide_Drop rfl) (TL.opV rfl (op_load ts_sl_bool rfl m2 rfl) (TL.opP rfl (op_build (ps := #[(0, _), (1, _)]) rfl (bl_sealskinref03_Wide_01 _ _)) (TL.hp (fun _ h => h.pick1) ?_)))))))))
 refine TL.opX0 (OpX.storeS tst_sealskinref03_Wide rfl rfl rfl rfl rfl (by first | exact (List.all_eq_true.1 rfl) | (intro u hu; simp only [List.mem_cons, List.not_mem_nil, or_false] at hu; rcases hu with rfl | rfl <;> assumption))) ?_; rintro _ _ rfl
 refine TL.nil (TQ.then (TC.ret ?_))
 refine retc tst_sealskinref03_Wide rfl rfl m0 rfl (fun w' hp => ?_)
 exact ⟨_, _, rfl, ⟨_, rfl, by assumption, rfl⟩, (hp.drop2.tail)⟩

set_option maxHeartbeats 4000000
theorem wnext_x (P : List (List Int)) (D : List Bool) (b : Bool) (vp vd : Value) (hl : P.length ≤ 1099511627776) (hl2 : D.length ≤ 1099511627776) (hr : Rdb L vp 1 P.length (P.map sv)) (hr2 : Rdb L vd 1 D.length (D.map bv)) :
    CallX Tryd.prog 70 [.agg #[vp, vd], .bool b] S w0 (L) (fun u L' => ∃ v' w', u = .agg #[v', w'] ∧ v'.oneCell' = true ∧ w'.oneCell' = true ∧ L' = .row v' 9 1 ((P ++ [[]])).length (((P ++ [[]])).map sv) :: .row w' 4 1 ((D ++ [b])).length (((D ++ [b])).map bv) :: L) := by
 intro w hp
 refine calls_start Tryd.func70 rfl rfl rfl (hp) ?_
 refine TC.seq (TC.region ?_)
 refine TL.opX rfl (OpX.box (cs := [vp, vd]) rfl rfl) ?_; rintro _ _ ⟨g2, rfl, rfl⟩
 refine TL.opX rfl (OpX.alloc tz_sealskinref03_Wide rfl) ?_; rintro _ _ ⟨g4, rfl, rfl⟩
 refine TL.nil (TQ.then (TC.seq (TC.draw [14] (.cons (.p, 1) (.cons (.p, 7) (.cons (.p, 10) (.cons (.t, 2) (.cons (.t, 8) (.alt (.cons (.o, 0) (.alt (.cons (.o, 3) (.alt (.cons (.o, 4) (.alt (.cons (.o, 5) (.alt (.cons (.o, 6) (.alt (.cons (.o, 9) (.cons (.o, 11) (.cons (.o, 12) (.cons (.p, 13) (.cons (.z, 14) (.nil)))))) (.cons (.o, 11) (.cons (.o, 9) (.cons (.o, 12) (.cons (.p, 13) (.cons (.z, 14) (.nil)))))))) (.cons (.o, 11) (.cons (.o, 6) (.cons (.o, 9) (.cons (.o, 12) (.cons (.p, 13) (.cons (.z, 14) (.nil))))))))) (.alt (.cons (.o, 6) (.alt (.cons (.o, 5) (.alt (.cons (.o, 9) (.cons (.o, 11) (.cons (.o, 12) (.cons (.p, 13) (.cons (.z, 14) (.nil)))))) (.cons (.o, 11) (.cons (.o, 9) (.cons (.o, 12) (.cons (.p, 13) (.cons (.z, 14) (.nil)))))))) (.cons (.o, 11) (.cons (.o, 5) (.cons (.o, 9) (.cons (.o, 12) (.cons (.p, 13) (.cons (.z, 14) (.nil))))))))) (.cons (.o, 11) (.alt (.cons (.o, 5) (.cons (.o, 6) (.cons (.o, 9) (.cons (.o, 12) (.cons (.p, 13) (.cons (.z, 14) (.nil))))))) (.cons (.o, 6) (.cons (.o, 5) (.cons (.o, 9) (.cons (.o, 12) (.cons (.p, 13) (.cons (.z, 14) (.nil)))))))))))) (.alt (.cons (.o, 6) (.alt (.cons (.o, 4) (.alt (.cons (.o, 5) (.alt (.cons (.o, 9) (.cons (.o, 11) (.cons (.o, 12) (.cons (.p, 13) (.cons (.z, 14) (.nil)))))) (.cons (.o, 11) (.cons (.o, 9) (.cons (.o, 12) (.cons (.p, 13) (.cons (.z, 14) (.nil)))))))) (.cons (.o, 11) (.cons (.o, 5) (.cons (.o, 9) (.cons (.o, 12) (.cons (.p, 13) (.cons (.z, 14) (.nil))))))))) (.cons (.o, 11) (.cons (.o, 4) (.cons (.o, 5) (.cons (.o, 9) (.cons (.o, 12) (.cons (.p, 13) (.cons (.z, 14) (.nil)))))))))) (.cons (.o, 11) (.alt (.cons (.o, 4) (.alt (.cons (.o, 5) (.cons (.o, 6) (.cons (.o, 9) (.cons (.o, 12) (.cons (.p, 13) (.cons (.z, 14) (.nil))))))) (.cons (.o, 6) (.cons (.o, 5) (.cons (.o, 9) (.cons (.o, 12) (.cons (.p, 13) (.cons (.z, 14) (.nil))))))))) (.cons (.o, 6) (.cons (.o, 4) (.cons (.o, 5) (.cons (.o, 9) (.cons (.o, 12) (.cons (.p, 13) (.cons (.z, 14) (.nil))))))))))))) (.alt (.cons (.o, 4) (.alt (.cons (.o, 3) (.alt (.cons (.o, 5) (.alt (.cons (.o, 6) (.alt (.cons (.o, 9) (.cons (.o, 11) (.cons (.o, 12) (.cons (.p, 13) (.cons (.z, 14) (.nil)))))) (.cons (.o, 11) (.cons (.o, 9) (.cons (.o, 12) (.cons (.p, 13) (.cons (.z, 14) (.nil)))))))) (.cons (.o, 11) (.cons (.o, 6) (.cons (.o, 9) (.cons (.o, 12) (.cons (.p, 13) (.cons (.z, 14) (.nil))))))))) (.alt (.cons (.o, 6) (.alt (.cons (.o, 5) (.alt (.cons (.o, 9) (.cons (.o, 11) (.cons (.o, 12) (.cons (.p, 13) (.cons (.z, 14) (.nil)))))) (.cons (.o, 11) (.cons (.o, 9) (.cons (.o, 12) (.cons (.p, 13) (.cons (.z, 14) (.nil)))))))) (.cons (.o, 11) (.cons (.o, 5) (.cons (.o, 9) (.cons (.o, 12) (.cons (.p, 13) (.cons (.z, 14) (.nil))))))))) (.cons (.o, 11) (.alt (.cons (.o, 5) (.cons (.o, 6) (.cons (.o, 9) (.cons (.o, 12) (.cons (.p, 13) (.cons (.z, 14) (.nil))))))) (.cons (.o, 6) (.cons (.o, 5) (.cons (.o, 9) (.cons (.o, 12) (.cons (.p, 13) (.cons (.z, 14) (.nil)))))))))))) (.alt (.cons (.o, 6) (.alt (.cons (.o, 3) (.alt (.cons (.o, 5) (.alt (.cons (.o, 9) (.cons (.o, 11) (.cons (.o, 12) (.cons (.p, 13) (.cons (.z, 14) (.nil)))))) (.cons (.o, 11) (.cons (.o, 9) (.cons (.o, 12) (.cons (.p, 13) (.cons (.z, 14) (.nil)))))))) (.cons (.o, 11) (.cons (.o, 5) (.cons (.o, 9) (.cons (.o, 12) (.cons (.p, 13) (.cons (.z, 14) (.nil))))))))) (.cons (.o, 11) (.cons (.o, 3) (.cons (.o, 5) (.cons (.o, 9) (.cons (.o, 12) (.cons (.p, 13) (.cons (.z, 14) (.nil)))))))))) (.cons (.o, 11) (.alt (.cons (.o, 3) (.alt (.cons (.o, 5) (.cons (.o, 6) (.cons (.o, 9) (.cons (.o, 12) (.cons (.p, 13) (.cons (.z, 14) (.nil))))))) (.cons (.o, 6) (.cons (.o, 5) (.cons (.o, 9) (.cons (.o, 12) (.cons (.p, 13) (.cons (.z, 14) (.nil))))))))) (.cons (.o, 6) (.cons (.o, 3) (.cons (.o, 5) (.cons (.o, 9) (.cons (.o, 12) (.cons (.p, 13) (.cons (.z, 14) (.nil))))))))))))) (.alt (.cons (.o, 6) (.alt (.cons (.o, 3) (.alt (.cons (.o, 4) (.alt (.cons (.o, 5) (.alt (.cons (.o, 9) (.cons (.o, 11) (.cons (.o, 12) (.cons (.p, 13) (.cons (.z, 14) (.nil)))))) (.cons (.o, 11) (.cons (.o, 9) (.cons (.o, 12) (.cons (.p, 13) (.cons (.z, 14) (.nil)))))))) (.cons (.o, 11) (.cons (.o, 5) (.cons (.o, 9) (.cons (.o, 12) (.cons (.p, 13) (.cons (.z, 14) (.nil))))))))) (.cons (.o, 11) (.cons (.o, 4) (.cons (.o, 5) (.cons (.o, 9) (.cons (.o, 12) (.cons (.p, 13) (.cons (.z, 14) (.nil)))))))))) (.alt (.cons (.o, 4) (.alt (.cons (.o, 3) (.alt (.cons (.o, 5) (.alt (.cons (.o, 9) (.cons (.o, 11) (.cons (.o, 12) (.cons (.p, 13) (.cons (.z, 14) (.nil)))))) (.cons (.o, 11) (.cons (.o, 9) (.cons (.o, 12) (.cons (.p, 13) (.cons (.z, 14) (.nil)))))))) (.cons (.o, 11) (.cons (.o, 5) (.cons (.o, 9) (.cons (.o, 12) (.cons (.p, 13) (.cons (.z, 14) (.nil))))))))) (.cons (.o, 11) (.cons (.o, 3) (.cons (.o, 5) (.cons (.o, 9) (.cons (.o, 12) (.cons (.p, 13) (.cons (.z, 14) (.nil)))))))))) (.cons (.o, 11) (.alt (.cons (.o, 3) (.cons (.o, 4) (.cons (.o, 5) (.cons (.o, 9) (.cons (.o, 12) (.cons (.p, 13) (.cons (.z, 14) (.nil)))))))) (.cons (.o, 4) (.cons (.o, 3) (.cons (.o, 5) (.cons (.o, 9) (.cons (.o, 12) (.cons (.p, 13) (.cons (.z, 14) (.nil))))))))))))) (.cons (.o, 11) (.alt (.cons (.o, 3) (.alt (.cons (.o, 4) (.alt (.cons (.o, 5) (.cons (.o, 6) (.cons (.o, 9) (.cons (.o, 12) (.cons (.p, 13) (.cons (.z, 14) (.nil))))))) (.cons (.o, 6) (.cons (.o, 5) (.cons (.o, 9) (.cons (.o, 12) (.cons (.p, 13) (.cons (.z, 14) (.nil))))))))) (.cons (.o, 6) (.cons (.o, 4) (.cons (.o, 5) (.cons (.o, 9) (.cons (.o, 12) (.cons (.p, 13) (.cons (.z, 14) (.nil)))))))))) (.alt (.cons (.o, 4) (.alt (.cons (.o, 3) (.alt (.cons (.o, 5) (.cons (.o, 6) (.cons (.o, 9) (.cons (.o, 12) (.cons (.p, 13) (.cons (.z, 14) (.nil))))))) (.cons (.o, 6) (.cons (.o, 5) (.cons (.o, 9) (.cons (.o, 12) (.cons (.p, 13) (.cons (.z, 14) (.nil))))))))) (.cons (.o, 6) (.cons (.o, 3) (.cons (.o, 5) (.cons (.o, 9) (.cons (.o, 12) (.cons (.p, 13) (.cons (.z, 14) (.nil)))))))))) (.cons (.o, 6) (.alt (.cons (.o, 3) (.cons (.o, 4) (.cons (.o, 5) (.cons (.o, 9) (.cons (.o, 12) (.cons (.p, 13) (.cons (.z, 14) (.nil)))))))) (.cons (.o, 4) (.cons (.o, 3) (.cons (.o, 5) (.cons (.o, 9) (.cons (.o, 12) (.cons (.p, 13) (.cons (.z, 14) (.nil))))))))))))))))) (.alt (.cons (.o, 4) (.alt (.cons (.o, 0) (.alt (.cons (.o, 3) (.alt (.cons (.o, 5) (.alt (.cons (.o, 6) (.alt (.cons (.o, 9) (.cons (.o, 11) (.cons (.o, 12) (.cons (.p, 13) (.cons (.z, 14) (.nil)))))) (.cons (.o, 11) (.cons (.o, 9) (.cons (.o, 12) (.cons (.p, 13) (.cons (.z, 14) (.nil)))))))) (.cons (.o, 11) (.cons (.o, 6) (.cons (.o, 9) (.cons (.o, 12) (.cons (.p, 13) (.cons (.z, 14) (.nil))))))))) (.alt (.cons (.o, 6) (.alt (.cons (.o, 5) (.alt (.cons (.o, 9) (.cons (.o, 11) (.cons (.o, 12) (.cons (.p, 13) (.cons (.z, 14) (.nil)))))) (.cons (.o, 11) (.cons (.o, 9) (.cons (.o, 12) (.cons (.p, 13) (.cons (.z, 14) (.nil)))))))) (.cons (.o, 11) (.cons (.o, 5) (.cons (.o, 9) (.cons (.o, 12) (.cons (.p, 13) (.cons (.z, 14) (.nil))))))))) (.cons (.o, 11) (.alt (.cons (.o, 5) (.cons (.o, 6) (.cons (.o, 9) (.cons (.o, 12) (.cons (.p, 13) (.cons (.z, 14) (.nil))))))) (.cons (.o, 6) (.cons (.o, 5) (.cons (.o, 9) (.cons (.o, 12) (.cons (.p, 13) (.cons (.z, 14) (.nil)))))))))))) (.alt (.cons (.o, 6) (.alt (.cons (.o, 3) (.alt (.cons (.o, 5) (.alt (.cons (.o, 9) (.cons (.o, 11) (.cons (.o, 12) (.cons (.p, 13) (.cons (.z, 14) (.nil)))))) (.cons (.o, 11) (.cons (.o, 9) (.cons (.o, 12) (.cons (.p, 13) (.cons (.z, 14) (.nil)))))))) (.cons (.o, 11) (.cons (.o, 5) (.cons (.o, 9) (.cons (.o, 12) (.cons (.p, 13) (.cons (.z, 14) (.nil))))))))) (.cons (.o, 11) (.cons (.o, 3) (.cons (.o, 5) (.cons (.o, 9) (.cons (.o, 12) (.cons (.p, 13) (.cons (.z, 14) (.nil)))))))))) (.cons (.o, 11) (.alt (.cons (.o, 3) (.alt (.cons (.o, 5) (.cons (.o, 6) (.cons (.o, 9) (.cons (.o, 12) (.cons (.p, 13) (.cons (.z, 14) (.nil))))))) (.cons (.o, 6) (.cons (.o, 5) (.cons (.o, 9) (.cons (.o, 12) (.cons (.p, 13) (.cons (.z, 14) (.nil))))))))) (.cons (.o, 6) (.cons (.o, 3) (.cons (.o, 5) (.cons (.o, 9) (.cons (.o, 12) (.cons (.p, 13) (.cons (.z, 14) (.nil))))))))))))) (.alt (.cons (.o, 6) (.alt (.cons (.o, 0) (.alt (.cons (.o, 3) (.alt (.cons (.o, 5) (.alt (.cons (.o, 9) (.cons (.o, 11) (.cons (.o, 12) (.cons (.p, 13) (.cons (.z, 14) (.nil)))))) (.cons (.o, 11) (.cons (.o, 9) (.cons (.o, 12) (.cons (.p, 13) (.cons (.z, 14) (.nil)))))))) (.cons (.o, 11) (.cons (.o, 5) (.cons (.o, 9) (.cons (.o, 12) (.cons (.p, 13) (.cons (.z, 14) (.nil))))))))) (.cons (.o, 11) (.cons (.o, 3) (.cons (.o, 5) (.cons (.o, 9) (.cons (.o, 12) (.cons (.p, 13) (.cons (.z, 14) (.nil)))))))))) (.cons (.o, 11) (.cons (.o, 0) (.cons (.o, 3) (.cons (.o, 5) (.cons (.o, 9) (.cons (.o, 12) (.cons (.p, 13) (.cons (.z, 14) (.nil))))))))))) (.cons (.o, 11) (.alt (.cons (.o, 0) (.alt (.cons (.o, 3) (.alt (.cons (.o, 5) (.cons (.o, 6) (.cons (.o, 9) (.cons (.o, 12) (.cons (.p, 13) (.cons (.z, 14) (.nil))))))) (.cons (.o, 6) (.cons (.o, 5) (.cons (.o, 9) (.cons (.o, 12) (.cons (.p, 13) (.cons (.z, 14) (.nil))))))))) (.cons (.o, 6) (.cons (.o, 3) (.cons (.o, 5) (.cons (.o, 9) (.cons (.o, 12) (.cons (.p, 13) (.cons (.z, 14) (.nil)))))))))) (.cons (.o, 6) (.cons (.o, 0) (.cons (.o, 3) (.cons (.o, 5) (.cons (.o, 9) (.cons (.o, 12) (.cons (.p, 13) (.cons (.z, 14) (.nil)))))))))))))) (.alt (.cons (.o, 6) (.alt (.cons (.o, 0) (.alt (.cons (.o, 3) (.alt (.cons (.o, 4) (.alt (.cons (.o, 5) (.alt (.cons (.o, 9) (.cons (.o, 11) (.cons (.o, 12) (.cons (.p, 13) (.cons (.z, 14) (.nil)))))) (.cons (.o, 11) (.cons (.o, 9) (.cons (.o, 12) (.cons (.p, 13) (.cons (.z, 14) (.nil)))))))) (.cons (.o, 11) (.cons (.o, 5) (.cons (.o, 9) (.cons (.o, 12) (.cons (.p, 13) (.cons (.z, 14) (.nil))))))))) (.cons (.o, 11) (.cons (.o, 4) (.cons (.o, 5) (.cons (.o, 9) (.cons (.o, 12) (.cons (.p, 13) (.cons (.z, 14) (.nil)))))))))) (.alt (.cons (.o, 4) (.alt (.cons (.o, 3) (.alt (.cons (.o, 5) (.alt (.cons (.o, 9) (.cons (.o, 11) (.cons (.o, 12) (.cons (.p, 13) (.cons (.z, 14) (.nil)))))) (.cons (.o, 11) (.cons (.o, 9) (.cons (.o, 12) (.cons (.p, 13) (.cons (.z, 14) (.nil)))))))) (.cons (.o, 11) (.cons (.o, 5) (.cons (.o, 9) (.cons (.o, 12) (.cons (.p, 13) (.cons (.z, 14) (.nil))))))))) (.cons (.o, 11) (.cons (.o, 3) (.cons (.o, 5) (.cons (.o, 9) (.cons (.o, 12) (.cons (.p, 13) (.cons (.z, 14) (.nil)))))))))) (.cons (.o, 11) (.alt (.cons (.o, 3) (.cons (.o, 4) (.cons (.o, 5) (.cons (.o, 9) (.cons (.o, 12) (.cons (.p, 13) (.cons (.z, 14) (.nil)))))))) (.cons (.o, 4) (.cons (.o, 3) (.cons (.o, 5) (.cons (.o, 9) (.cons (.o, 12) (.cons (.p, 13) (.cons (.z, 14) (.nil))))))))))))) (.alt (.cons (.o, 4) (.alt (.cons (.o, 0) (.alt (.cons (.o, 3) (.alt (.cons (.o, 5) (.alt (.cons (.o, 9) (.cons (.o, 11) (.cons (.o, 12) (.cons (.p, 13) (.cons (.z, 14) (.nil)))))) (.cons (.o, 11) (.cons (.o, 9) (.cons (.o, 12) (.cons (.p, 13) (.cons (.z, 14) (.nil)))))))) (.cons (.o, 11) (.cons (.o, 5) (.cons (.o, 9) (.cons (.o, 12) (.cons (.p, 13) (.cons (.z, 14) (.nil))))))))) (.cons (.o, 11) (.cons (.o, 3) (.cons (.o, 5) (.cons (.o, 9) (.cons (.o, 12) (.cons (.p, 13) (.cons (.z, 14) (.nil)))))))))) (.cons (.o, 11) (.cons (.o, 0) (.cons (.o, 3) (.cons (.o, 5) (.cons (.o, 9) (.cons (.o, 12) (.cons (.p, 13) (.cons (.z, 14) (.nil))))))))))) (.cons (.o, 11) (.alt (.cons (.o, 0) (.alt (.cons (.o, 3) (.cons (.o, 4) (.cons (.o, 5) (.cons (.o, 9) (.cons (.o, 12) (.cons (.p, 13) (.cons (.z, 14) (.nil)))))))) (.cons (.o, 4) (.cons (.o, 3) (.cons (.o, 5) (.cons (.o, 9) (.cons (.o, 12) (.cons (.p, 13) (.cons (.z, 14) (.nil)))))))))) (.cons (.o, 4) (.cons (.o, 0) (.cons (.o, 3) (.cons (.o, 5) (.cons (.o, 9) (.cons (.o, 12) (.cons (.p, 13) (.cons (.z, 14) (.nil)))))))))))))) (.cons (.o, 11) (.alt (.cons (.o, 0) (.alt (.cons (.o, 3) (.alt (.cons (.o, 4) (.alt (.cons (.o, 5) (.cons (.o, 6) (.cons (.o, 9) (.cons (.o, 12) (.cons (.p, 13) (.cons (.z, 14) (.nil))))))) (.cons (.o, 6) (.cons (.o, 5) (.cons (.o, 9) (.cons (.o, 12) (.cons (.p, 13) (.cons (.z, 14) (.nil))))))))) (.cons (.o, 6) (.cons (.o, 4) (.cons (.o, 5) (.cons (.o, 9) (.cons (.o, 12) (.cons (.p, 13) (.cons (.z, 14) (.nil)))))))))) (.alt (.cons (.o, 4) (.alt (.cons (.o, 3) (.alt (.cons (.o, 5) (.cons (.o, 6) (.cons (.o, 9) (.cons (.o, 12) (.cons (.p, 13) (.cons (.z, 14) (.nil))))))) (.cons (.o, 6) (.cons (.o, 5) (.cons (.o, 9) (.cons (.o, 12) (.cons (.p, 13) (.cons (.z, 14) (.nil))))))))) (.cons (.o, 6) (.cons (.o, 3) (.cons (.o, 5) (.cons (.o, 9) (.cons (.o, 12) (.cons (.p, 13) (.cons (.z, 14) (.nil)))))))))) (.cons (.o, 6) (.alt (.cons (.o, 3) (.cons (.o, 4) (.cons (.o, 5) (.cons (.o, 9) (.cons (.o, 12) (.cons (.p, 13) (.cons (.z, 14) (.nil)))))))) (.cons (.o, 4) (.cons (.o, 3) (.cons (.o, 5) (.cons (.o, 9) (.cons (.o, 12) (.cons (.p, 13) (.cons (.z, 14) (.nil))))))))))))) (.alt (.cons (.o, 4) (.alt (.cons (.o, 0) (.alt (.cons (.o, 3) (.alt (.cons (.o, 5) (.cons (.o, 6) (.cons (.o, 9) (.cons (.o, 12) (.cons (.p, 13) (.cons (.z, 14) (.nil))))))) (.cons (.o, 6) (.cons (.o, 5) (.cons (.o, 9) (.cons (.o, 12) (.cons (.p, 13) (.cons (.z, 14) (.nil))))))))) (.cons (.o, 6) (.cons (.o, 3) (.cons (.o, 5) (.cons (.o, 9) (.cons (.o, 12) (.cons (.p, 13) (.cons (.z, 14) (.nil)))))))))) (.cons (.o, 6) (.cons (.o, 0) (.cons (.o, 3) (.cons (.o, 5) (.cons (.o, 9) (.cons (.o, 12) (.cons (.p, 13) (.cons (.z, 14) (.nil))))))))))) (.cons (.o, 6) (.alt (.cons (.o, 0) (.alt (.cons (.o, 3) (.cons (.o, 4) (.cons (.o, 5) (.cons (.o, 9) (.cons (.o, 12) (.cons (.p, 13) (.cons (.z, 14) (.nil)))))))) (.cons (.o, 4) (.cons (.o, 3) (.cons (.o, 5) (.cons (.o, 9) (.cons (.o, 12) (.cons (.p, 13) (.cons (.z, 14) (.nil)))))))))) (.cons (.o, 4) (.cons (.o, 0) (.cons (.o, 3) (.cons (.o, 5) (.cons (.o, 9) (.cons (.o, 12) (.cons (.p, 13) (.cons (.z, 14) (.nil)))))))))))))))))))))) mo (by kernel_rfl) ?_)))
 refine TR.p rfl rfl wt0 (op_field fld_sealskinref03_Wide_Puts rfl) (TR.p rfl rfl wt0 (op_field fld_sealskinref03_Wide_Drop rfl) (TR.p rfl rfl wt0 (op_move rfl) (TR.t rfl rfl wt0 (op_load ts_sl_string rfl m1 rfl) (fun _ h => h) (TR.t rfl rfl wt0 (op_load ts_sl_bool rfl m1 rfl) (fun _ h => h) ?_))))
 refine TR.alt ?_ ?_
 ·refine TR.o rfl rfl wt0 (OpX.buildSlice (ps := #[]) rfl (bs_string_0 )) (by rintro _ _ ⟨g5, rfl, rfl⟩; intro w h; exact h.tail) ?_; rintro _ _ ⟨g5, rfl, rfl⟩
  refine TR.hp (fun _ h => blk_row (k := 1) (m := 0) h rfl (by decide)) ?_
  refine TR.alt ?_ ?_
  ·refine TR.o rfl rfl wt0 (OpX.append (bytes := 16) tsl_string (by decide) (by decide) rfl hr.cons.cons.cons (strs_one _) (by omega) (zs := P.map sv) rfl) (by rintro v1 _ rfl; intro w h; exact h.tail) ?_; rintro v1 _ rfl
   refine TR.know (fun _ h => row1 h) (fun o1 => (TR.hp (fun _ h => row_lenM h) ?_))
   refine TR.alt ?_ ?_
   ·refine TR.o rfl rfl wt0 (OpX.buildSlice (ps := #[(0, _)]) rfl (bs_string_1 _)) (by rintro _ _ ⟨g9, rfl, rfl⟩; intro w h; exact h.drop1.tail) ?_; rintro _ _ ⟨g9, rfl, rfl⟩
    refine TR.hp (fun _ h => blk_row (k := 1) (m := 1) h rfl (by decide)) ?_
    refine TR.alt ?_ ?_
    ·refine TR.hp (fun _ h => h.pick1) ?_
     refine TR.o rfl rfl wt0 (OpX.append (bytes := 16) tsl_string (by decide) (by decide) rfl rw1 (strs_one [[]]) (by omega) (zs := (P ++ [[]]).map sv) (by rw [List.map_append]; rfl)) (by rintro v2 _ rfl; intro w h; exact h.drop1.tail) ?_; rintro v2 _ rfl
     refine TR.know (fun _ h => row1 h) (fun o2 => (TR.hp (fun _ h => row_lenM h) ?_))
     refine TR.alt ?_ ?_
     ·refine TR.o rfl rfl wt0 (OpX.buildSlice (ps := #[]) rfl (bs_bool_0 )) (by rintro _ _ ⟨g11, rfl, rfl⟩; intro w h; exact h.drop2.drop1.tail) ?_; rintro _ _ ⟨g11, rfl, rfl⟩
      refine TR.hp (fun _ h => blk_row (k := 1) (m := 0) h rfl (by decide)) ?_
      refine TR.alt ?_ ?_
      ·refine TR.o rfl rfl wt0 (OpX.append (bytes := 1) tsl_bool (by decide) (by decide) rfl hr2.cons.cons.cons.cons.cons (bools_one _) (by omega) (zs := D.map bv) rfl) (by rintro v3 _ rfl; intro w h; exact h.drop2.drop1.tail) ?_; rintro v3 _ rfl
       refine TR.know (fun _ h => row1 h) (fun o3 => (TR.hp (fun _ h => row_lenM h) ?_))
       refine TR.o rfl rfl wt0 (OpX.buildSlice (ps := #[(0, _)]) rfl (bs_bool_1 _)) (by rintro _ _ ⟨g16, rfl, rfl⟩; intro w h; exact h.drop3.drop2.drop1.tail) ?_; rintro _ _ ⟨g16, rfl, rfl⟩
       refine TR.hp (fun _ h => blk_row (k := 1) (m := 1) h rfl (by decide)) (TR.hp (fun _ h => h.pick1) ?_)
       refine TR.o rfl rfl wt0 (OpX.append (bytes := 1) tsl_bool (by decide) (by decide) rfl rw1 (bools_one [b]) (by omega) (zs := (D ++ [b]).map bv) (by rw [List.map_append]; rfl)) (by rintro v4 _ rfl; intro w h; exact h.drop3.drop2.drop1.tail) ?_; rintro v4 _ rfl
       refine TR.know (fun _ h => row1 h) (fun o4 => (TR.hp (fun _ h => row_lenM h) (TR.p rfl rfl wt0 (op_build (ps := #[(0, _), (1, _)]) rfl (bl_sealskinref03_Wide_01 _ _)) (TR.hp (fun _ h => h.pick4) ?_))))
       refine TR.z0 rfl wt0 (OpX.storeS tst_sealskinref03_Wide rfl rfl rfl rfl rfl (by first | exact (List.all_eq_true.1 rfl) | (intro u hu; simp only [List.mem_cons, List.not_mem_nil, or_false] at hu; rcases hu with rfl | rfl <;> assumption))) ?_; rintro _ _ rfl
       refine TR.nil (TQ.then (TC.ret ?_))
       refine retc tst_sealskinref03_Wide rfl rfl m0 rfl (fun w' hp => ?_)
       exact ⟨_, _, rfl, ⟨_, _, rfl, by assumption, by assumption, rfl⟩, (hp.drop5.drop4.drop2.tail.pick1)⟩
      ·refine TR.o rfl rfl wt0 (OpX.buildSlice (ps := #[(0, _)]) rfl (bs_bool_1 _)) (by rintro _ _ ⟨g16, rfl, rfl⟩; intro w h; exact h.drop3.drop2.drop1.tail) ?_; rintro _ _ ⟨g16, rfl, rfl⟩
       refine TR.hp (fun _ h => blk_row (k := 1) (m := 1) h rfl (by decide)) (TR.hp (fun _ h => h.pick1) ?_)
       refine TR.o rfl rfl wt0 (OpX.append (bytes := 1) tsl_bool (by decide) (by decide) rfl hr2.cons.cons.cons.cons.cons.cons (bools_one _) (by omega) (zs := D.map bv) rfl) (by rintro v5 _ rfl; intro w h; exact h.drop3.drop2.drop1.tail) ?_; rintro v5 _ rfl
       refine TR.know (fun _ h => row1 h) (fun o5 => (TR.hp (fun _ h => row_lenM h) ?_))
       refine TR.o rfl rfl wt0 (OpX.append (bytes := 1) tsl_bool (by decide) (by decide) rfl rw1 (bools_one [b]) (by omega) (zs := (D ++ [b]).map bv) (by rw [List.map_append]; rfl)) (by rintro v6 _ rfl; intro w h; exact h.drop3.drop2.drop1.tail) ?_; rintro v6 _ rfl
       refine TR.know (fun _ h => row1 h) (fun o6 => (TR.hp (fun _ h => row_lenM h) (TR.p rfl rfl wt0 (op_build (ps := #[(0, _), (1, _)]) rfl (bl_sealskinref03_Wide_01 _ _)) (TR.hp (fun _ h => h.pick4) ?_))))
       refine TR.z0 rfl wt0 (OpX.storeS tst_sealskinref03_Wide rfl rfl rfl rfl rfl (by first | exact (List.all_eq_true.1 rfl) | (intro u hu; simp only [List.mem_cons, List.not_mem_nil, or_false] at hu; rcases hu with rfl | rfl <;> assumption))) ?_; rintro _ _ rfl
       refine TR.nil (TQ.then (TC.ret ?_))
       refine retc tst_sealskinref03_Wide rfl rfl m0 rfl (fun w' hp => ?_)
       exact ⟨_, _, rfl, ⟨_, _, rfl, by assumption, by assumption, rfl⟩, (hp.drop5.drop4.drop2.tail.pick1)⟩
     ·refine TR.o rfl rfl wt0 (OpX.buildSlice (ps := #[(0, _)]) rfl (bs_bool_1 _)) (by rintro _ _ ⟨g16, rfl, rfl⟩; intro w h; exact h.drop2.drop1.tail) ?_; rintro _ _ ⟨g16, rfl, rfl⟩
      refine TR.hp (fun _ h => blk_row (k := 1) (m := 1) h rfl (by decide)) ?_
      refine TR.o rfl rfl wt0 (OpX.buildSlice (ps := #[]) rfl (bs_bool_0 )) (by rintro _ _ ⟨g11, rfl, rfl⟩; intro w h; exact h.drop3.drop2.drop1.tail) ?_; rintro _ _ ⟨g11, rfl, rfl⟩
      refine TR.hp (fun _ h => blk_row (k := 1) (m := 0) h rfl (by decide)) ?_
      refine TR.o rfl rfl wt0 (OpX.append (bytes := 1) tsl_bool (by decide) (by decide) rfl hr2.cons.cons.cons.cons.cons.cons (bools_one _) (by omega) (zs := D.map bv) rfl) (by rintro v7 _ rfl; intro w h; exact h.drop3.drop2.drop1.tail) ?_; rintro v7 _ rfl
      refine TR.know (fun _ h => row1 h) (fun o7 => (TR.hp (fun _ h => row_lenM h) ?_))
      refine TR.o rfl rfl wt0 (OpX.append (bytes := 1) tsl_bool (by decide) (by decide) rfl rw1 (bools_one [b]) (by omega) (zs := (D ++ [b]).map bv) (by rw [List.map_append]; rfl)) (by rintro v8 _ rfl; intro w h; exact h.drop3.drop2.drop1.tail) ?_; rintro v8 _ rfl
      refine TR.know (fun _ h => row1 h) (fun o8 => (TR.hp (fun _ h => row_lenM h) (TR.p rfl rfl wt0 (op_build (ps := #[(0, _), (1, _)]) rfl (bl_sealskinref03_Wide_01 _ _)) (TR.hp (fun _ h => h.pick4) ?_))))
      refine TR.z0 rfl wt0 (OpX.storeS tst_sealskinref03_Wide rfl rfl rfl rfl rfl (by first | exact (List.all_eq_true.1 rfl) | (intro u hu; simp only [List.mem_cons, List.not_mem_nil, or_false] at hu; rcases hu with rfl | rfl <;> assumption))) ?_; rintro _ _ rfl
      refine TR.nil (TQ.then (TC.ret ?_))
      refine retc tst_sealskinref03_Wide rfl rfl m0 rfl (fun w' hp => ?_)
      exact ⟨_, _, rfl, ⟨_, _, rfl, by assumption, by assumption, rfl⟩, (hp.drop5.drop4.drop2.tail.pick1)⟩
    ·refine TR.alt ?_ ?_
     ·refine TR.o rfl rfl wt0 (OpX.buildSlice (ps := #[]) rfl (bs_bool_0 )) (by rintro _ _ ⟨g11, rfl, rfl⟩; intro w h; exact h.drop2.drop1.tail) ?_; rintro _ _ ⟨g11, rfl, rfl⟩
      refine TR.hp (fun _ h => blk_row (k := 1) (m := 0) h rfl (by decide)) ?_
      refine TR.alt ?_ ?_
      ·refine TR.hp (fun _ h => h.pick2) ?_
       refine TR.o rfl rfl wt0 (OpX.append (bytes := 16) tsl_string (by decide) (by decide) rfl rw2 (strs_one [[]]) (by omega) (zs := (P ++ [[]]).map sv) (by rw [List.map_append]; rfl)) (by rintro v9 _ rfl; intro w h; exact h.drop2.drop1.tail) ?_; rintro v9 _ rfl
       refine TR.know (fun _ h => row1 h) (fun o9 => (TR.hp (fun _ h => row_lenM h) ?_))
       refine TR.alt ?_ ?_
       ·refine TR.hp (fun _ h => h.pick1) ?_
        refine TR.o rfl rfl wt0 (OpX.append (bytes := 1) tsl_bool (by decide) (by decide) rfl hr2.cons.cons.cons.cons.cons (bools_one _) (by omega) (zs := D.map bv) rfl) (by rintro v10 _ rfl; intro w h; exact h.drop2.drop1.tail) ?_; rintro v10 _ rfl
        refine TR.know (fun _ h => row1 h) (fun o10 => (TR.hp (fun _ h => row_lenM h) ?_))
        refine TR.o rfl rfl wt0 (OpX.buildSlice (ps := #[(0, _)]) rfl (bs_bool_1 _)) (by rintro _ _ ⟨g16, rfl, rfl⟩; intro w h; exact h.drop3.drop2.drop1.tail) ?_; rintro _ _ ⟨g16, rfl, rfl⟩
        refine TR.hp (fun _ h => blk_row (k := 1) (m := 1) h rfl (by decide)) (TR.hp (fun _ h => h.pick1) ?_)
        refine TR.o rfl rfl wt0 (OpX.append (bytes := 1) tsl_bool (by decide) (by decide) rfl rw1 (bools_one [b]) (by omega) (zs := (D ++ [b]).map bv) (by rw [List.map_append]; rfl)) (by rintro v11 _ rfl; intro w h; exact h.drop3.drop2.drop1.tail) ?_; rintro v11 _ rfl
        refine TR.know (fun _ h => row1 h) (fun o11 => (TR.hp (fun _ h => row_lenM h) (TR.p rfl rfl wt0 (op_build (ps := #[(0, _), (1, _)]) rfl (bl_sealskinref03_Wide_01 _ _)) (TR.hp (fun _ h => h.pick4) ?_))))
        refine TR.z0 rfl wt0 (OpX.storeS tst_sealskinref03_Wide rfl rfl rfl rfl rfl (by first | exact (List.all_eq_true.1 rfl) | (intro u hu; simp only [List.mem_cons, List.not_mem_nil, or_false] at hu; rcases hu with rfl | rfl <;> assumption))) ?_; rintro _ _ rfl
        refine TR.nil (TQ.then (TC.ret ?_))
        refine retc tst_sealskinref03_Wide rfl rfl m0 rfl (fun w' hp => ?_)
        exact ⟨_, _, rfl, ⟨_, _, rfl, by assumption, by assumption, rfl⟩, (hp.drop5.drop4.drop2.tail.pick1)⟩
       ·refine TR.o rfl rfl wt0 (OpX.buildSlice (ps := #[(0, _)]) rfl (bs_bool_1 _)) (by rintro _ _ ⟨g16, rfl, rfl⟩; intro w h; exact h.drop3.drop2.drop1.tail) ?_; rintro _ _ ⟨g16, rfl, rfl⟩
        refine TR.hp (fun _ h => blk_row (k := 1) (m := 1) h rfl (by decide)) (TR.hp (fun _ h => h.pick2) ?_)
        refine TR.o rfl rfl wt0 (OpX.append (bytes := 1) tsl_bool (by decide) (by decide) rfl hr2.cons.cons.cons.cons.cons.cons (bools_one _) (by omega) (zs := D.map bv) rfl) (by rintro v12 _ rfl; intro w h; exact h.drop3.drop2.drop1.tail) ?_; rintro v12 _ rfl
        refine TR.know (fun _ h => row1 h) (fun o12 => (TR.hp (fun _ h => row_lenM h) ?_))
        refine TR.o rfl rfl wt0 (OpX.append (bytes := 1) tsl_bool (by decide) (by decide) rfl rw1 (bools_one [b]) (by omega) (zs := (D ++ [b]).map bv) (by rw [List.map_append]; rfl)) (by rintro v13 _ rfl; intro w h; exact h.drop3.drop2.drop1.tail) ?_; rintro v13 _ rfl
        refine TR.know (fun _ h => row1 h) (fun o13 => (TR.hp (fun _ h => row_lenM h) (TR.p rfl rfl wt0 (op_build (ps := #[(0, _), (1, _)]) rfl (bl_sealskinref03_Wide_01 _ _)) (TR.hp (fun _ h => h.pick4) ?_))))
        refine TR.z0 rfl wt0 (OpX.storeS tst_sealskinref03_Wide rfl rfl rfl rfl rfl (by first | exact (List.all_eq_true.1 rfl) | (intro u hu; simp only [List.mem_cons, List.not_mem_nil, or_false] at hu; rcases hu with rfl | rfl <;> assumption))) ?_; rintro _ _ rfl
        refine TR.nil (TQ.then (TC.ret ?_))
        refine retc tst_sealskinref03_Wide rfl rfl m0 rfl (fun w' hp => ?_)
        exact ⟨_, _, rfl, ⟨_, _, rfl, by assumption, by assumption, rfl⟩, (hp.drop5.drop4.drop2.tail.pick1)⟩
      ·refine TR.o rfl rfl wt0 (OpX.buildSlice (ps := #[(0, _)]) rfl (bs_bool_1 _)) (by rintro _ _ ⟨g16, rfl, rfl⟩; intro w h; exact h.drop3.drop2.drop1.tail) ?_; rintro _ _ ⟨g16, rfl, rfl⟩
       refine TR.hp (fun _ h => blk_row (k := 1) (m := 1) h rfl (by decide)) (TR.hp (fun _ h => h.pick3) ?_)
       refine TR.o rfl rfl wt0 (OpX.append (bytes := 16) tsl_string (by decide) (by decide) rfl rw3 (strs_one [[]]) (by omega) (zs := (P ++ [[]]).map sv) (by rw [List.map_append]; rfl)) (by rintro v14 _ rfl; intro w h; exact h.drop3.drop2.drop1.tail) ?_; rintro v14 _ rfl
       refine TR.know (fun _ h => row1 h) (fun o14 => (TR.hp (fun _ h => row_lenM h) (TR.hp (fun _ h => h.pick2) ?_)))
       refine TR.o rfl rfl wt0 (OpX.append (bytes := 1) tsl_bool (by decide) (by decide) rfl hr2.cons.cons.cons.cons.cons.cons (bools_one _) (by omega) (zs := D.map bv) rfl) (by rintro v15 _ rfl; intro w h; exact h.drop3.drop2.drop1.tail) ?_; rintro v15 _ rfl
       refine TR.know (fun _ h => row1 h) (fun o15 => (TR.hp (fun _ h => row_lenM h) ?_))
       refine TR.o rfl rfl wt0 (OpX.append (bytes := 1) tsl_bool (by decide) (by decide) rfl rw2 (bools_one [b]) (by omega) (zs := (D ++ [b]).map bv) (by rw [List.map_append]; rfl)) (by rintro v16 _ rfl; intro w h; exact h.drop3.drop2.drop1.tail) ?_; rintro v16 _ rfl
       refine TR.know (fun _ h => row1 h) (fun o16 => (TR.hp (fun _ h => row_lenM h) (TR.p rfl rfl wt0 (op_build (ps := #[(0, _), (1, _)]) rfl (bl_sealskinref03_Wide_01 _ _)) (TR.hp (fun _ h => h.pick4) ?_))))
       refine TR.z0 rfl wt0 (OpX.storeS tst_sealskinref03_Wide rfl rfl rfl rfl rfl (by first | exact (List.all_eq_true.1 rfl) | (intro u hu; simp only [List.mem_cons, List.not_mem_nil, or_false] at hu; rcases hu with rfl | rfl <;> assumption))) ?_; rintro _ _ rfl
       refine TR.nil (TQ.then (TC.ret ?_))
       refine retc tst_sealskinref03_Wide rfl rfl m0 rfl (fun w' hp => ?_)
       exact ⟨_, _, rfl, ⟨_, _, rfl, by assumption, by assumption, rfl⟩, (hp.drop5.drop4.drop3.tail.pick1)⟩
     ·refine TR.o rfl rfl wt0 (OpX.buildSlice (ps := #[(0, _)]) rfl (bs_bool_1 _)) (by rintro _ _ ⟨g16, rfl, rfl⟩; intro w h; exact h.drop2.drop1.tail) ?_; rintro _ _ ⟨g16, rfl, rfl⟩
      refine TR.hp (fun _ h => blk_row (k := 1) (m := 1) h rfl (by decide)) ?_
      refine TR.alt ?_ ?_
      ·refine TR.hp (fun _ h => h.pick2) ?_
       refine TR.o rfl rfl wt0 (OpX.append (bytes := 16) tsl_string (by decide) (by decide) rfl rw2 (strs_one [[]]) (by omega) (zs := (P ++ [[]]).map sv) (by rw [List.map_append]; rfl)) (by rintro v17 _ rfl; intro w h; exact h.drop2.drop1.tail) ?_; rintro v17 _ rfl
       refine TR.know (fun _ h => row1 h) (fun o17 => (TR.hp (fun _ h => row_lenM h) ?_))
       refine TR.o rfl rfl wt0 (OpX.buildSlice (ps := #[]) rfl (bs_bool_0 )) (by rintro _ _ ⟨g11, rfl, rfl⟩; intro w h; exact h.drop3.drop2.drop1.tail) ?_; rintro _ _ ⟨g11, rfl, rfl⟩
       refine TR.hp (fun _ h => blk_row (k := 1) (m := 0) h rfl (by decide)) ?_
       refine TR.o rfl rfl wt0 (OpX.append (bytes := 1) tsl_bool (by decide) (by decide) rfl hr2.cons.cons.cons.cons.cons.cons (bools_one _) (by omega) (zs := D.map bv) rfl) (by rintro v18 _ rfl; intro w h; exact h.drop3.drop2.drop1.tail) ?_; rintro v18 _ rfl
       refine TR.know (fun _ h => row1 h) (fun o18 => (TR.hp (fun _ h => row_lenM h) ?_))
       refine TR.o rfl rfl wt0 (OpX.append (bytes := 1) tsl_bool (by decide) (by decide) rfl rw2 (bools_one [b]) (by omega) (zs := (D ++ [b]).map bv) (by rw [List.map_append]; rfl)) (by rintro v19 _ rfl; intro w h; exact h.drop3.drop2.drop1.tail) ?_; rintro v19 _ rfl
       refine TR.know (fun _ h => row1 h) (fun o19 => (TR.hp (fun _ h => row_lenM h) (TR.p rfl rfl wt0 (op_build (ps := #[(0, _), (1, _)]) rfl (bl_sealskinref03_Wide_01 _ _)) (TR.hp (fun _ h => h.pick4) ?_))))
       refine TR.z0 rfl wt0 (OpX.storeS tst_sealskinref03_Wide rfl rfl rfl rfl rfl (by first | exact (List.all_eq_true.1 rfl) | (intro u hu; simp only [List.mem_cons, List.not_mem_nil, or_false] at hu; rcases hu with rfl | rfl <;> assumption))) ?_; rintro _ _ rfl
       refine TR.nil (TQ.then (TC.ret ?_))
       refine retc tst_sealskinref03_Wide rfl rfl m0 rfl (fun w' hp => ?_)
       exact ⟨_, _, rfl, ⟨_, _, rfl, by assumption, by assumption, rfl⟩, (hp.drop5.drop4.drop3.tail.pick1)⟩
      ·refine TR.o rfl rfl wt0 (OpX.buildSlice (ps := #[]) rfl (bs_bool_0 )) (by rintro _ _ ⟨g11, rfl, rfl⟩; intro w h; exact h.drop3.drop2.drop1.tail) ?_; rintro _ _ ⟨g11, rfl, rfl⟩
       refine TR.hp (fun _ h => blk_row (k := 1) (m := 0) h rfl (by decide)) (TR.hp (fun _ h => h.pick3) ?_)
       refine TR.o rfl rfl wt0 (OpX.append (bytes := 16) tsl_string (by decide) (by decide) rfl rw3 (strs_one [[]]) (by omega) (zs := (P ++ [[]]).map sv) (by rw [List.map_append]; rfl)) (by rintro v20 _ rfl; intro w h; exact h.drop3.drop2.drop1.tail) ?_; rintro v20 _ rfl
       refine TR.know (fun _ h => row1 h) (fun o20 => (TR.hp (fun _ h => row_lenM h) (TR.hp (fun _ h => h.pick1) ?_)))
       refine TR.o rfl rfl wt0 (OpX.append (bytes := 1) tsl_bool (by decide) (by decide) rfl hr2.cons.cons.cons.cons.cons.cons (bools_one _) (by omega) (zs := D.map bv) rfl) (by rintro v21 _ rfl; intro w h; exact h.drop3.drop2.drop1.tail) ?_; rintro v21 _ rfl
       refine TR.know (fun _ h => row1 h) (fun o21 => (TR.hp (fun _ h => row_lenM h) ?_))
       refine TR.o rfl rfl wt0 (OpX.append (bytes := 1) tsl_bool (by decide) (by decide) rfl rw2 (bools_one [b]) (by omega) (zs := (D ++ [b]).map bv) (by rw [List.map_append]; rfl)) (by rintro v22 _ rfl; intro w h; exact h.drop3.drop2.drop1.tail) ?_; rintro v22 _ rfl
       refine TR.know (fun _ h => row1 h) (fun o22 => (TR.hp (fun _ h => row_lenM h) (TR.p rfl rfl wt0 (op_build (ps := #[(0, _), (1, _)]) rfl (bl_sealskinref03_Wide_01 _ _)) (TR.hp (fun _ h => h.pick4) ?_))))
       refine TR.z0 rfl wt0 (OpX.storeS tst_sealskinref03_Wide rfl rfl rfl rfl rfl (by first | exact (List.all_eq_true.1 rfl) | (intro u hu; simp only [List.mem_cons, List.not_mem_nil, or_false] at hu; rcases hu with rfl | rfl <;> assumption))) ?_; rintro _ _ rfl
       refine TR.nil (TQ.then (TC.ret ?_))
       refine retc tst_sealskinref03_Wide rfl rfl m0 rfl (fun w' hp => ?_)
       exact ⟨_, _, rfl, ⟨_, _, rfl, by assumption, by assumption, rfl⟩, (hp.drop5.drop4.drop3.tail.pick1)⟩
   ·refine TR.alt ?_ ?_
    ·refine TR.o rfl rfl wt0 (OpX.buildSlice (ps := #[]) rfl (bs_bool_0 )) (by rintro _ _ ⟨g11, rfl, rfl⟩; intro w h; exact h.drop1.tail) ?_; rintro _ _ ⟨g11, rfl, rfl⟩
     refine TR.hp (fun _ h => blk_row (k := 1) (m := 0) h rfl (by decide)) ?_
     refine TR.alt ?_ ?_
     ·refine TR.o rfl rfl wt0 (OpX.buildSlice (ps := #[(0, _)]) rfl (bs_string_1 _)) (by rintro _ _ ⟨g9, rfl, rfl⟩; intro w h; exact h.drop2.drop1.tail) ?_; rintro _ _ ⟨g9, rfl, rfl⟩
      refine TR.hp (fun _ h => blk_row (k := 1) (m := 1) h rfl (by decide)) ?_
      refine TR.alt ?_ ?_
      ·refine TR.hp (fun _ h => h.pick2) ?_
       refine TR.o rfl rfl wt0 (OpX.append (bytes := 16) tsl_string (by decide) (by decide) rfl rw1 (strs_one [[]]) (by omega) (zs := (P ++ [[]]).map sv) (by rw [List.map_append]; rfl)) (by rintro v23 _ rfl; intro w h; exact h.drop2.drop1.tail) ?_; rintro v23 _ rfl
       refine TR.know (fun _ h => row1 h) (fun o23 => (TR.hp (fun _ h => row_lenM h) ?_))
       refine TR.alt ?_ ?_
       ·refine TR.hp (fun _ h => h.pick2) ?_
        refine TR.o rfl rfl wt0 (OpX.append (bytes := 1) tsl_bool (by decide) (by decide) rfl hr2.cons.cons.cons.cons.cons (bools_one _) (by omega) (zs := D.map bv) rfl) (by rintro v24 _ rfl; intro w h; exact h.drop2.drop1.tail) ?_; rintro v24 _ rfl
        refine TR.know (fun _ h => row1 h) (fun o24 => (TR.hp (fun _ h => row_lenM h) ?_))
        refine TR.o rfl rfl wt0 (OpX.buildSlice (ps := #[(0, _)]) rfl (bs_bool_1 _)) (by rintro _ _ ⟨g16, rfl, rfl⟩; intro w h; exact h.drop3.drop2.drop1.tail) ?_; rintro _ _ ⟨g16, rfl, rfl⟩
        refine TR.hp (fun _ h => blk_row (k := 1) (m := 1) h rfl (by decide)) (TR.hp (fun _ h => h.pick1) ?_)
        refine TR.o rfl rfl wt0 (OpX.append (bytes := 1) tsl_bool (by decide) (by decide) rfl rw1 (bools_one [b]) (by omega) (zs := (D ++ [b]).map bv) (by rw [List.map_append]; rfl)) (by rintro v25 _ rfl; intro w h; exact h.drop3.drop2.drop1.tail) ?_; rintro v25 _ rfl
        refine TR.know (fun _ h => row1 h) (fun o25 => (TR.hp (fun _ h => row_lenM h) (TR.p rfl rfl wt0 (op_build (ps := #[(0, _), (1, _)]) rfl (bl_sealskinref03_Wide_01 _ _)) (TR.hp (fun _ h => h.pick4) ?_))))
        refine TR.z0 rfl wt0 (OpX.storeS tst_sealskinref03_Wide rfl rfl rfl rfl rfl (by first | exact (List.all_eq_true.1 rfl) | (intro u hu; simp only [List.mem_cons, List.not_mem_nil, or_false] at hu; rcases hu with rfl | rfl <;> assumption))) ?_; rintro _ _ rfl
        refine TR.nil (TQ.then (TC.ret ?_))
        refine retc tst_sealskinref03_Wide rfl rfl m0 rfl (fun w' hp => ?_)
        exact ⟨_, _, rfl, ⟨_, _, rfl, by assumption, by assumption, rfl⟩, (hp.drop5.drop4.drop2.tail.pick1)⟩
       ·refine TR.o rfl rfl wt0 (OpX.buildSlice (ps := #[(0, _)]) rfl (bs_bool_1 _)) (by rintro _ _ ⟨g16, rfl, rfl⟩; intro w h; exact h.drop3.drop2.drop1.tail) ?_; rintro _ _ ⟨g16, rfl, rfl⟩
        refine TR.hp (fun _ h => blk_row (k := 1) (m := 1) h rfl (by decide)) (TR.hp (fun _ h => h.pick3) ?_)
        refine TR.o rfl rfl wt0 (OpX.append (bytes := 1) tsl_bool (by decide) (by decide) rfl hr2.cons.cons.cons.cons.cons.cons (bools_one _) (by omega) (zs := D.map bv) rfl) (by rintro v26 _ rfl; intro w h; exact h.drop3.drop2.drop1.tail) ?_; rintro v26 _ rfl
        refine TR.know (fun _ h => row1 h) (fun o26 => (TR.hp (fun _ h => row_lenM h) ?_))
        refine TR.o rfl rfl wt0 (OpX.append (bytes := 1) tsl_bool (by decide) (by decide) rfl rw1 (bools_one [b]) (by omega) (zs := (D ++ [b]).map bv) (by rw [List.map_append]; rfl)) (by rintro v27 _ rfl; intro w h; exact h.drop3.drop2.drop1.tail) ?_; rintro v27 _ rfl
        refine TR.know (fun _ h => row1 h) (fun o27 => (TR.hp (fun _ h => row_lenM h) (TR.p rfl rfl wt0 (op_build (ps := #[(0, _), (1, _)]) rfl (bl_sealskinref03_Wide_01 _ _)) (TR.hp (fun _ h => h.pick4) ?_))))
        refine TR.z0 rfl wt0 (OpX.storeS tst_sealskinref03_Wide rfl rfl rfl rfl rfl (by first | exact (List.all_eq_true.1 rfl) | (intro u hu; simp only [List.mem_cons, List.not_mem_nil, or_false] at hu; rcases hu with rfl | rfl <;> assumption))) ?_; rintro _ _ rfl
        refine TR.nil (TQ.then (TC.ret ?_))
        refine retc tst_sealskinref03_Wide rfl rfl m0 rfl (fun w' hp => ?_)
        exact ⟨_, _, rfl, ⟨_, _, rfl, by assumption, by assumption, rfl⟩, (hp.drop5.drop4.drop2.tail.pick1)⟩
      ·refine TR.o rfl rfl wt0 (OpX.buildSlice (ps := #[(0, _)]) rfl (bs_bool_1 _)) (by rintro _ _ ⟨g16, rfl, rfl⟩; intro w h; exact h.drop3.drop2.drop1.tail) ?_; rintro _ _ ⟨g16, rfl, rfl⟩
       refine TR.hp (fun _ h => blk_row (k := 1) (m := 1) h rfl (by decide)) (TR.hp (fun _ h => h.pick3) ?_)
       refine TR.o rfl rfl wt0 (OpX.append (bytes := 16) tsl_string (by decide) (by decide) rfl rw2 (strs_one [[]]) (by omega) (zs := (P ++ [[]]).map sv) (by rw [List.map_append]; rfl)) (by rintro v28 _ rfl; intro w h; exact h.drop3.drop2.drop1.tail) ?_; rintro v28 _ rfl
       refine TR.know (fun _ h => row1 h) (fun o28 => (TR.hp (fun _ h => row_lenM h) (TR.hp (fun _ h => h.pick3) ?_)))
       refine TR.o rfl rfl wt0 (OpX.append (bytes := 1) tsl_bool (by decide) (by decide) rfl hr2.cons.cons.cons.cons.cons.cons (bools_one _) (by omega) (zs := D.map bv) rfl) (by rintro v29 _ rfl; intro w h; exact h.drop3.drop2.drop1.tail) ?_; rintro v29 _ rfl
       refine TR.know (fun _ h => row1 h) (fun o29 => (TR.hp (fun _ h => row_lenM h) ?_))
       refine TR.o rfl rfl wt0 (OpX.append (bytes := 1) tsl_bool (by decide) (by decide) rfl rw2 (bools_one [b]) (by omega) (zs := (D ++ [b]).map bv) (by rw [List.map_append]; rfl)) (by rintro v30 _ rfl; intro w h; exact h.drop3.drop2.drop1.tail) ?_; rintro v30 _ rfl
       refine TR.know (fun _ h => row1 h) (fun o30 => (TR.hp (fun _ h => row_lenM h) (TR.p rfl rfl wt0 (op_build (ps := #[(0, _), (1, _)]) rfl (bl_sealskinref03_Wide_01 _ _)) (TR.hp (fun _ h => h.pick4) ?_))))
       refine TR.z0 rfl wt0 (OpX.storeS tst_sealskinref03_Wide rfl rfl rfl rfl rfl (by first | exact (List.all_eq_true.1 rfl) | (intro u hu; simp only [List.mem_cons, List.not_mem_nil, or_false] at hu; rcases hu with rfl | rfl <;> assumption))) ?_; rintro _ _ rfl
       refine TR.nil (TQ.then (TC.ret ?_))
       refine retc tst_sealskinref03_Wide rfl rfl m0 rfl (fun w' hp => ?_)
       exact ⟨_, _, rfl, ⟨_, _, rfl, by assumption, by assumption, rfl⟩, (hp.drop5.drop4.drop3.tail.pick1)⟩
     ·refine TR.o rfl rfl wt0 (OpX.buildSlice (ps := #[(0, _)]) rfl (bs_bool_1 _)) (by rintro _ _ ⟨g16, rfl, rfl⟩; intro w h; exact h.drop2.drop1.tail) ?_; rintro _ _ ⟨g16, rfl, rfl⟩
      refine TR.hp (fun _ h => blk_row (k := 1) (m := 1) h rfl (by decide)) ?_
      refine TR.o rfl rfl wt0 (OpX.buildSlice (ps := #[(0, _)]) rfl (bs_string_1 _)) (by rintro _ _ ⟨g9, rfl, rfl⟩; intro w h; exact h.drop3.drop2.drop1.tail) ?_; rintro _ _ ⟨g9, rfl, rfl⟩
      refine TR.hp (fun _ h => blk_row (k := 1) (m := 1) h rfl (by decide)) (TR.hp (fun _ h => h.pick3) ?_)
      refine TR.o rfl rfl wt0 (OpX.append (bytes := 16) tsl_string (by decide) (by decide) rfl rw1 (strs_one [[]]) (by omega) (zs := (P ++ [[]]).map sv) (by rw [List.map_append]; rfl)) (by rintro v31 _ rfl; intro w h; exact h.drop3.drop2.drop1.tail) ?_; rintro v31 _ rfl
      refine TR.know (fun _ h => row1 h) (fun o31 => (TR.hp (fun _ h => row_lenM h) (TR.hp (fun _ h => h.pick3) ?_)))
      refine TR.o rfl rfl wt0 (OpX.append (bytes := 1) tsl_bool (by decide) (by decide) rfl hr2.cons.cons.cons.cons.cons.cons (bools_one _) (by omega) (zs := D.map bv) rfl) (by rintro v32 _ rfl; intro w h; exact h.drop3.drop2.drop1.tail) ?_; rintro v32 _ rfl
      refine TR.know (fun _ h => row1 h) (fun o32 => (TR.hp (fun _ h => row_lenM h) ?_))
      refine TR.o rfl rfl wt0 (OpX.append (bytes := 1) tsl_bool (by decide) (by decide) rfl rw3 (bools_one [b]) (by omega) (zs := (D ++ [b]).map bv) (by rw [List.map_append]; rfl)) (by rintro v33 _ rfl; intro w h; exact h.drop3.drop2.drop1.tail) ?_; rintro v33 _ rfl
      refine TR.know (fun _ h => row1 h) (fun o33 => (TR.hp (fun _ h => row_lenM h) (TR.p rfl rfl wt0 (op_build (ps := #[(0, _), (1, _)]) rfl (bl_sealskinref03_Wide_01 _ _)) (TR.hp (fun _ h => h.pick4) ?_))))
      refine TR.z0 rfl wt0 (OpX.storeS tst_sealskinref03_Wide rfl rfl rfl rfl rfl (by first | exact (List.all_eq_true.1 rfl) | (intro u hu; simp only [List.mem_cons, List.not_mem_nil, or_false] at hu; rcases hu with rfl | rfl <;> assumption))) ?_; rintro _ _ rfl
      refine TR.nil (TQ.then (TC.ret ?_))
      refine retc tst_sealskinref03_Wide rfl rfl m0 rfl (fun w' hp => ?_)
      exact ⟨_, _, rfl, ⟨_, _, rfl, by assumption, by assumption, rfl⟩, (hp.drop5.drop4.drop3.tail.pick1)⟩
    ·refine TR.o rfl rfl wt0 (OpX.buildSlice (ps := #[(0, _)]) rfl (bs_bool_1 _)) (by rintro _ _ ⟨g16, rfl, rfl⟩; intro w h; exact h.drop1.tail) ?_; rintro _ _ ⟨g16, rfl, rfl⟩
     refine TR.hp (fun _ h => blk_row (k := 1) (m := 1) h rfl (by decide)) ?_
     refine TR.alt ?_ ?_
     ·refine TR.o rfl rfl wt0 (OpX.buildSlice (ps := #[(0, _)]) rfl (bs_string_1 _)) (by rintro _ _ ⟨g9, rfl, rfl⟩; intro w h; exact h.drop2.drop1.tail) ?_; rintro _ _ ⟨g9, rfl, rfl⟩
      refine TR.hp (fun _ h => blk_row (k := 1) (m := 1) h rfl (by decide)) ?_
      refine TR.alt ?_ ?_
      ·refine TR.hp (fun _ h => h.pick2) ?_
       refine TR.o rfl rfl wt0 (OpX.append (bytes := 16) tsl_string (by decide) (by decide) rfl rw1 (strs_one [[]]) (by omega) (zs := (P ++ [[]]).map sv) (by rw [List.map_append]; rfl)) (by rintro v34 _ rfl; intro w h; exact h.drop2.drop1.tail) ?_; rintro v34 _ rfl
       refine TR.know (fun _ h => row1 h) (fun o34 => (TR.hp (fun _ h => row_lenM h) ?_))
       refine TR.o rfl rfl wt0 (OpX.buildSlice (ps := #[]) rfl (bs_bool_0 )) (by rintro _ _ ⟨g11, rfl, rfl⟩; intro w h; exact h.drop3.drop2.drop1.tail) ?_; rintro _ _ ⟨g11, rfl, rfl⟩
       refine TR.hp (fun _ h => blk_row (k := 1) (m := 0) h rfl (by decide)) ?_
       refine TR.o rfl rfl wt0 (OpX.append (bytes := 1) tsl_bool (by decide) (by decide) rfl hr2.cons.cons.cons.cons.cons.cons (bools_one _) (by omega) (zs := D.map bv) rfl) (by rintro v35 _ rfl; intro w h; exact h.drop3.drop2.drop1.tail) ?_; rintro v35 _ rfl
       refine TR.know (fun _ h => row1 h) (fun o35 => (TR.hp (fun _ h => row_lenM h) ?_))
       refine TR.o rfl rfl wt0 (OpX.append (bytes := 1) tsl_bool (by decide) (by decide) rfl rw3 (bools_one [b]) (by omega) (zs := (D ++ [b]).map bv) (by rw [List.map_append]; rfl)) (by rintro v36 _ rfl; intro w h; exact h.drop3.drop2.drop1.tail) ?_; rintro v36 _ rfl
       refine TR.know (fun _ h => row1 h) (fun o36 => (TR.hp (fun _ h => row_lenM h) (TR.p rfl rfl wt0 (op_build (ps := #[(0, _), (1, _)]) rfl (bl_sealskinref03_Wide_01 _ _)) (TR.hp (fun _ h => h.pick4) ?_))))
       refine TR.z0 rfl wt0 (OpX.storeS tst_sealskinref03_Wide rfl rfl rfl rfl rfl (by first | exact (List.all_eq_true.1 rfl) | (intro u hu; simp only [List.mem_cons, List.not_mem_nil, or_false] at hu; rcases hu with rfl | rfl <;> assumption))) ?_; rintro _ _ rfl
       refine TR.nil (TQ.then (TC.ret ?_))
       refine retc tst_sealskinref03_Wide rfl rfl m0 rfl (fun w' hp => ?_)
       exact ⟨_, _, rfl, ⟨_, _, rfl, by assumption, by assumption, rfl⟩, (hp.drop5.drop4.drop3.tail.pick1)⟩
      ·refine TR.o rfl rfl wt0 (OpX.buildSlice (ps := #[]) rfl (bs_bool_0 )) (by rintro _ _ ⟨g11, rfl, rfl⟩; intro w h; exact h.drop3.drop2.drop1.tail) ?_; rintro _ _ ⟨g11, rfl, rfl⟩
       refine TR.hp (fun _ h => blk_row (k := 1) (m := 0) h rfl (by decide)) (TR.hp (fun _ h => h.pick3) ?_)
       refine TR.o rfl rfl wt0 (OpX.append (bytes := 16) tsl_string (by decide) (by decide) rfl rw2 (strs_one [[]]) (by omega) (zs := (P ++ [[]]).map sv) (by rw [List.map_append]; rfl)) (by rintro v37 _ rfl; intro w h; exact h.drop3.drop2.drop1.tail) ?_; rintro v37 _ rfl
       refine TR.know (fun _ h => row1 h) (fun o37 => (TR.hp (fun _ h => row_lenM h) (TR.hp (fun _ h => h.pick1) ?_)))
       refine TR.o rfl rfl wt0 (OpX.append (bytes := 1) tsl_bool (by decide) (by decide) rfl hr2.cons.cons.cons.cons.cons.cons (bools_one _) (by omega) (zs := D.map bv) rfl) (by rintro v38 _ rfl; intro w h; exact h.drop3.drop2.drop1.tail) ?_; rintro v38 _ rfl
       refine TR.know (fun _ h => row1 h) (fun o38 => (TR.hp (fun _ h => row_lenM h) ?_))
       refine TR.o rfl rfl wt0 (OpX.append (bytes := 1) tsl_bool (by decide) (by decide) rfl rw3 (bools_one [b]) (by omega) (zs := (D ++ [b]).map bv) (by rw [List.map_append]; rfl)) (by rintro v39 _ rfl; intro w h; exact h.drop3.drop2.drop1.tail) ?_; rintro v39 _ rfl
       refine TR.know (fun _ h => row1 h) (fun o39 => (TR.hp (fun _ h => row_lenM h) (TR.p rfl rfl wt0 (op_build (ps := #[(0, _), (1, _)]) rfl (bl_sealskinref03_Wide_01 _ _)) (TR.hp (fun _ h => h.pick4) ?_))))
       refine TR.z0 rfl wt0 (OpX.storeS tst_sealskinref03_Wide rfl rfl rfl rfl rfl (by first | exact (List.all_eq_true.1 rfl) | (intro u hu; simp only [List.mem_cons, List.not_mem_nil, or_false] at hu; rcases hu with rfl | rfl <;> assumption))) ?_; rintro _ _ rfl
       refine TR.nil (TQ.then (TC.ret ?_))
       refine retc tst_sealskinref03_Wide rfl rfl m0 rfl (fun w' hp => ?_)
       exact ⟨_, _, rfl, ⟨_, _, rfl, by assumption, by assumption, rfl⟩, (hp.drop5.drop4.drop3.tail.pick1)⟩
     ·refine TR.o rfl rfl wt0 (OpX.buildSlice (ps := #[]) rfl (bs_bool_0 )) (by rintro _ _ ⟨g11, rfl, rfl⟩; intro w h; exact h.drop2.drop1.tail) ?_; rintro _ _ ⟨g11, rfl, rfl⟩
      refine TR.hp (fun _ h => blk_row (k := 1) (m := 0) h rfl (by decide)) ?_
      refine TR.o rfl rfl wt0 (OpX.buildSlice (ps := #[(0, _)]) rfl (bs_string_1 _)) (by rintro _ _ ⟨g9, rfl, rfl⟩; intro w h; exact h.drop3.drop2.drop1.tail) ?_; rintro _ _ ⟨g9, rfl, rfl⟩
      refine TR.hp (fun _ h => blk_row (k := 1) (m := 1) h rfl (by decide)) (TR.hp (fun _ h => h.pick3) ?_)
      refine TR.o rfl rfl wt0 (OpX.append (bytes := 16) tsl_string (by decide) (by decide) rfl rw1 (strs_one [[]]) (by omega) (zs := (P ++ [[]]).map sv) (by rw [List.map_append]; rfl)) (by rintro v40 _ rfl; intro w h; exact h.drop3.drop2.drop1.tail) ?_; rintro v40 _ rfl
      refine TR.know (fun _ h => row1 h) (fun o40 => (TR.hp (fun _ h => row_lenM h) (TR.hp (fun _ h => h.pick2) ?_)))
      refine TR.o rfl rfl wt0 (OpX.append (bytes := 1) tsl_bool (by decide) (by decide) rfl hr2.cons.cons.cons.cons.cons.cons (bools_one _) (by omega) (zs := D.map bv) rfl) (by rintro v41 _ rfl; intro w h; exact h.drop3.drop2.drop1.tail) ?_; rintro v41 _ rfl
      refine TR.know (fun _ h => row1 h) (fun o41 => (TR.hp (fun _ h => row_lenM h) ?_))
      refine TR.o rfl rfl wt0 (OpX.append (bytes := 1) tsl_bool (by decide) (by decide) rfl rw3 (bools_one [b]) (by omega) (zs := (D ++ [b]).map bv) (by rw [List.map_append]; rfl)) (by rintro v42 _ rfl; intro w h; exact h.drop3.drop2.drop1.tail) ?_; rintro v42 _ rfl
      refine TR.know (fun _ h => row1 h) (fun o42 => (TR.hp (fun _ h => row_lenM h) (TR.p rfl rfl wt0 (op_build (ps := #[(0, _), (1, _)]) rfl (bl_sealskinref03_Wide_01 _ _)) (TR.hp (fun _ h => h.pick4) ?_))))
      refine TR.z0 rfl wt0 (OpX.storeS tst_sealskinref03_Wide rfl rfl rfl rfl rfl (by first | exact (List.all_eq_true.1 rfl) | (intro u hu; simp only [List.mem_cons, List.not_mem_nil, or_false] at hu; rcases hu with rfl | rfl <;> assumption))) ?_; rintro _ _ rfl
      refine TR.nil (TQ.then (TC.ret ?_))
      refine retc tst_sealskinref03_Wide rfl rfl m0 rfl (fun w' hp => ?_)
      exact ⟨_, _, rfl, ⟨_, _, rfl, by assumption, by assumption, rfl⟩, (hp.drop5.drop4.drop3.tail.pick1)⟩
  ·refine TR.alt ?_ ?_
   ·refine TR.o rfl rfl wt0 (OpX.buildSlice (ps := #[(0, _)]) rfl (bs_string_1 _)) (by rintro _ _ ⟨g9, rfl, rfl⟩; intro w h; exact h.drop1.tail) ?_; rintro _ _ ⟨g9, rfl, rfl⟩
    refine TR.hp (fun _ h => blk_row (k := 1) (m := 1) h rfl (by decide)) ?_
    refine TR.alt ?_ ?_
    ·refine TR.hp (fun _ h => h.pick1) ?_
     refine TR.o rfl rfl wt0 (OpX.append (bytes := 16) tsl_string (by decide) (by decide) rfl hr.cons.cons.cons.cons (strs_one _) (by omega) (zs := P.map sv) rfl) (by rintro v43 _ rfl; intro w h; exact h.drop1.tail) ?_; rintro v43 _ rfl
     refine TR.know (fun _ h => row1 h) (fun o43 => (TR.hp (fun _ h => row_lenM h) ?_))
     refine TR.alt ?_ ?_
     ·refine TR.o rfl rfl wt0 (OpX.append (bytes := 16) tsl_string (by decide) (by decide) rfl rw1 (strs_one [[]]) (by omega) (zs := (P ++ [[]]).map sv) (by rw [List.map_append]; rfl)) (by rintro v44 _ rfl; intro w h; exact h.drop1.tail) ?_; rintro v44 _ rfl
      refine TR.know (fun _ h => row1 h) (fun o44 => (TR.hp (fun _ h => row_lenM h) ?_))
      refine TR.alt ?_ ?_
      ·refine TR.o rfl rfl wt0 (OpX.buildSlice (ps := #[]) rfl (bs_bool_0 )) (by rintro _ _ ⟨g11, rfl, rfl⟩; intro w h; exact h.drop2.drop1.tail) ?_; rintro _ _ ⟨g11, rfl, rfl⟩
       refine TR.hp (fun _ h => blk_row (k := 1) (m := 0) h rfl (by decide)) ?_
       refine TR.alt ?_ ?_
       ·refine TR.o rfl rfl wt0 (OpX.append (bytes := 1) tsl_bool (by decide) (by decide) rfl hr2.cons.cons.cons.cons.cons (bools_one _) (by omega) (zs := D.map bv) rfl) (by rintro v45 _ rfl; intro w h; exact h.drop2.drop1.tail) ?_; rintro v45 _ rfl
        refine TR.know (fun _ h => row1 h) (fun o45 => (TR.hp (fun _ h => row_lenM h) ?_))
        refine TR.o rfl rfl wt0 (OpX.buildSlice (ps := #[(0, _)]) rfl (bs_bool_1 _)) (by rintro _ _ ⟨g16, rfl, rfl⟩; intro w h; exact h.drop3.drop2.drop1.tail) ?_; rintro _ _ ⟨g16, rfl, rfl⟩
        refine TR.hp (fun _ h => blk_row (k := 1) (m := 1) h rfl (by decide)) (TR.hp (fun _ h => h.pick1) ?_)
        refine TR.o rfl rfl wt0 (OpX.append (bytes := 1) tsl_bool (by decide) (by decide) rfl rw1 (bools_one [b]) (by omega) (zs := (D ++ [b]).map bv) (by rw [List.map_append]; rfl)) (by rintro v46 _ rfl; intro w h; exact h.drop3.drop2.drop1.tail) ?_; rintro v46 _ rfl
        refine TR.know (fun _ h => row1 h) (fun o46 => (TR.hp (fun _ h => row_lenM h) (TR.p rfl rfl wt0 (op_build (ps := #[(0, _), (1, _)]) rfl (bl_sealskinref03_Wide_01 _ _)) (TR.hp (fun _ h => h.pick4) ?_))))
        refine TR.z0 rfl wt0 (OpX.storeS tst_sealskinref03_Wide rfl rfl rfl rfl rfl (by first | exact (List.all_eq_true.1 rfl) | (intro u hu; simp only [List.mem_cons, List.not_mem_nil, or_false] at hu; rcases hu with rfl | rfl <;> assumption))) ?_; rintro _ _ rfl
        refine TR.nil (TQ.then (TC.ret ?_))
        refine retc tst_sealskinref03_Wide rfl rfl m0 rfl (fun w' hp => ?_)
        exact ⟨_, _, rfl, ⟨_, _, rfl, by assumption, by assumption, rfl⟩, (hp.drop5.drop4.drop2.tail.pick1)⟩
       ·refine TR.o rfl rfl wt0 (OpX.buildSlice (ps := #[(0, _)]) rfl (bs_bool_1 _)) (by rintro _ _ ⟨g16, rfl, rfl⟩; intro w h; exact h.drop3.drop2.drop1.tail) ?_; rintro _ _ ⟨g16, rfl, rfl⟩
        refine TR.hp (fun _ h => blk_row (k := 1) (m := 1) h rfl (by decide)) (TR.hp (fun _ h => h.pick1) ?_)
        refine TR.o rfl rfl wt0 (OpX.append (bytes := 1) tsl_bool (by decide) (by decide) rfl hr2.cons.cons.cons.cons.cons.cons (bools_one _) (by omega) (zs := D.map bv) rfl) (by rintro v47 _ rfl; intro w h; exact h.drop3.drop2.drop1.tail) ?_; rintro v47 _ rfl
        refine TR.know (fun _ h => row1 h) (fun o47 => (TR.hp (fun _ h => row_lenM h) ?_))
        refine TR.o rfl rfl wt0 (OpX.append (bytes := 1) tsl_bool (by decide) (by decide) rfl rw1 (bools_one [b]) (by omega) (zs := (D ++ [b]).map bv) (by rw [List.map_append]; rfl)) (by rintro v48 _ rfl; intro w h; exact h.drop3.drop2.drop1.tail) ?_; rintro v48 _ rfl
        refine TR.know (fun _ h => row1 h) (fun o48 => (TR.hp (fun _ h => row_lenM h) (TR.p rfl rfl wt0 (op_build (ps := #[(0, _), (1, _)]) rfl (bl_sealskinref03_Wide_01 _ _)) (TR.hp (fun _ h => h.pick4) ?_))))
        refine TR.z0 rfl wt0 (OpX.storeS tst_sealskinref03_Wide rfl rfl rfl rfl rfl (by first | exact (List.all_eq_true.1 rfl) | (intro u hu; simp only [List.mem_cons, List.not_mem_nil, or_false] at hu; rcases hu with rfl | rfl <;> assumption))) ?_; rintro _ _ rfl
        refine TR.nil (TQ.then (TC.ret ?_))
        refine retc tst_sealskinref03_Wide rfl rfl m0 rfl (fun w' hp => ?_)
        exact ⟨_, _, rfl, ⟨_, _, rfl, by assumption, by assumption, rfl⟩, (hp.drop5.drop4.drop2.tail.pick1)⟩
      ·refine TR.o rfl rfl wt0 (OpX.buildSlice (ps := #[(0, _)]) rfl (bs_bool_1 _)) (by rintro _ _ ⟨g16, rfl, rfl⟩; intro w h; exact h.drop2.drop1.tail) ?_; rintro _ _ ⟨g16, rfl, rfl⟩
       refine TR.hp (fun _ h => blk_row (k := 1) (m := 1) h rfl (by decide)) ?_
       refine TR.o rfl rfl wt0 (OpX.buildSlice (ps := #[]) rfl (bs_bool_0 )) (by rintro _ _ ⟨g11, rfl, rfl⟩; intro w h; exact h.drop3.drop2.drop1.tail) ?_; rintro _ _ ⟨g11, rfl, rfl⟩
       refine TR.hp (fun _ h => blk_row (k := 1) (m := 0) h rfl (by decide)) ?_
       refine TR.o rfl rfl wt0 (OpX.append (bytes := 1) tsl_bool (by decide) (by decide) rfl hr2.cons.cons.cons.cons.cons.cons (bools_one _) (by omega) (zs := D.map bv) rfl) (by rintro v49 _ rfl; intro w h; exact h.drop3.drop2.drop1.tail) ?_; rintro v49 _ rfl
       refine TR.know (fun _ h => row1 h) (fun o49 => (TR.hp (fun _ h => row_lenM h) ?_))
       refine TR.o rfl rfl wt0 (OpX.append (bytes := 1) tsl_bool (by decide) (by decide) rfl rw1 (bools_one [b]) (by omega) (zs := (D ++ [b]).map bv) (by rw [List.map_append]; rfl)) (by rintro v50 _ rfl; intro w h; exact h.drop3.drop2.drop1.tail) ?_; rintro v50 _ rfl
       refine TR.know (fun _ h => row1 h) (fun o50 => (TR.hp (fun _ h => row_lenM h) (TR.p rfl rfl wt0 (op_build (ps := #[(0, _), (1, _)]) rfl (bl_sealskinref03_Wide_01 _ _)) (TR.hp (fun _ h => h.pick4) ?_))))
       refine TR.z0 rfl wt0 (OpX.storeS tst_sealskinref03_Wide rfl rfl rfl rfl rfl (by first | exact (List.all_eq_true.1 rfl) | (intro u hu; simp only [List.mem_cons, List.not_mem_nil, or_false] at hu; rcases hu with rfl | rfl <;> assumption))) ?_; rintro _ _ rfl
       refine TR.nil (TQ.then (TC.ret ?_))
       refine retc tst_sealskinref03_Wide rfl rfl m0 rfl (fun w' hp => ?_)
       exact ⟨_, _, rfl, ⟨_, _, rfl, by assumption, by assumption, rfl⟩, (hp.drop5.drop4.drop2.tail.pick1)⟩
     ·refine TR.alt ?_ ?_
      ·refine TR.o rfl rfl wt0 (OpX.buildSlice (ps := #[]) rfl (bs_bool_0 )) (by rintro _ _ ⟨g11, rfl, rfl⟩; intro w h; exact h.drop2.drop1.tail) ?_; rintro _ _ ⟨g11, rfl, rfl⟩
       refine TR.hp (fun _ h => blk_row (k := 1) (m := 0) h rfl (by decide)) ?_
       refine TR.alt ?_ ?_
       ·refine TR.hp (fun _ h => h.pick1) ?_
        refine TR.o rfl rfl wt0 (OpX.append (bytes := 16) tsl_string (by decide) (by decide) rfl rw2 (strs_one [[]]) (by omega) (zs := (P ++ [[]]).map sv) (by rw [List.map_append]; rfl)) (by rintro v51 _ rfl; intro w h; exact h.drop2.drop1.tail) ?_; rintro v51 _ rfl
        refine TR.know (fun _ h => row1 h) (fun o51 => (TR.hp (fun _ h => row_lenM h) ?_))
        refine TR.alt ?_ ?_
        ·refine TR.hp (fun _ h => h.pick1) ?_
         refine TR.o rfl rfl wt0 (OpX.append (bytes := 1) tsl_bool (by decide) (by decide) rfl hr2.cons.cons.cons.cons.cons (bools_one _) (by omega) (zs := D.map bv) rfl) (by rintro v52 _ rfl; intro w h; exact h.drop2.drop1.tail) ?_; rintro v52 _ rfl
         refine TR.know (fun _ h => row1 h) (fun o52 => (TR.hp (fun _ h => row_lenM h) ?_))
         refine TR.o rfl rfl wt0 (OpX.buildSlice (ps := #[(0, _)]) rfl (bs_bool_1 _)) (by rintro _ _ ⟨g16, rfl, rfl⟩; intro w h; exact h.drop3.drop2.drop1.tail) ?_; rintro _ _ ⟨g16, rfl, rfl⟩
         refine TR.hp (fun _ h => blk_row (k := 1) (m := 1) h rfl (by decide)) (TR.hp (fun _ h => h.pick1) ?_)
         refine TR.o rfl rfl wt0 (OpX.append (bytes := 1) tsl_bool (by decide) (by decide) rfl rw1 (bools_one [b]) (by omega) (zs := (D ++ [b]).map bv) (by rw [List.map_append]; rfl)) (by rintro v53 _ rfl; intro w h; exact h.drop3.drop2.drop1.tail) ?_; rintro v53 _ rfl
         refine TR.know (fun _ h => row1 h) (fun o53 => (TR.hp (fun _ h => row_lenM h) (TR.p rfl rfl wt0 (op_build (ps := #[(0, _), (1, _)]) rfl (bl_sealskinref03_Wide_01 _ _)) (TR.hp (fun _ h => h.pick4) ?_))))
         refine TR.z0 rfl wt0 (OpX.storeS tst_sealskinref03_Wide rfl rfl rfl rfl rfl (by first | exact (List.all_eq_true.1 rfl) | (intro u hu; simp only [List.mem_cons, List.not_mem_nil, or_false] at hu; rcases hu with rfl | rfl <;> assumption))) ?_; rintro _ _ rfl
         refine TR.nil (TQ.then (TC.ret ?_))
         refine retc tst_sealskinref03_Wide rfl rfl m0 rfl (fun w' hp => ?_)
         exact ⟨_, _, rfl, ⟨_, _, rfl, by assumption, by assumption, rfl⟩, (hp.drop5.drop4.drop2.tail.pick1)⟩
        ·refine TR.o rfl rfl wt0 (OpX.buildSlice (ps := #[(0, _)]) rfl (bs_bool_1 _)) (by rintro _ _ ⟨g16, rfl, rfl⟩; intro w h; exact h.drop3.drop2.drop1.tail) ?_; rintro _ _ ⟨g16, rfl, rfl⟩
         refine TR.hp (fun _ h => blk_row (k := 1) (m := 1) h rfl (by decide)) (TR.hp (fun _ h => h.pick2) ?_)
         refine TR.o rfl rfl wt0 (OpX.append (bytes := 1) tsl_bool (by decide) (by decide) rfl hr2.cons.cons.cons.cons.cons.cons (bools_one _) (by omega) (zs := D.map bv) rfl) (by rintro v54 _ rfl; intro w h; exact h.drop3.drop2.drop1.tail) ?_; rintro v54 _ rfl
         refine TR.know (fun _ h => row1 h) (fun o54 => (TR.hp (fun _ h => row_lenM h) ?_))
         refine TR.o rfl rfl wt0 (OpX.append (bytes := 1) tsl_bool (by decide) (by decide) rfl rw1 (bools_one [b]) (by omega) (zs := (D ++ [b]).map bv) (by rw [List.map_append]; rfl)) (by rintro v55 _ rfl; intro w h; exact h.drop3.drop2.drop1.tail) ?_; rintro v55 _ rfl
         refine TR.know (fun _ h => row1 h) (fun o55 => (TR.hp (fun _ h => row_lenM h) (TR.p rfl rfl wt0 (op_build (ps := #[(0, _), (1, _)]) rfl (bl_sealskinref03_Wide_01 _ _)) (TR.hp (fun _ h => h.pick4) ?_))))
         refine TR.z0 rfl wt0 (OpX.storeS tst_sealskinref03_Wide rfl rfl rfl rfl rfl (by first | exact (List.all_eq_true.1 rfl) | (intro u hu; simp only [List.mem_cons, List.not_mem_nil, or_false] at hu; rcases hu with rfl | rfl <;> assumption))) ?_; rintro _ _ rfl
         refine TR.nil (TQ.then (TC.ret ?_))
         refine retc tst_sealskinref03_Wide rfl rfl m0 rfl (fun w' hp => ?_)
         exact ⟨_, _, rfl, ⟨_, _, rfl, by assumption, by assumption, rfl⟩, (hp.drop5.drop4.drop2.tail.pick1)⟩
       ·refine TR.o rfl rfl wt0 (OpX.buildSlice (ps := #[(0, _)]) rfl (bs_bool_1 _)) (by rintro _ _ ⟨g16, rfl, rfl⟩; intro w h; exact h.drop3.drop2.drop1.tail) ?_; rintro _ _ ⟨g16, rfl, rfl⟩
        refine TR.hp (fun _ h => blk_row (k := 1) (m := 1) h rfl (by decide)) (TR.hp (fun _ h => h.pick2) ?_)
        refine TR.o rfl rfl wt0 (OpX.append (bytes := 16) tsl_string (by decide) (by decide) rfl rw3 (strs_one [[]]) (by omega) (zs := (P ++ [[]]).map sv) (by rw [List.map_append]; rfl)) (by rintro v56 _ rfl; intro w h; exact h.drop3.drop2.drop1.tail) ?_; rintro v56 _ rfl
        refine TR.know (fun _ h => row1 h) (fun o56 => (TR.hp (fun _ h => row_lenM h) (TR.hp (fun _ h => h.pick2) ?_)))
        refine TR.o rfl rfl wt0 (OpX.append (bytes := 1) tsl_bool (by decide) (by decide) rfl hr2.cons.cons.cons.cons.cons.cons (bools_one _) (by omega) (zs := D.map bv) rfl) (by rintro v57 _ rfl; intro w h; exact h.drop3.drop2.drop1.tail) ?_; rintro v57 _ rfl
        refine TR.know (fun _ h => row1 h) (fun o57 => (TR.hp (fun _ h => row_lenM h) ?_))
        refine TR.o rfl rfl wt0 (OpX.append (bytes := 1) tsl_bool (by decide) (by decide) rfl rw2 (bools_one [b]) (by omega) (zs := (D ++ [b]).map bv) (by rw [List.map_append]; rfl)) (by rintro v58 _ rfl; intro w h; exact h.drop3.drop2.drop1.tail) ?_; rintro v58 _ rfl
        refine TR.know (fun _ h => row1 h) (fun o58 => (TR.hp (fun _ h => row_lenM h) (TR.p rfl rfl wt0 (op_build (ps := #[(0, _), (1, _)]) rfl (bl_sealskinref03_Wide_01 _ _)) (TR.hp (fun _ h => h.pick4) ?_))))
        refine TR.z0 rfl wt0 (OpX.storeS tst_sealskinref03_Wide rfl rfl rfl rfl rfl (by first | exact (List.all_eq_true.1 rfl) | (intro u hu; simp only [List.mem_cons, List.not_mem_nil, or_false] at hu; rcases hu with rfl | rfl <;> assumption))) ?_; rintro _ _ rfl
        refine TR.nil (TQ.then (TC.ret ?_))
        refine retc tst_sealskinref03_Wide rfl rfl m0 rfl (fun w' hp => ?_)
        exact ⟨_, _, rfl, ⟨_, _, rfl, by assumption, by assumption, rfl⟩, (hp.drop5.drop4.drop3.tail.pick1)⟩
      ·refine TR.o rfl rfl wt0 (OpX.buildSlice (ps := #[(0, _)]) rfl (bs_bool_1 _)) (by rintro _ _ ⟨g16, rfl, rfl⟩; intro w h; exact h.drop2.drop1.tail) ?_; rintro _ _ ⟨g16, rfl, rfl⟩
       refine TR.hp (fun _ h => blk_row (k := 1) (m := 1) h rfl (by decide)) ?_
       refine TR.alt ?_ ?_
       ·refine TR.hp (fun _ h => h.pick1) ?_
        refine TR.o rfl rfl wt0 (OpX.append (bytes := 16) tsl_string (by decide) (by decide) rfl rw2 (strs_one [[]]) (by omega) (zs := (P ++ [[]]).map sv) (by rw [List.map_append]; rfl)) (by rintro v59 _ rfl; intro w h; exact h.drop2.drop1.tail) ?_; rintro v59 _ rfl
        refine TR.know (fun _ h => row1 h) (fun o59 => (TR.hp (fun _ h => row_lenM h) ?_))
        refine TR.o rfl rfl wt0 (OpX.buildSlice (ps := #[]) rfl (bs_bool_0 )) (by rintro _ _ ⟨g11, rfl, rfl⟩; intro w h; exact h.drop3.drop2.drop1.tail) ?_; rintro _ _ ⟨g11, rfl, rfl⟩
        refine TR.hp (fun _ h => blk_row (k := 1) (m := 0) h rfl (by decide)) ?_
        refine TR.o rfl rfl wt0 (OpX.append (bytes := 1) tsl_bool (by decide) (by decide) rfl hr2.cons.cons.cons.cons.cons.cons (bools_one _) (by omega) (zs := D.map bv) rfl) (by rintro v60 _ rfl; intro w h; exact h.drop3.drop2.drop1.tail) ?_; rintro v60 _ rfl
        refine TR.know (fun _ h => row1 h) (fun o60 => (TR.hp (fun _ h => row_lenM h) ?_))
        refine TR.o rfl rfl wt0 (OpX.append (bytes := 1) tsl_bool (by decide) (by decide) rfl rw2 (bools_one [b]) (by omega) (zs := (D ++ [b]).map bv) (by rw [List.map_append]; rfl)) (by rintro v61 _ rfl; intro w h; exact h.drop3.drop2.drop1.tail) ?_; rintro v61 _ rfl
        refine TR.know (fun _ h => row1 h) (fun o61 => (TR.hp (fun _ h => row_lenM h) (TR.p rfl rfl wt0 (op_build (ps := #[(0, _), (1, _)]) rfl (bl_sealskinref03_Wide_01 _ _)) (TR.hp (fun _ h => h.pick4) ?_))))
        refine TR.z0 rfl wt0 (OpX.storeS tst_sealskinref03_Wide rfl rfl rfl rfl rfl (by first | exact (List.all_eq_true.1 rfl) | (intro u hu; simp only [List.mem_cons, List.not_mem_nil, or_false] at hu; rcases hu with rfl | rfl <;> assumption))) ?_; rintro _ _ rfl
        refine TR.nil (TQ.then (TC.ret ?_))
        refine retc tst_sealskinref03_Wide rfl rfl m0 rfl (fun w' hp => ?_)
        exact ⟨_, _, rfl, ⟨_, _, rfl, by assumption, by assumption, rfl⟩, (hp.drop5.drop4.drop3.tail.pick1)⟩
       ·refine TR.o rfl rfl wt0 (OpX.buildSlice (ps := #[]) rfl (bs_bool_0 )) (by rintro _ _ ⟨g11, rfl, rfl⟩; intro w h; exact h.drop3.drop2.drop1.tail) ?_; rintro _ _ ⟨g11, rfl, rfl⟩
        refine TR.hp (fun _ h => blk_row (k := 1) (m := 0) h rfl (by decide)) (TR.hp (fun _ h => h.pick2) ?_)
        refine TR.o rfl rfl wt0 (OpX.append (bytes := 16) tsl_string (by decide) (by decide) rfl rw3 (strs_one [[]]) (by omega) (zs := (P ++ [[]]).map sv) (by rw [List.map_append]; rfl)) (by rintro v62 _ rfl; intro w h; exact h.drop3.drop2.drop1.tail) ?_; rintro v62 _ rfl
        refine TR.know (fun _ h => row1 h) (fun o62 => (TR.hp (fun _ h => row_lenM h) (TR.hp (fun _ h => h.pick1) ?_)))
        refine TR.o rfl rfl wt0 (OpX.append (bytes := 1) tsl_bool (by decide) (by decide) rfl hr2.cons.cons.cons.cons.cons.cons (bools_one _) (by omega) (zs := D.map bv) rfl) (by rintro v63 _ rfl; intro w h; exact h.drop3.drop2.drop1.tail) ?_; rintro v63 _ rfl
        refine TR.know (fun _ h => row1 h) (fun o63 => (TR.hp (fun _ h => row_lenM h) ?_))
        refine TR.o rfl rfl wt0 (OpX.append (bytes := 1) tsl_bool (by decide) (by decide) rfl rw2 (bools_one [b]) (by omega) (zs := (D ++ [b]).map bv) (by rw [List.map_append]; rfl)) (by rintro v64 _ rfl; intro w h; exact h.drop3.drop2.drop1.tail) ?_; rintro v64 _ rfl
        refine TR.know (fun _ h => row1 h) (fun o64 => (TR.hp (fun _ h => row_lenM h) (TR.p rfl rfl wt0 (op_build (ps := #[(0, _), (1, _)]) rfl (bl_sealskinref03_Wide_01 _ _)) (TR.hp (fun _ h => h.pick4) ?_))))
        refine TR.z0 rfl wt0 (OpX.storeS tst_sealskinref03_Wide rfl rfl rfl rfl rfl (by first | exact (List.all_eq_true.1 rfl) | (intro u hu; simp only [List.mem_cons, List.not_mem_nil, or_false] at hu; rcases hu with rfl | rfl <;> assumption))) ?_; rintro _ _ rfl
        refine TR.nil (TQ.then (TC.ret ?_))
        refine retc tst_sealskinref03_Wide rfl rfl m0 rfl (fun w' hp => ?_)
        exact ⟨_, _, rfl, ⟨_, _, rfl, by assumption, by assumption, rfl⟩, (hp.drop5.drop4.drop3.tail.pick1)⟩
    ·refine TR.alt ?_ ?_
     ·refine TR.o rfl rfl wt0 (OpX.buildSlice (ps := #[]) rfl (bs_bool_0 )) (by rintro _ _ ⟨g11, rfl, rfl⟩; intro w h; exact h.drop2.drop1.tail) ?_; rintro _ _ ⟨g11, rfl, rfl⟩
      refine TR.hp (fun _ h => blk_row (k := 1) (m := 0) h rfl (by decide)) ?_
      refine TR.alt ?_ ?_
      ·refine TR.hp (fun _ h => h.pick2) ?_
       refine TR.o rfl rfl wt0 (OpX.append (bytes := 16) tsl_string (by decide) (by decide) rfl hr.cons.cons.cons.cons.cons (strs_one _) (by omega) (zs := P.map sv) rfl) (by rintro v65 _ rfl; intro w h; exact h.drop2.drop1.tail) ?_; rintro v65 _ rfl
       refine TR.know (fun _ h => row1 h) (fun o65 => (TR.hp (fun _ h => row_lenM h) ?_))
       refine TR.alt ?_ ?_
       ·refine TR.o rfl rfl wt0 (OpX.append (bytes := 16) tsl_string (by decide) (by decide) rfl rw2 (strs_one [[]]) (by omega) (zs := (P ++ [[]]).map sv) (by rw [List.map_append]; rfl)) (by rintro v66 _ rfl; intro w h; exact h.drop2.drop1.tail) ?_; rintro v66 _ rfl
        refine TR.know (fun _ h => row1 h) (fun o66 => (TR.hp (fun _ h => row_lenM h) ?_))
        refine TR.alt ?_ ?_
        ·refine TR.hp (fun _ h => h.pick1) ?_
         refine TR.o rfl rfl wt0 (OpX.append (bytes := 1) tsl_bool (by decide) (by decide) rfl hr2.cons.cons.cons.cons.cons (bools_one _) (by omega) (zs := D.map bv) rfl) (by rintro v67 _ rfl; intro w h; exact h.drop2.drop1.tail) ?_; rintro v67 _ rfl
         refine TR.know (fun _ h => row1 h) (fun o67 => (TR.hp (fun _ h => row_lenM h) ?_))
         refine TR.o rfl rfl wt0 (OpX.buildSlice (ps := #[(0, _)]) rfl (bs_bool_1 _)) (by rintro _ _ ⟨g16, rfl, rfl⟩; intro w h; exact h.drop3.drop2.drop1.tail) ?_; rintro _ _ ⟨g16, rfl, rfl⟩
         refine TR.hp (fun _ h => blk_row (k := 1) (m := 1) h rfl (by decide)) (TR.hp (fun _ h => h.pick1) ?_)
         refine TR.o rfl rfl wt0 (OpX.append (bytes := 1) tsl_bool (by decide) (by decide) rfl rw1 (bools_one [b]) (by omega) (zs := (D ++ [b]).map bv) (by rw [List.map_append]; rfl)) (by rintro v68 _ rfl; intro w h; exact h.drop3.drop2.drop1.tail) ?_; rintro v68 _ rfl
         refine TR.know (fun _ h => row1 h) (fun o68 => (TR.hp (fun _ h => row_lenM h) (TR.p rfl rfl wt0 (op_build (ps := #[(0, _), (1, _)]) rfl (bl_sealskinref03_Wide_01 _ _)) (TR.hp (fun _ h => h.pick4) ?_))))
         refine TR.z0 rfl wt0 (OpX.storeS tst_sealskinref03_Wide rfl rfl rfl rfl rfl (by first | exact (List.all_eq_true.1 rfl) | (intro u hu; simp only [List.mem_cons, List.not_mem_nil, or_false] at hu; rcases hu with rfl | rfl <;> assumption))) ?_; rintro _ _ rfl
         refine TR.nil (TQ.then (TC.ret ?_))
         refine retc tst_sealskinref03_Wide rfl rfl m0 rfl (fun w' hp => ?_)
         exact ⟨_, _, rfl, ⟨_, _, rfl, by assumption, by assumption, rfl⟩, (hp.drop5.drop4.drop2.tail.pick1)⟩
        ·refine TR.o rfl rfl wt0 (OpX.buildSlice (ps := #[(0, _)]) rfl (bs_bool_1 _)) (by rintro _ _ ⟨g16, rfl, rfl⟩; intro w h; exact h.drop3.drop2.drop1.tail) ?_; rintro _ _ ⟨g16, rfl, rfl⟩
         refine TR.hp (fun _ h => blk_row (k := 1) (m := 1) h rfl (by decide)) (TR.hp (fun _ h => h.pick2) ?_)
         refine TR.o rfl rfl wt0 (OpX.append (bytes := 1) tsl_bool (by decide) (by decide) rfl hr2.cons.cons.cons.cons.cons.cons (bools_one _) (by omega) (zs := D.map bv) rfl) (by rintro v69 _ rfl; intro w h; exact h.drop3.drop2.drop1.tail) ?_; rintro v69 _ rfl
         refine TR.know (fun _ h => row1 h) (fun o69 => (TR.hp (fun _ h => row_lenM h) ?_))
         refine TR.o rfl rfl wt0 (OpX.append (bytes := 1) tsl_bool (by decide) (by decide) rfl rw1 (bools_one [b]) (by omega) (zs := (D ++ [b]).map bv) (by rw [List.map_append]; rfl)) (by rintro v70 _ rfl; intro w h; exact h.drop3.drop2.drop1.tail) ?_; rintro v70 _ rfl
         refine TR.know (fun _ h => row1 h) (fun o70 => (TR.hp (fun _ h => row_lenM h) (TR.p rfl rfl wt0 (op_build (ps := #[(0, _), (1, _)]) rfl (bl_sealskinref03_Wide_01 _ _)) (TR.hp (fun _ h => h.pick4) ?_))))
         refine TR.z0 rfl wt0 (OpX.storeS tst_sealskinref03_Wide rfl rfl rfl rfl rfl (by first | exact (List.all_eq_true.1 rfl) | (intro u hu; simp only [List.mem_cons, List.not_mem_nil, or_false] at hu; rcases hu with rfl | rfl <;> assumption))) ?_; rintro _ _ rfl
         refine TR.nil (TQ.then (TC.ret ?_))
         refine retc tst_sealskinref03_Wide rfl rfl m0 rfl (fun w' hp => ?_)
         exact ⟨_, _, rfl, ⟨_, _, rfl, by assumption, by assumption, rfl⟩, (hp.drop5.drop4.drop2.tail.pick1)⟩
       ·refine TR.o rfl rfl wt0 (OpX.buildSlice (ps := #[(0, _)]) rfl (bs_bool_1 _)) (by rintro _ _ ⟨g16, rfl, rfl⟩; intro w h; exact h.drop3.drop2.drop1.tail) ?_; rintro _ _ ⟨g16, rfl, rfl⟩
        refine TR.hp (fun _ h => blk_row (k := 1) (m := 1) h rfl (by decide)) (TR.hp (fun _ h => h.pick1) ?_)
        refine TR.o rfl rfl wt0 (OpX.append (bytes := 16) tsl_string (by decide) (by decide) rfl rw3 (strs_one [[]]) (by omega) (zs := (P ++ [[]]).map sv) (by rw [List.map_append]; rfl)) (by rintro v71 _ rfl; intro w h; exact h.drop3.drop2.drop1.tail) ?_; rintro v71 _ rfl
        refine TR.know (fun _ h => row1 h) (fun o71 => (TR.hp (fun _ h => row_lenM h) (TR.hp (fun _ h => h.pick2) ?_)))
        refine TR.o rfl rfl wt0 (OpX.append (bytes := 1) tsl_bool (by decide) (by decide) rfl hr2.cons.cons.cons.cons.cons.cons (bools_one _) (by omega) (zs := D.map bv) rfl) (by rintro v72 _ rfl; intro w h; exact h.drop3.drop2.drop1.tail) ?_; rintro v72 _ rfl
        refine TR.know (fun _ h => row1 h) (fun o72 => (TR.hp (fun _ h => row_lenM h) ?_))
        refine TR.o rfl rfl wt0 (OpX.append (bytes := 1) tsl_bool (by decide) (by decide) rfl rw2 (bools_one [b]) (by omega) (zs := (D ++ [b]).map bv) (by rw [List.map_append]; rfl)) (by rintro v73 _ rfl; intro w h; exact h.drop3.drop2.drop1.tail) ?_; rintro v73 _ rfl
        refine TR.know (fun _ h => row1 h) (fun o73 => (TR.hp (fun _ h => row_lenM h) (TR.p rfl rfl wt0 (op_build (ps := #[(0, _), (1, _)]) rfl (bl_sealskinref03_Wide_01 _ _)) (TR.hp (fun _ h => h.pick4) ?_))))
        refine TR.z0 rfl wt0 (OpX.storeS tst_sealskinref03_Wide rfl rfl rfl rfl rfl (by first | exact (List.all_eq_true.1 rfl) | (intro u hu; simp only [List.mem_cons, List.not_mem_nil, or_false] at hu; rcases hu with rfl | rfl <;> assumption))) ?_; rintro _ _ rfl
        refine TR.nil (TQ.then (TC.ret ?_))
        refine retc tst_sealskinref03_Wide rfl rfl m0 rfl (fun w' hp => ?_)
        exact ⟨_, _, rfl, ⟨_, _, rfl, by assumption, by assumption, rfl⟩, (hp.drop5.drop4.drop3.tail.pick1)⟩
      ·refine TR.o rfl rfl wt0 (OpX.buildSlice (ps := #[(0, _)]) rfl (bs_bool_1 _)) (by rintro _ _ ⟨g16, rfl, rfl⟩; intro w h; exact h.drop3.drop2.drop1.tail) ?_; rintro _ _ ⟨g16, rfl, rfl⟩
       refine TR.hp (fun _ h => blk_row (k := 1) (m := 1) h rfl (by decide)) (TR.hp (fun _ h => h.pick3) ?_)
       refine TR.o rfl rfl wt0 (OpX.append (bytes := 16) tsl_string (by decide) (by decide) rfl hr.cons.cons.cons.cons.cons.cons (strs_one _) (by omega) (zs := P.map sv) rfl) (by rintro v74 _ rfl; intro w h; exact h.drop3.drop2.drop1.tail) ?_; rintro v74 _ rfl
       refine TR.know (fun _ h => row1 h) (fun o74 => (TR.hp (fun _ h => row_lenM h) ?_))
       refine TR.o rfl rfl wt0 (OpX.append (bytes := 16) tsl_string (by decide) (by decide) rfl rw3 (strs_one [[]]) (by omega) (zs := (P ++ [[]]).map sv) (by rw [List.map_append]; rfl)) (by rintro v75 _ rfl; intro w h; exact h.drop3.drop2.drop1.tail) ?_; rintro v75 _ rfl
       refine TR.know (fun _ h => row1 h) (fun o75 => (TR.hp (fun _ h => row_lenM h) (TR.hp (fun _ h => h.pick2) ?_)))
       refine TR.o rfl rfl wt0 (OpX.append (bytes := 1) tsl_bool (by decide) (by decide) rfl hr2.cons.cons.cons.cons.cons.cons (bools_one _) (by omega) (zs := D.map bv) rfl) (by rintro v76 _ rfl; intro w h; exact h.drop3.drop2.drop1.tail) ?_; rintro v76 _ rfl
       refine TR.know (fun _ h => row1 h) (fun o76 => (TR.hp (fun _ h => row_lenM h) ?_))
       refine TR.o rfl rfl wt0 (OpX.append (bytes := 1) tsl_bool (by decide) (by decide) rfl rw2 (bools_one [b]) (by omega) (zs := (D ++ [b]).map bv) (by rw [List.map_append]; rfl)) (by rintro v77 _ rfl; intro w h; exact h.drop3.drop2.drop1.tail) ?_; rintro v77 _ rfl
       refine TR.know (fun _ h => row1 h) (fun o77 => (TR.hp (fun _ h => row_lenM h) (TR.p rfl rfl wt0 (op_build (ps := #[(0, _), (1, _)]) rfl (bl_sealskinref03_Wide_01 _ _)) (TR.hp (fun _ h => h.pick4) ?_))))
       refine TR.z0 rfl wt0 (OpX.storeS tst_sealskinref03_Wide rfl rfl rfl rfl rfl (by first | exact (List.all_eq_true.1 rfl) | (intro u hu; simp only [List.mem_cons, List.not_mem_nil, or_false] at hu; rcases hu with rfl | rfl <;> assumption))) ?_; rintro _ _ rfl
       refine TR.nil (TQ.then (TC.ret ?_))
       refine retc tst_sealskinref03_Wide rfl rfl m0 rfl (fun w' hp => ?_)
       exact ⟨_, _, rfl, ⟨_, _, rfl, by assumption, by assumption, rfl⟩, (hp.drop5.drop4.drop3.tail.pick1)⟩
     ·refine TR.o rfl rfl wt0 (OpX.buildSlice (ps := #[(0, _)]) rfl (bs_bool_1 _)) (by rintro _ _ ⟨g16, rfl, rfl⟩; intro w h; exact h.drop2.drop1.tail) ?_; rintro _ _ ⟨g16, rfl, rfl⟩
      refine TR.hp (fun _ h => blk_row (k := 1) (m := 1) h rfl (by decide)) ?_
      refine TR.alt ?_ ?_
      ·refine TR.hp (fun _ h => h.pick2) ?_
       refine TR.o rfl rfl wt0 (OpX.append (bytes := 16) tsl_string (by decide) (by decide) rfl hr.cons.cons.cons.cons.cons (strs_one _) (by omega) (zs := P.map sv) rfl) (by rintro v78 _ rfl; intro w h; exact h.drop2.drop1.tail) ?_; rintro v78 _ rfl
       refine TR.know (fun _ h => row1 h) (fun o78 => (TR.hp (fun _ h => row_lenM h) ?_))
       refine TR.alt ?_ ?_
       ·refine TR.o rfl rfl wt0 (OpX.append (bytes := 16) tsl_string (by decide) (by decide) rfl rw2 (strs_one [[]]) (by omega) (zs := (P ++ [[]]).map sv) (by rw [List.map_append]; rfl)) (by rintro v79 _ rfl; intro w h; exact h.drop2.drop1.tail) ?_; rintro v79 _ rfl
        refine TR.know (fun _ h => row1 h) (fun o79 => (TR.hp (fun _ h => row_lenM h) ?_))
        refine TR.o rfl rfl wt0 (OpX.buildSlice (ps := #[]) rfl (bs_bool_0 )) (by rintro _ _ ⟨g11, rfl, rfl⟩; intro w h; exact h.drop3.drop2.drop1.tail) ?_; rintro _ _ ⟨g11, rfl, rfl⟩
        refine TR.hp (fun _ h => blk_row (k := 1) (m := 0) h rfl (by decide)) ?_
        refine TR.o rfl rfl wt0 (OpX.append (bytes := 1) tsl_bool (by decide) (by decide) rfl hr2.cons.cons.cons.cons.cons.cons (bools_one _) (by omega) (zs := D.map bv) rfl) (by rintro v80 _ rfl; intro w h; exact h.drop3.drop2.drop1.tail) ?_; rintro v80 _ rfl
        refine TR.know (fun _ h => row1 h) (fun o80 => (TR.hp (fun _ h => row_lenM h) ?_))
        refine TR.o rfl rfl wt0 (OpX.append (bytes := 1) tsl_bool (by decide) (by decide) rfl rw2 (bools_one [b]) (by omega) (zs := (D ++ [b]).map bv) (by rw [List.map_append]; rfl)) (by rintro v81 _ rfl; intro w h; exact h.drop3.drop2.drop1.tail) ?_; rintro v81 _ rfl
        refine TR.know (fun _ h => row1 h) (fun o81 => (TR.hp (fun _ h => row_lenM h) (TR.p rfl rfl wt0 (op_build (ps := #[(0, _), (1, _)]) rfl (bl_sealskinref03_Wide_01 _ _)) (TR.hp (fun _ h => h.pick4) ?_))))
        refine TR.z0 rfl wt0 (OpX.storeS tst_sealskinref03_Wide rfl rfl rfl rfl rfl (by first | exact (List.all_eq_true.1 rfl) | (intro u hu; simp only [List.mem_cons, List.not_mem_nil, or_false] at hu; rcases hu with rfl | rfl <;> assumption))) ?_; rintro _ _ rfl
        refine TR.nil (TQ.then (TC.ret ?_))
        refine retc tst_sealskinref03_Wide rfl rfl m0 rfl (fun w' hp => ?_)
        exact ⟨_, _, rfl, ⟨_, _, rfl, by assumption, by assumption, rfl⟩, (hp.drop5.drop4.drop3.tail.pick1)⟩
       ·refine TR.o rfl rfl wt0 (OpX.buildSlice (ps := #[]) rfl (bs_bool_0 )) (by rintro _ _ ⟨g11, rfl, rfl⟩; intro w h; exact h.drop3.drop2.drop1.tail) ?_; rintro _ _ ⟨g11, rfl, rfl⟩
        refine TR.hp (fun _ h => blk_row (k := 1) (m := 0) h rfl (by decide)) (TR.hp (fun _ h => h.pick1) ?_)
        refine TR.o rfl rfl wt0 (OpX.append (bytes := 16) tsl_string (by decide) (by decide) rfl rw3 (strs_one [[]]) (by omega) (zs := (P ++ [[]]).map sv) (by rw [List.map_append]; rfl)) (by rintro v82 _ rfl; intro w h; exact h.drop3.drop2.drop1.tail) ?_; rintro v82 _ rfl
        refine TR.know (fun _ h => row1 h) (fun o82 => (TR.hp (fun _ h => row_lenM h) (TR.hp (fun _ h => h.pick1) ?_)))
        refine TR.o rfl rfl wt0 (OpX.append (bytes := 1) tsl_bool (by decide) (by decide) rfl hr2.cons.cons.cons.cons.cons.cons (bools_one _) (by omega) (zs := D.map bv) rfl) (by rintro v83 _ rfl; intro w h; exact h.drop3.drop2.drop1.tail) ?_; rintro v83 _ rfl
        refine TR.know (fun _ h => row1 h) (fun o83 => (TR.hp (fun _ h => row_lenM h) ?_))
        refine TR.o rfl rfl wt0 (OpX.append (bytes := 1) tsl_bool (by decide) (by decide) rfl rw2 (bools_one [b]) (by omega) (zs := (D ++ [b]).map bv) (by rw [List.map_append]; rfl)) (by rintro v84 _ rfl; intro w h; exact h.drop3.drop2.drop1.tail) ?_; rintro v84 _ rfl
        refine TR.know (fun _ h => row1 h) (fun o84 => (TR.hp (fun _ h => row_lenM h) (TR.p rfl rfl wt0 (op_build (ps := #[(0, _), (1, _)]) rfl (bl_sealskinref03_Wide_01 _ _)) (TR.hp (fun _ h => h.pick4) ?_))))
        refine TR.z0 rfl wt0 (OpX.storeS tst_sealskinref03_Wide rfl rfl rfl rfl rfl (by first | exact (List.all_eq_true.1 rfl) | (intro u hu; simp only [List.mem_cons, List.not_mem_nil, or_false] at hu; rcases hu with rfl | rfl <;> assumption))) ?_; rintro _ _ rfl
        refine TR.nil (TQ.then (TC.ret ?_))
        refine retc tst_sealskinref03_Wide rfl rfl m0 rfl (fun w' hp => ?_)
        exact ⟨_, _, rfl, ⟨_, _, rfl, by assumption, by assumption, rfl⟩, (hp.drop5.drop4.drop3.tail.pick1)⟩
      ·refine TR.o rfl rfl wt0 (OpX.buildSlice (ps := #[]) rfl (bs_bool_0 )) (by rintro _ _ ⟨g11, rfl, rfl⟩; intro w h; exact h.drop3.drop2.drop1.tail) ?_; rintro _ _ ⟨g11, rfl, rfl⟩
       refine TR.hp (fun _ h => blk_row (k := 1) (m := 0) h rfl (by decide)) (TR.hp (fun _ h => h.pick3) ?_)
       refine TR.o rfl rfl wt0 (OpX.append (bytes := 16) tsl_string (by decide) (by decide) rfl hr.cons.cons.cons.cons.cons.cons (strs_one _) (by omega) (zs := P.map sv) rfl) (by rintro v85 _ rfl; intro w h; exact h.drop3.drop2.drop1.tail) ?_; rintro v85 _ rfl
       refine TR.know (fun _ h => row1 h) (fun o85 => (TR.hp (fun _ h => row_lenM h) ?_))
       refine TR.o rfl rfl wt0 (OpX.append (bytes := 16) tsl_string (by decide) (by decide) rfl rw3 (strs_one [[]]) (by omega) (zs := (P ++ [[]]).map sv) (by rw [List.map_append]; rfl)) (by rintro v86 _ rfl; intro w h; exact h.drop3.drop2.drop1.tail) ?_; rintro v86 _ rfl
       refine TR.know (fun _ h => row1 h) (fun o86 => (TR.hp (fun _ h => row_lenM h) (TR.hp (fun _ h => h.pick1) ?_)))
       refine TR.o rfl rfl wt0 (OpX.append (bytes := 1) tsl_bool (by decide) (by decide) rfl hr2.cons.cons.cons.cons.cons.cons (bools_one _) (by omega) (zs := D.map bv) rfl) (by rintro v87 _ rfl; intro w h; exact h.drop3.drop2.drop1.tail) ?_; rintro v87 _ rfl
       refine TR.know (fun _ h => row1 h) (fun o87 => (TR.hp (fun _ h => row_lenM h) ?_))
       refine TR.o rfl rfl wt0 (OpX.append (bytes := 1) tsl_bool (by decide) (by decide) rfl rw2 (bools_one [b]) (by omega) (zs := (D ++ [b]).map bv) (by rw [List.map_append]; rfl)) (by rintro v88 _ rfl; intro w h; exact h.drop3.drop2.drop1.tail) ?_; rintro v88 _ rfl
       refine TR.know (fun _ h => row1 h) (fun o88 => (TR.hp (fun _ h => row_lenM h) (TR.p rfl rfl wt0 (op_build (ps := #[(0, _), (1, _)]) rfl (bl_sealskinref03_Wide_01 _ _)) (TR.hp (fun _ h => h.pick4) ?_))))
       refine TR.z0 rfl wt0 (OpX.storeS tst_sealskinref03_Wide rfl rfl rfl rfl rfl (by first | exact (List.all_eq_true.1 rfl) | (intro u hu; simp only [List.mem_cons, List.not_mem_nil, or_false] at hu; rcases hu with rfl | rfl <;> assumption))) ?_; rintro _ _ rfl
       refine TR.nil (TQ.then (TC.ret ?_))
       refine retc tst_sealskinref03_Wide rfl rfl m0 rfl (fun w' hp => ?_)
       exact ⟨_, _, rfl, ⟨_, _, rfl, by assumption, by assumption, rfl⟩, (hp.drop5.drop4.drop3.tail.pick1)⟩
   ·refine TR.alt ?_ ?_
    ·refine TR.o rfl rfl wt0 (OpX.buildSlice (ps := #[]) rfl (bs_bool_0 )) (by rintro _ _ ⟨g11, rfl, rfl⟩; intro w h; exact h.drop1.tail) ?_; rintro _ _ ⟨g11, rfl, rfl⟩
     refine TR.hp (fun _ h => blk_row (k := 1) (m := 0) h rfl (by decide)) ?_
     refine TR.alt ?_ ?_
     ·refine TR.hp (fun _ h => h.pick1) ?_
      refine TR.o rfl rfl wt0 (OpX.append (bytes := 16) tsl_string (by decide) (by decide) rfl hr.cons.cons.cons.cons (strs_one _) (by omega) (zs := P.map sv) rfl) (by rintro v89 _ rfl; intro w h; exact h.drop1.tail) ?_; rintro v89 _ rfl
      refine TR.know (fun _ h => row1 h) (fun o89 => (TR.hp (fun _ h => row_lenM h) ?_))
      refine TR.alt ?_ ?_
      ·refine TR.o rfl rfl wt0 (OpX.buildSlice (ps := #[(0, _)]) rfl (bs_string_1 _)) (by rintro _ _ ⟨g9, rfl, rfl⟩; intro w h; exact h.drop2.drop1.tail) ?_; rintro _ _ ⟨g9, rfl, rfl⟩
       refine TR.hp (fun _ h => blk_row (k := 1) (m := 1) h rfl (by decide)) ?_
       refine TR.alt ?_ ?_
       ·refine TR.hp (fun _ h => h.pick1) ?_
        refine TR.o rfl rfl wt0 (OpX.append (bytes := 16) tsl_string (by decide) (by decide) rfl rw1 (strs_one [[]]) (by omega) (zs := (P ++ [[]]).map sv) (by rw [List.map_append]; rfl)) (by rintro v90 _ rfl; intro w h; exact h.drop2.drop1.tail) ?_; rintro v90 _ rfl
        refine TR.know (fun _ h => row1 h) (fun o90 => (TR.hp (fun _ h => row_lenM h) ?_))
        refine TR.alt ?_ ?_
        ·refine TR.hp (fun _ h => h.pick2) ?_
         refine TR.o rfl rfl wt0 (OpX.append (bytes := 1) tsl_bool (by decide) (by decide) rfl hr2.cons.cons.cons.cons.cons (bools_one _) (by omega) (zs := D.map bv) rfl) (by rintro v91 _ rfl; intro w h; exact h.drop2.drop1.tail) ?_; rintro v91 _ rfl
         refine TR.know (fun _ h => row1 h) (fun o91 => (TR.hp (fun _ h => row_lenM h) ?_))
         refine TR.o rfl rfl wt0 (OpX.buildSlice (ps := #[(0, _)]) rfl (bs_bool_1 _)) (by rintro _ _ ⟨g16, rfl, rfl⟩; intro w h; exact h.drop3.drop2.drop1.tail) ?_; rintro _ _ ⟨g16, rfl, rfl⟩
         refine TR.hp (fun _ h => blk_row (k := 1) (m := 1) h rfl (by decide)) (TR.hp (fun _ h => h.pick1) ?_)
         refine TR.o rfl rfl wt0 (OpX.append (bytes := 1) tsl_bool (by decide) (by decide) rfl rw1 (bools_one [b]) (by omega) (zs := (D ++ [b]).map bv) (by rw [List.map_append]; rfl)) (by rintro v92 _ rfl; intro w h; exact h.drop3.drop2.drop1.tail) ?_; rintro v92 _ rfl
         refine TR.know (fun _ h => row1 h) (fun o92 => (TR.hp (fun _ h => row_lenM h) (TR.p rfl rfl wt0 (op_build (ps := #[(0, _), (1, _)]) rfl (bl_sealskinref03_Wide_01 _ _)) (TR.hp (fun _ h => h.pick4) ?_))))
         refine TR.z0 rfl wt0 (OpX.storeS tst_sealskinref03_Wide rfl rfl rfl rfl rfl (by first | exact (List.all_eq_true.1 rfl) | (intro u hu; simp only [List.mem_cons, List.not_mem_nil, or_false] at hu; rcases hu with rfl | rfl <;> assumption))) ?_; rintro _ _ rfl
         refine TR.nil (TQ.then (TC.ret ?_))
         refine retc tst_sealskinref03_Wide rfl rfl m0 rfl (fun w' hp => ?_)
         exact ⟨_, _, rfl, ⟨_, _, rfl, by assumption, by assumption, rfl⟩, (hp.drop5.drop4.drop2.tail.pick1)⟩
        ·refine TR.o rfl rfl wt0 (OpX.buildSlice (ps := #[(0, _)]) rfl (bs_bool_1 _)) (by rintro _ _ ⟨g16, rfl, rfl⟩; intro w h; exact h.drop3.drop2.drop1.tail) ?_; rintro _ _ ⟨g16, rfl, rfl⟩
         refine TR.hp (fun _ h => blk_row (k := 1) (m := 1) h rfl (by decide)) (TR.hp (fun _ h => h.pick3) ?_)
         refine TR.o rfl rfl wt0 (OpX.append (bytes := 1) tsl_bool (by decide) (by decide) rfl hr2.cons.cons.cons.cons.cons.cons (bools_one _) (by omega) (zs := D.map bv) rfl) (by rintro v93 _ rfl; intro w h; exact h.drop3.drop2.drop1.tail) ?_; rintro v93 _ rfl
         refine TR.know (fun _ h => row1 h) (fun o93 => (TR.hp (fun _ h => row_lenM h) ?_))
         refine TR.o rfl rfl wt0 (OpX.append (bytes := 1) tsl_bool (by decide) (by decide) rfl rw1 (bools_one [b]) (by omega) (zs := (D ++ [b]).map bv) (by rw [List.map_append]; rfl)) (by rintro v94 _ rfl; intro w h; exact h.drop3.drop2.drop1.tail) ?_; rintro v94 _ rfl
         refine TR.know (fun _ h => row1 h) (fun o94 => (TR.hp (fun _ h => row_lenM h) (TR.p rfl rfl wt0 (op_build (ps := #[(0, _), (1, _)]) rfl (bl_sealskinref03_Wide_01 _ _)) (TR.hp (fun _ h => h.pick4) ?_))))
         refine TR.z0 rfl wt0 (OpX.storeS tst_sealskinref03_Wide rfl rfl rfl rfl rfl (by first | exact (List.all_eq_true.1 rfl) | (intro u hu; simp only [List.mem_cons, List.not_mem_nil, or_false] at hu; rcases hu with rfl | rfl <;> assumption))) ?_; rintro _ _ rfl
         refine TR.nil (TQ.then (TC.ret ?_))
         refine retc tst_sealskinref03_Wide rfl rfl m0 rfl (fun w' hp => ?_)
         exact ⟨_, _, rfl, ⟨_, _, rfl, by assumption, by assumption, rfl⟩, (hp.drop5.drop4.drop2.tail.pick1)⟩
       ·refine TR.o rfl rfl wt0 (OpX.buildSlice (ps := #[(0, _)]) rfl (bs_bool_1 _)) (by rintro _ _ ⟨g16, rfl, rfl⟩; intro w h; exact h.drop3.drop2.drop1.tail) ?_; rintro _ _ ⟨g16, rfl, rfl⟩
        refine TR.hp (fun _ h => blk_row (k := 1) (m := 1) h rfl (by decide)) (TR.hp (fun _ h => h.pick2) ?_)
        refine TR.o rfl rfl wt0 (OpX.append (bytes := 16) tsl_string (by decide) (by decide) rfl rw2 (strs_one [[]]) (by omega) (zs := (P ++ [[]]).map sv) (by rw [List.map_append]; rfl)) (by rintro v95 _ rfl; intro w h; exact h.drop3.drop2.drop1.tail) ?_; rintro v95 _ rfl
        refine TR.know (fun _ h => row1 h) (fun o95 => (TR.hp (fun _ h => row_lenM h) (TR.hp (fun _ h => h.pick3) ?_)))
        refine TR.o rfl rfl wt0 (OpX.append (bytes := 1) tsl_bool (by decide) (by decide) rfl hr2.cons.cons.cons.cons.cons.cons (bools_one _) (by omega) (zs := D.map bv) rfl) (by rintro v96 _ rfl; intro w h; exact h.drop3.drop2.drop1.tail) ?_; rintro v96 _ rfl
        refine TR.know (fun _ h => row1 h) (fun o96 => (TR.hp (fun _ h => row_lenM h) ?_))
        refine TR.o rfl rfl wt0 (OpX.append (bytes := 1) tsl_bool (by decide) (by decide) rfl rw2 (bools_one [b]) (by omega) (zs := (D ++ [b]).map bv) (by rw [List.map_append]; rfl)) (by rintro v97 _ rfl; intro w h; exact h.drop3.drop2.drop1.tail) ?_; rintro v97 _ rfl
        refine TR.know (fun _ h => row1 h) (fun o97 => (TR.hp (fun _ h => row_lenM h) (TR.p rfl rfl wt0 (op_build (ps := #[(0, _), (1, _)]) rfl (bl_sealskinref03_Wide_01 _ _)) (TR.hp (fun _ h => h.pick4) ?_))))
        refine TR.z0 rfl wt0 (OpX.storeS tst_sealskinref03_Wide rfl rfl rfl rfl rfl (by first | exact (List.all_eq_true.1 rfl) | (intro u hu; simp only [List.mem_cons, List.not_mem_nil, or_false] at hu; rcases hu with rfl | rfl <;> assumption))) ?_; rintro _ _ rfl
        refine TR.nil (TQ.then (TC.ret ?_))
        refine retc tst_sealskinref03_Wide rfl rfl m0 rfl (fun w' hp => ?_)
        exact ⟨_, _, rfl, ⟨_, _, rfl, by assumption, by assumption, rfl⟩, (hp.drop5.drop4.drop3.tail.pick1)⟩
      ·refine TR.o rfl rfl wt0 (OpX.buildSlice (ps := #[(0, _)]) rfl (bs_bool_1 _)) (by rintro _ _ ⟨g16, rfl, rfl⟩; intro w h; exact h.drop2.drop1.tail) ?_; rintro _ _ ⟨g16, rfl, rfl⟩
       refine TR.hp (fun _ h => blk_row (k := 1) (m := 1) h rfl (by decide)) ?_
       refine TR.o rfl rfl wt0 (OpX.buildSlice (ps := #[(0, _)]) rfl (bs_string_1 _)) (by rintro _ _ ⟨g9, rfl, rfl⟩; intro w h; exact h.drop3.drop2.drop1.tail) ?_; rintro _ _ ⟨g9, rfl, rfl⟩
       refine TR.hp (fun _ h => blk_row (k := 1) (m := 1) h rfl (by decide)) (TR.hp (fun _ h => h.pick2) ?_)
       refine TR.o rfl rfl wt0 (OpX.append (bytes := 16) tsl_string (by decide) (by decide) rfl rw1 (strs_one [[]]) (by omega) (zs := (P ++ [[]]).map sv) (by rw [List.map_append]; rfl)) (by rintro v98 _ rfl; intro w h; exact h.drop3.drop2.drop1.tail) ?_; rintro v98 _ rfl
       refine TR.know (fun _ h => row1 h) (fun o98 => (TR.hp (fun _ h => row_lenM h) (TR.hp (fun _ h => h.pick3) ?_)))
       refine TR.o rfl rfl wt0 (OpX.append (bytes := 1) tsl_bool (by decide) (by decide) rfl hr2.cons.cons.cons.cons.cons.cons (bools_one _) (by omega) (zs := D.map bv) rfl) (by rintro v99 _ rfl; intro w h; exact h.drop3.drop2.drop1.tail) ?_; rintro v99 _ rfl
       refine TR.know (fun _ h => row1 h) (fun o99 => (TR.hp (fun _ h => row_lenM h) ?_))
       refine TR.o rfl rfl wt0 (OpX.append (bytes := 1) tsl_bool (by decide) (by decide) rfl rw3 (bools_one [b]) (by omega) (zs := (D ++ [b]).map bv) (by rw [List.map_append]; rfl)) (by rintro v100 _ rfl; intro w h; exact h.drop3.drop2.drop1.tail) ?_; rintro v100 _ rfl
       refine TR.know (fun _ h => row1 h) (fun o100 => (TR.hp (fun _ h => row_lenM h) (TR.p rfl rfl wt0 (op_build (ps := #[(0, _), (1, _)]) rfl (bl_sealskinref03_Wide_01 _ _)) (TR.hp (fun _ h => h.pick4) ?_))))
       refine TR.z0 rfl wt0 (OpX.storeS tst_sealskinref03_Wide rfl rfl rfl rfl rfl (by first | exact (List.all_eq_true.1 rfl) | (intro u hu; simp only [List.mem_cons, List.not_mem_nil, or_false] at hu; rcases hu with rfl | rfl <;> assumption))) ?_; rintro _ _ rfl
       refine TR.nil (TQ.then (TC.ret ?_))
       refine retc tst_sealskinref03_Wide rfl rfl m0 rfl (fun w' hp => ?_)
       exact ⟨_, _, rfl, ⟨_, _, rfl, by assumption, by assumption, rfl⟩, (hp.drop5.drop4.drop3.tail.pick1)⟩
     ·refine TR.alt ?_ ?_
      ·refine TR.o rfl rfl wt0 (OpX.buildSlice (ps := #[(0, _)]) rfl (bs_string_1 _)) (by rintro _ _ ⟨g9, rfl, rfl⟩; intro w h; exact h.drop2.drop1.tail) ?_; rintro _ _ ⟨g9, rfl, rfl⟩
       refine TR.hp (fun _ h => blk_row (k := 1) (m := 1) h rfl (by decide)) ?_
       refine TR.alt ?_ ?_
       ·refine TR.hp (fun _ h => h.pick2) ?_
        refine TR.o rfl rfl wt0 (OpX.append (bytes := 16) tsl_string (by decide) (by decide) rfl hr.cons.cons.cons.cons.cons (strs_one _) (by omega) (zs := P.map sv) rfl) (by rintro v101 _ rfl; intro w h; exact h.drop2.drop1.tail) ?_; rintro v101 _ rfl
        refine TR.know (fun _ h => row1 h) (fun o101 => (TR.hp (fun _ h => row_lenM h) ?_))
        refine TR.alt ?_ ?_
        ·refine TR.o rfl rfl wt0 (OpX.append (bytes := 16) tsl_string (by decide) (by decide) rfl rw1 (strs_one [[]]) (by omega) (zs := (P ++ [[]]).map sv) (by rw [List.map_append]; rfl)) (by rintro v102 _ rfl; intro w h; exact h.drop2.drop1.tail) ?_; rintro v102 _ rfl
         refine TR.know (fun _ h => row1 h) (fun o102 => (TR.hp (fun _ h => row_lenM h) ?_))
         refine TR.alt ?_ ?_
         ·refine TR.hp (fun _ h => h.pick2) ?_
          refine TR.o rfl rfl wt0 (OpX.append (bytes := 1) tsl_bool (by decide) (by decide) rfl hr2.cons.cons.cons.cons.cons (bools_one _) (by omega) (zs := D.map bv) rfl) (by rintro v103 _ rfl; intro w h; exact h.drop2.drop1.tail) ?_; rintro v103 _ rfl
          refine TR.know (fun _ h => row1 h) (fun o103 => (TR.hp (fun _ h => row_lenM h) ?_))
          refine TR.o rfl rfl wt0 (OpX.buildSlice (ps := #[(0, _)]) rfl (bs_bool_1 _)) (by rintro _ _ ⟨g16, rfl, rfl⟩; intro w h; exact h.drop3.drop2.drop1.tail) ?_; rintro _ _ ⟨g16, rfl, rfl⟩
          refine TR.hp (fun _ h => blk_row (k := 1) (m := 1) h rfl (by decide)) (TR.hp (fun _ h => h.pick1) ?_)
          refine TR.o rfl rfl wt0 (OpX.append (bytes := 1) tsl_bool (by decide) (by decide) rfl rw1 (bools_one [b]) (by omega) (zs := (D ++ [b]).map bv) (by rw [List.map_append]; rfl)) (by rintro v104 _ rfl; intro w h; exact h.drop3.drop2.drop1.tail) ?_; rintro v104 _ rfl
          refine TR.know (fun _ h => row1 h) (fun o104 => (TR.hp (fun _ h => row_lenM h) (TR.p rfl rfl wt0 (op_build (ps := #[(0, _), (1, _)]) rfl (bl_sealskinref03_Wide_01 _ _)) (TR.hp (fun _ h => h.pick4) ?_))))
          refine TR.z0 rfl wt0 (OpX.storeS tst_sealskinref03_Wide rfl rfl rfl rfl rfl (by first | exact (List.all_eq_true.1 rfl) | (intro u hu; simp only [List.mem_cons, List.not_mem_nil, or_false] at hu; rcases hu with rfl | rfl <;> assumption))) ?_; rintro _ _ rfl
          refine TR.nil (TQ.then (TC.ret ?_))
          refine retc tst_sealskinref03_Wide rfl rfl m0 rfl (fun w' hp => ?_)
          exact ⟨_, _, rfl, ⟨_, _, rfl, by assumption, by assumption, rfl⟩, (hp.drop5.drop4.drop2.tail.pick1)⟩
         ·refine TR.o rfl rfl wt0 (OpX.buildSlice (ps := #[(0, _)]) rfl (bs_bool_1 _)) (by rintro _ _ ⟨g16, rfl, rfl⟩; intro w h; exact h.drop3.drop2.drop1.tail) ?_; rintro _ _ ⟨g16, rfl, rfl⟩
          refine TR.hp (fun _ h => blk_row (k := 1) (m := 1) h rfl (by decide)) (TR.hp (fun _ h => h.pick3) ?_)
          refine TR.o rfl rfl wt0 (OpX.append (bytes := 1) tsl_bool (by decide) (by decide) rfl hr2.cons.cons.cons.cons.cons.cons (bools_one _) (by omega) (zs := D.map bv) rfl) (by rintro v105 _ rfl; intro w h; exact h.drop3.drop2.drop1.tail) ?_; rintro v105 _ rfl
          refine TR.know (fun _ h => row1 h) (fun o105 => (TR.hp (fun _ h => row_lenM h) ?_))
          refine TR.o rfl rfl wt0 (OpX.append (bytes := 1) tsl_bool (by decide) (by decide) rfl rw1 (bools_one [b]) (by omega) (zs := (D ++ [b]).map bv) (by rw [List.map_append]; rfl)) (by rintro v106 _ rfl; intro w h; exact h.drop3.drop2.drop1.tail) ?_; rintro v106 _ rfl
          refine TR.know (fun _ h => row1 h) (fun o106 => (TR.hp (fun _ h => row_lenM h) (TR.p rfl rfl wt0 (op_build (ps := #[(0, _), (1, _)]) rfl (bl_sealskinref03_Wide_01 _ _)) (TR.hp (fun _ h => h.pick4) ?_))))
          refine TR.z0 rfl wt0 (OpX.storeS tst_sealskinref03_Wide rfl rfl rfl rfl rfl (by first | exact (List.all_eq_true.1 rfl) | (intro u hu; simp only [List.mem_cons, List.not_mem_nil, or_false] at hu; rcases hu with rfl | rfl <;> assumption))) ?_; rintro _ _ rfl
          refine TR.nil (TQ.then (TC.ret ?_))
          refine retc tst_sealskinref03_Wide rfl rfl m0 rfl (fun w' hp => ?_)
          exact ⟨_, _, rfl, ⟨_, _, rfl, by assumption, by assumption, rfl⟩, (hp.drop5.drop4.drop2.tail.pick1)⟩
        ·refine TR.o rfl rfl wt0 (OpX.buildSlice (ps := #[(0, _)]) rfl (bs_bool_1 _)) (by rintro _ _ ⟨g16, rfl, rfl⟩; intro w h; exact h.drop3.drop2.drop1.tail) ?_; rintro _ _ ⟨g16, rfl, rfl⟩
         refine TR.hp (fun _ h => blk_row (k := 1) (m := 1) h rfl (by decide)) (TR.hp (fun _ h => h.pick1) ?_)
         refine TR.o rfl rfl wt0 (OpX.append (bytes := 16) tsl_string (by decide) (by decide) rfl rw2 (strs_one [[]]) (by omega) (zs := (P ++ [[]]).map sv) (by rw [List.map_append]; rfl)) (by rintro v107 _ rfl; intro w h; exact h.drop3.drop2.drop1.tail) ?_; rintro v107 _ rfl
         refine TR.know (fun _ h => row1 h) (fun o107 => (TR.hp (fun _ h => row_lenM h) (TR.hp (fun _ h => h.pick3) ?_)))
         refine TR.o rfl rfl wt0 (OpX.append (bytes := 1) tsl_bool (by decide) (by decide) rfl hr2.cons.cons.cons.cons.cons.cons (bools_one _) (by omega) (zs := D.map bv) rfl) (by rintro v108 _ rfl; intro w h; exact h.drop3.drop2.drop1.tail) ?_; rintro v108 _ rfl
         refine TR.know (fun _ h => row1 h) (fun o108 => (TR.hp (fun _ h => row_lenM h) ?_))
         refine TR.o rfl rfl wt0 (OpX.append (bytes := 1) tsl_bool (by decide) (by decide) rfl rw2 (bools_one [b]) (by omega) (zs := (D ++ [b]).map bv) (by rw [List.map_append]; rfl)) (by rintro v109 _ rfl; intro w h; exact h.drop3.drop2.drop1.tail) ?_; rintro v109 _ rfl
         refine TR.know (fun _ h => row1 h) (fun o109 => (TR.hp (fun _ h => row_lenM h) (TR.p rfl rfl wt0 (op_build (ps := #[(0, _), (1, _)]) rfl (bl_sealskinref03_Wide_01 _ _)) (TR.hp (fun _ h => h.pick4) ?_))))
         refine TR.z0 rfl wt0 (OpX.storeS tst_sealskinref03_Wide rfl rfl rfl rfl rfl (by first | exact (List.all_eq_true.1 rfl) | (intro u hu; simp only [List.mem_cons, List.not_mem_nil, or_false] at hu; rcases hu with rfl | rfl <;> assumption))) ?_; rintro _ _ rfl
         refine TR.nil (TQ.then (TC.ret ?_))
         refine retc tst_sealskinref03_Wide rfl rfl m0 rfl (fun w' hp => ?_)
         exact ⟨_, _, rfl, ⟨_, _, rfl, by assumption, by assumption, rfl⟩, (hp.drop5.drop4.drop3.tail.pick1)⟩
       ·refine TR.o rfl rfl wt0 (OpX.buildSlice (ps := #[(0, _)]) rfl (bs_bool_1 _)) (by rintro _ _ ⟨g16, rfl, rfl⟩; intro w h; exact h.drop3.drop2.drop1.tail) ?_; rintro _ _ ⟨g16, rfl, rfl⟩
        refine TR.hp (fun _ h => blk_row (k := 1) (m := 1) h rfl (by decide)) (TR.hp (fun _ h => h.pick3) ?_)
        refine TR.o rfl rfl wt0 (OpX.append (bytes := 16) tsl_string (by decide) (by decide) rfl hr.cons.cons.cons.cons.cons.cons (strs_one _) (by omega) (zs := P.map sv) rfl) (by rintro v110 _ rfl; intro w h; exact h.drop3.drop2.drop1.tail) ?_; rintro v110 _ rfl
        refine TR.know (fun _ h => row1 h) (fun o110 => (TR.hp (fun _ h => row_lenM h) ?_))
        refine TR.o rfl rfl wt0 (OpX.append (bytes := 16) tsl_string (by decide) (by decide) rfl rw2 (strs_one [[]]) (by omega) (zs := (P ++ [[]]).map sv) (by rw [List.map_append]; rfl)) (by rintro v111 _ rfl; intro w h; exact h.drop3.drop2.drop1.tail) ?_; rintro v111 _ rfl
        refine TR.know (fun _ h => row1 h) (fun o111 => (TR.hp (fun _ h => row_lenM h) (TR.hp (fun _ h => h.pick3) ?_)))
        refine TR.o rfl rfl wt0 (OpX.append (bytes := 1) tsl_bool (by decide) (by decide) rfl hr2.cons.cons.cons.cons.cons.cons (bools_one _) (by omega) (zs := D.map bv) rfl) (by rintro v112 _ rfl; intro w h; exact h.drop3.drop2.drop1.tail) ?_; rintro v112 _ rfl
        refine TR.know (fun _ h => row1 h) (fun o112 => (TR.hp (fun _ h => row_lenM h) ?_))
        refine TR.o rfl rfl wt0 (OpX.append (bytes := 1) tsl_bool (by decide) (by decide) rfl rw2 (bools_one [b]) (by omega) (zs := (D ++ [b]).map bv) (by rw [List.map_append]; rfl)) (by rintro v113 _ rfl; intro w h; exact h.drop3.drop2.drop1.tail) ?_; rintro v113 _ rfl
        refine TR.know (fun _ h => row1 h) (fun o113 => (TR.hp (fun _ h => row_lenM h) (TR.p rfl rfl wt0 (op_build (ps := #[(0, _), (1, _)]) rfl (bl_sealskinref03_Wide_01 _ _)) (TR.hp (fun _ h => h.pick4) ?_))))
        refine TR.z0 rfl wt0 (OpX.storeS tst_sealskinref03_Wide rfl rfl rfl rfl rfl (by first | exact (List.all_eq_true.1 rfl) | (intro u hu; simp only [List.mem_cons, List.not_mem_nil, or_false] at hu; rcases hu with rfl | rfl <;> assumption))) ?_; rintro _ _ rfl
        refine TR.nil (TQ.then (TC.ret ?_))
        refine retc tst_sealskinref03_Wide rfl rfl m0 rfl (fun w' hp => ?_)
        exact ⟨_, _, rfl, ⟨_, _, rfl, by assumption, by assumption, rfl⟩, (hp.drop5.drop4.drop3.tail.pick1)⟩
      ·refine TR.o rfl rfl wt0 (OpX.buildSlice (ps := #[(0, _)]) rfl (bs_bool_1 _)) (by rintro _ _ ⟨g16, rfl, rfl⟩; intro w h; exact h.drop2.drop1.tail) ?_; rintro _ _ ⟨g16, rfl, rfl⟩
       refine TR.hp (fun _ h => blk_row (k := 1) (m := 1) h rfl (by decide)) ?_
       refine TR.alt ?_ ?_
       ·refine TR.hp (fun _ h => h.pick2) ?_
        refine TR.o rfl rfl wt0 (OpX.append (bytes := 16) tsl_string (by decide) (by decide) rfl hr.cons.cons.cons.cons.cons (strs_one _) (by omega) (zs := P.map sv) rfl) (by rintro v114 _ rfl; intro w h; exact h.drop2.drop1.tail) ?_; rintro v114 _ rfl
        refine TR.know (fun _ h => row1 h) (fun o114 => (TR.hp (fun _ h => row_lenM h) ?_))
        refine TR.o rfl rfl wt0 (OpX.buildSlice (ps := #[(0, _)]) rfl (bs_string_1 _)) (by rintro _ _ ⟨g9, rfl, rfl⟩; intro w h; exact h.drop3.drop2.drop1.tail) ?_; rintro _ _ ⟨g9, rfl, rfl⟩
        refine TR.hp (fun _ h => blk_row (k := 1) (m := 1) h rfl (by decide)) (TR.hp (fun _ h => h.pick1) ?_)
        refine TR.o rfl rfl wt0 (OpX.append (bytes := 16) tsl_string (by decide) (by decide) rfl rw1 (strs_one [[]]) (by omega) (zs := (P ++ [[]]).map sv) (by rw [List.map_append]; rfl)) (by rintro v115 _ rfl; intro w h; exact h.drop3.drop2.drop1.tail) ?_; rintro v115 _ rfl
        refine TR.know (fun _ h => row1 h) (fun o115 => (TR.hp (fun _ h => row_lenM h) (TR.hp (fun _ h => h.pick3) ?_)))
        refine TR.o rfl rfl wt0 (OpX.append (bytes := 1) tsl_bool (by decide) (by decide) rfl hr2.cons.cons.cons.cons.cons.cons (bools_one _) (by omega) (zs := D.map bv) rfl) (by rintro v116 _ rfl; intro w h; exact h.drop3.drop2.drop1.tail) ?_; rintro v116 _ rfl
        refine TR.know (fun _ h => row1 h) (fun o116 => (TR.hp (fun _ h => row_lenM h) ?_))
        refine TR.o rfl rfl wt0 (OpX.append (bytes := 1) tsl_bool (by decide) (by decide) rfl rw3 (bools_one [b]) (by omega) (zs := (D ++ [b]).map bv) (by rw [List.map_append]; rfl)) (by rintro v117 _ rfl; intro w h; exact h.drop3.drop2.drop1.tail) ?_; rintro v117 _ rfl
        refine TR.know (fun _ h => row1 h) (fun o117 => (TR.hp (fun _ h => row_lenM h) (TR.p rfl rfl wt0 (op_build (ps := #[(0, _), (1, _)]) rfl (bl_sealskinref03_Wide_01 _ _)) (TR.hp (fun _ h => h.pick4) ?_))))
        refine TR.z0 rfl wt0 (OpX.storeS tst_sealskinref03_Wide rfl rfl rfl rfl rfl (by first | exact (List.all_eq_true.1 rfl) | (intro u hu; simp only [List.mem_cons, List.not_mem_nil, or_false] at hu; rcases hu with rfl | rfl <;> assumption))) ?_; rintro _ _ rfl
        refine TR.nil (TQ.then (TC.ret ?_))
        refine retc tst_sealskinref03_Wide rfl rfl m0 rfl (fun w' hp => ?_)
        exact ⟨_, _, rfl, ⟨_, _, rfl, by assumption, by assumption, rfl⟩, (hp.drop5.drop4.drop3.tail.pick1)⟩
       ·refine TR.o rfl rfl wt0 (OpX.buildSlice (ps := #[(0, _)]) rfl (bs_string_1 _)) (by rintro _ _ ⟨g9, rfl, rfl⟩; intro w h; exact h.drop3.drop2.drop1.tail) ?_; rintro _ _ ⟨g9, rfl, rfl⟩
        refine TR.hp (fun _ h => blk_row (k := 1) (m := 1) h rfl (by decide)) (TR.hp (fun _ h => h.pick3) ?_)
        refine TR.o rfl rfl wt0 (OpX.append (bytes := 16) tsl_string (by decide) (by decide) rfl hr.cons.cons.cons.cons.cons.cons (strs_one _) (by omega) (zs := P.map sv) rfl) (by rintro v118 _ rfl; intro w h; exact h.drop3.drop2.drop1.tail) ?_; rintro v118 _ rfl
        refine TR.know (fun _ h => row1 h) (fun o118 => (TR.hp (fun _ h => row_lenM h) ?_))
        refine TR.o rfl rfl wt0 (OpX.append (bytes := 16) tsl_string (by decide) (by decide) rfl rw1 (strs_one [[]]) (by omega) (zs := (P ++ [[]]).map sv) (by rw [List.map_append]; rfl)) (by rintro v119 _ rfl; intro w h; exact h.drop3.drop2.drop1.tail) ?_; rintro v119 _ rfl
        refine TR.know (fun _ h => row1 h) (fun o119 => (TR.hp (fun _ h => row_lenM h) (TR.hp (fun _ h => h.pick3) ?_)))
        refine TR.o rfl rfl wt0 (OpX.append (bytes := 1) tsl_bool (by decide) (by decide) rfl hr2.cons.cons.cons.cons.cons.cons (bools_one _) (by omega) (zs := D.map bv) rfl) (by rintro v120 _ rfl; intro w h; exact h.drop3.drop2.drop1.tail) ?_; rintro v120 _ rfl
        refine TR.know (fun _ h => row1 h) (fun o120 => (TR.hp (fun _ h => row_lenM h) ?_))
        refine TR.o rfl rfl wt0 (OpX.append (bytes := 1) tsl_bool (by decide) (by decide) rfl rw3 (bools_one [b]) (by omega) (zs := (D ++ [b]).map bv) (by rw [List.map_append]; rfl)) (by rintro v121 _ rfl; intro w h; exact h.drop3.drop2.drop1.tail) ?_; rintro v121 _ rfl
        refine TR.know (fun _ h => row1 h) (fun o121 => (TR.hp (fun _ h => row_lenM h) (TR.p rfl rfl wt0 (op_build (ps := #[(0, _), (1, _)]) rfl (bl_sealskinref03_Wide_01 _ _)) (TR.hp (fun _ h => h.pick4) ?_))))
        refine TR.z0 rfl wt0 (OpX.storeS tst_sealskinref03_Wide rfl rfl rfl rfl rfl (by first | exact (List.all_eq_true.1 rfl) | (intro u hu; simp only [List.mem_cons, List.not_mem_nil, or_false] at hu; rcases hu with rfl | rfl <;> assumption))) ?_; rintro _ _ rfl
        refine TR.nil (TQ.then (TC.ret ?_))
        refine retc tst_sealskinref03_Wide rfl rfl m0 rfl (fun w' hp => ?_)
        exact ⟨_, _, rfl, ⟨_, _, rfl, by assumption, by assumption, rfl⟩, (hp.drop5.drop4.drop3.tail.pick1)⟩
    ·refine TR.o rfl rfl wt0 (OpX.buildSlice (ps := #[(0, _)]) rfl (bs_bool_1 _)) (by rintro _ _ ⟨g16, rfl, rfl⟩; intro w h; exact h.drop1.tail) ?_; rintro _ _ ⟨g16, rfl, rfl⟩
     refine TR.hp (fun _ h => blk_row (k := 1) (m := 1) h rfl (by decide)) ?_
     refine TR.alt ?_ ?_
     ·refine TR.hp (fun _ h => h.pick1) ?_
      refine TR.o rfl rfl wt0 (OpX.append (bytes := 16) tsl_string (by decide) (by decide) rfl hr.cons.cons.cons.cons (strs_one _) (by omega) (zs := P.map sv) rfl) (by rintro v122 _ rfl; intro w h; exact h.drop1.tail) ?_; rintro v122 _ rfl
      refine TR.know (fun _ h => row1 h) (fun o122 => (TR.hp (fun _ h => row_lenM h) ?_))
      refine TR.alt ?_ ?_
      ·refine TR.o rfl rfl wt0 (OpX.buildSlice (ps := #[(0, _)]) rfl (bs_string_1 _)) (by rintro _ _ ⟨g9, rfl, rfl⟩; intro w h; exact h.drop2.drop1.tail) ?_; rintro _ _ ⟨g9, rfl, rfl⟩
       refine TR.hp (fun _ h => blk_row (k := 1) (m := 1) h rfl (by decide)) ?_
       refine TR.alt ?_ ?_
       ·refine TR.hp (fun _ h => h.pick1) ?_
        refine TR.o rfl rfl wt0 (OpX.append (bytes := 16) tsl_string (by decide) (by decide) rfl rw1 (strs_one [[]]) (by omega) (zs := (P ++ [[]]).map sv) (by rw [List.map_append]; rfl)) (by rintro v123 _ rfl; intro w h; exact h.drop2.drop1.tail) ?_; rintro v123 _ rfl
        refine TR.know (fun _ h => row1 h) (fun o123 => (TR.hp (fun _ h => row_lenM h) ?_))
        refine TR.o rfl rfl wt0 (OpX.buildSlice (ps := #[]) rfl (bs_bool_0 )) (by rintro _ _ ⟨g11, rfl, rfl⟩; intro w h; exact h.drop3.drop2.drop1.tail) ?_; rintro _ _ ⟨g11, rfl, rfl⟩
        refine TR.hp (fun _ h => blk_row (k := 1) (m := 0) h rfl (by decide)) ?_
        refine TR.o rfl rfl wt0 (OpX.append (bytes := 1) tsl_bool (by decide) (by decide) rfl hr2.cons.cons.cons.cons.cons.cons (bools_one _) (by omega) (zs := D.map bv) rfl) (by rintro v124 _ rfl; intro w h; exact h.drop3.drop2.drop1.tail) ?_; rintro v124 _ rfl
        refine TR.know (fun _ h => row1 h) (fun o124 => (TR.hp (fun _ h => row_lenM h) ?_))
        refine TR.o rfl rfl wt0 (OpX.append (bytes := 1) tsl_bool (by decide) (by decide) rfl rw3 (bools_one [b]) (by omega) (zs := (D ++ [b]).map bv) (by rw [List.map_append]; rfl)) (by rintro v125 _ rfl; intro w h; exact h.drop3.drop2.drop1.tail) ?_; rintro v125 _ rfl
        refine TR.know (fun _ h => row1 h) (fun o125 => (TR.hp (fun _ h => row_lenM h) (TR.p rfl rfl wt0 (op_build (ps := #[(0, _), (1, _)]) rfl (bl_sealskinref03_Wide_01 _ _)) (TR.hp (fun _ h => h.pick4) ?_))))
        refine TR.z0 rfl wt0 (OpX.storeS tst_sealskinref03_Wide rfl rfl rfl rfl rfl (by first | exact (List.all_eq_true.1 rfl) | (intro u hu; simp only [List.mem_cons, List.not_mem_nil, or_false] at hu; rcases hu with rfl | rfl <;> assumption))) ?_; rintro _ _ rfl
        refine TR.nil (TQ.then (TC.ret ?_))
        refine retc tst_sealskinref03_Wide rfl rfl m0 rfl (fun w' hp => ?_)
        exact ⟨_, _, rfl, ⟨_, _, rfl, by assumption, by assumption, rfl⟩, (hp.drop5.drop4.drop3.tail.pick1)⟩
       ·refine TR.o rfl rfl wt0 (OpX.buildSlice (ps := #[]) rfl (bs_bool_0 )) (by rintro _ _ ⟨g11, rfl, rfl⟩; intro w h; exact h.drop3.drop2.drop1.tail) ?_; rintro _ _ ⟨g11, rfl, rfl⟩
        refine TR.hp (fun _ h => blk_row (k := 1) (m := 0) h rfl (by decide)) (TR.hp (fun _ h => h.pick2) ?_)
        refine TR.o rfl rfl wt0 (OpX.append (bytes := 16) tsl_string (by decide) (by decide) rfl rw2 (strs_one [[]]) (by omega) (zs := (P ++ [[]]).map sv) (by rw [List.map_append]; rfl)) (by rintro v126 _ rfl; intro w h; exact h.drop3.drop2.drop1.tail) ?_; rintro v126 _ rfl
        refine TR.know (fun _ h => row1 h) (fun o126 => (TR.hp (fun _ h => row_lenM h) (TR.hp (fun _ h => h.pick1) ?_)))
        refine TR.o rfl rfl wt0 (OpX.append (bytes := 1) tsl_bool (by decide) (by decide) rfl hr2.cons.cons.cons.cons.cons.cons (bools_one _) (by omega) (zs := D.map bv) rfl) (by rintro v127 _ rfl; intro w h; exact h.drop3.drop2.drop1.tail) ?_; rintro v127 _ rfl
        refine TR.know (fun _ h => row1 h) (fun o127 => (TR.hp (fun _ h => row_lenM h) ?_))
        refine TR.o rfl rfl wt0 (OpX.append (bytes := 1) tsl_bool (by decide) (by decide) rfl rw3 (bools_one [b]) (by omega) (zs := (D ++ [b]).map bv) (by rw [List.map_append]; rfl)) (by rintro v128 _ rfl; intro w h; exact h.drop3.drop2.drop1.tail) ?_; rintro v128 _ rfl
        refine TR.know (fun _ h => row1 h) (fun o128 => (TR.hp (fun _ h => row_lenM h) (TR.p rfl rfl wt0 (op_build (ps := #[(0, _), (1, _)]) rfl (bl_sealskinref03_Wide_01 _ _)) (TR.hp (fun _ h => h.pick4) ?_))))
        refine TR.z0 rfl wt0 (OpX.storeS tst_sealskinref03_Wide rfl rfl rfl rfl rfl (by first | exact (List.all_eq_true.1 rfl) | (intro u hu; simp only [List.mem_cons, List.not_mem_nil, or_false] at hu; rcases hu with rfl | rfl <;> assumption))) ?_; rintro _ _ rfl
        refine TR.nil (TQ.then (TC.ret ?_))
        refine retc tst_sealskinref03_Wide rfl rfl m0 rfl (fun w' hp => ?_)
        exact ⟨_, _, rfl, ⟨_, _, rfl, by assumption, by assumption, rfl⟩, (hp.drop5.drop4.drop3.tail.pick1)⟩
      ·refine TR.o rfl rfl wt0 (OpX.buildSlice (ps := #[]) rfl (bs_bool_0 )) (by rintro _ _ ⟨g11, rfl, rfl⟩; intro w h; exact h.drop2.drop1.tail) ?_; rintro _ _ ⟨g11, rfl, rfl⟩
       refine TR.hp (fun _ h => blk_row (k := 1) (m := 0) h rfl (by decide)) ?_
       refine TR.o rfl rfl wt0 (OpX.buildSlice (ps := #[(0, _)]) rfl (bs_string_1 _)) (by rintro _ _ ⟨g9, rfl, rfl⟩; intro w h; exact h.drop3.drop2.drop1.tail) ?_; rintro _ _ ⟨g9, rfl, rfl⟩
       refine TR.hp (fun _ h => blk_row (k := 1) (m := 1) h rfl (by decide)) (TR.hp (fun _ h => h.pick2) ?_)
       refine TR.o rfl rfl wt0 (OpX.append (bytes := 16) tsl_string (by decide) (by decide) rfl rw1 (strs_one [[]]) (by omega) (zs := (P ++ [[]]).map sv) (by rw [List.map_append]; rfl)) (by rintro v129 _ rfl; intro w h; exact h.drop3.drop2.drop1.tail) ?_; rintro v129 _ rfl
       refine TR.know (fun _ h => row1 h) (fun o129 => (TR.hp (fun _ h => row_lenM h) (TR.hp (fun _ h => h.pick2) ?_)))
       refine TR.o rfl rfl wt0 (OpX.append (bytes := 1) tsl_bool (by decide) (by decide) rfl hr2.cons.cons.cons.cons.cons.cons (bools_one _) (by omega) (zs := D.map bv) rfl) (by rintro v130 _ rfl; intro w h; exact h.drop3.drop2.drop1.tail) ?_; rintro v130 _ rfl
       refine TR.know (fun _ h => row1 h) (fun o130 => (TR.hp (fun _ h => row_lenM h) ?_))
       refine TR.o rfl rfl wt0 (OpX.append (bytes := 1) tsl_bool (by decide) (by decide) rfl rw3 (bools_one [b]) (by omega) (zs := (D ++ [b]).map bv) (by rw [List.map_append]; rfl)) (by rintro v131 _ rfl; intro w h; exact h.drop3.drop2.drop1.tail) ?_; rintro v131 _ rfl
       refine TR.know (fun _ h => row1 h) (fun o131 => (TR.hp (fun _ h => row_lenM h) (TR.p rfl rfl wt0 (op_build (ps := #[(0, _), (1, _)]) rfl (bl_sealskinref03_Wide_01 _ _)) (TR.hp (fun _ h => h.pick4) ?_))))
       refine TR.z0 rfl wt0 (OpX.storeS tst_sealskinref03_Wide rfl rfl rfl rfl rfl (by first | exact (List.all_eq_true.1 rfl) | (intro u hu; simp only [List.mem_cons, List.not_mem_nil, or_false] at hu; rcases hu with rfl | rfl <;> assumption))) ?_; rintro _ _ rfl
       refine TR.nil (TQ.then (TC.ret ?_))
       refine retc tst_sealskinref03_Wide rfl rfl m0 rfl (fun w' hp => ?_)
       exact ⟨_, _, rfl, ⟨_, _, rfl, by assumption, by assumption, rfl⟩, (hp.drop5.drop4.drop3.tail.pick1)⟩
     ·refine TR.alt ?_ ?_
      ·refine TR.o rfl rfl wt0 (OpX.buildSlice (ps := #[(0, _)]) rfl (bs_string_1 _)) (by rintro _ _ ⟨g9, rfl, rfl⟩; intro w h; exact h.drop2.drop1.tail) ?_; rintro _ _ ⟨g9, rfl, rfl⟩
       refine TR.hp (fun _ h => blk_row (k := 1) (m := 1) h rfl (by decide)) ?_
       refine TR.alt ?_ ?_
       ·refine TR.hp (fun _ h => h.pick2) ?_
        refine TR.o rfl rfl wt0 (OpX.append (bytes := 16) tsl_string (by decide) (by decide) rfl hr.cons.cons.cons.cons.cons (strs_one _) (by omega) (zs := P.map sv) rfl) (by rintro v132 _ rfl; intro w h; exact h.drop2.drop1.tail) ?_; rintro v132 _ rfl
        refine TR.know (fun _ h => row1 h) (fun o132 => (TR.hp (fun _ h => row_lenM h) ?_))
        refine TR.alt ?_ ?_
        ·refine TR.o rfl rfl wt0 (OpX.append (bytes := 16) tsl_string (by decide) (by decide) rfl rw1 (strs_one [[]]) (by omega) (zs := (P ++ [[]]).map sv) (by rw [List.map_append]; rfl)) (by rintro v133 _ rfl; intro w h; exact h.drop2.drop1.tail) ?_; rintro v133 _ rfl
         refine TR.know (fun _ h => row1 h) (fun o133 => (TR.hp (fun _ h => row_lenM h) ?_))
         refine TR.o rfl rfl wt0 (OpX.buildSlice (ps := #[]) rfl (bs_bool_0 )) (by rintro _ _ ⟨g11, rfl, rfl⟩; intro w h; exact h.drop3.drop2.drop1.tail) ?_; rintro _ _ ⟨g11, rfl, rfl⟩
         refine TR.hp (fun _ h => blk_row (k := 1) (m := 0) h rfl (by decide)) ?_
         refine TR.o rfl rfl wt0 (OpX.append (bytes := 1) tsl_bool (by decide) (by decide) rfl hr2.cons.cons.cons.cons.cons.cons (bools_one _) (by omega) (zs := D.map bv) rfl) (by rintro v134 _ rfl; intro w h; exact h.drop3.drop2.drop1.tail) ?_; rintro v134 _ rfl
         refine TR.know (fun _ h => row1 h) (fun o134 => (TR.hp (fun _ h => row_lenM h) ?_))
         refine TR.o rfl rfl wt0 (OpX.append (bytes := 1) tsl_bool (by decide) (by decide) rfl rw3 (bools_one [b]) (by omega) (zs := (D ++ [b]).map bv) (by rw [List.map_append]; rfl)) (by rintro v135 _ rfl; intro w h; exact h.drop3.drop2.drop1.tail) ?_; rintro v135 _ rfl
         refine TR.know (fun _ h => row1 h) (fun o135 => (TR.hp (fun _ h => row_lenM h) (TR.p rfl rfl wt0 (op_build (ps := #[(0, _), (1, _)]) rfl (bl_sealskinref03_Wide_01 _ _)) (TR.hp (fun _ h => h.pick4) ?_))))
         refine TR.z0 rfl wt0 (OpX.storeS tst_sealskinref03_Wide rfl rfl rfl rfl rfl (by first | exact (List.all_eq_true.1 rfl) | (intro u hu; simp only [List.mem_cons, List.not_mem_nil, or_false] at hu; rcases hu with rfl | rfl <;> assumption))) ?_; rintro _ _ rfl
         refine TR.nil (TQ.then (TC.ret ?_))
         refine retc tst_sealskinref03_Wide rfl rfl m0 rfl (fun w' hp => ?_)
         exact ⟨_, _, rfl, ⟨_, _, rfl, by assumption, by assumption, rfl⟩, (hp.drop5.drop4.drop3.tail.pick1)⟩
        ·refine TR.o rfl rfl wt0 (OpX.buildSlice (ps := #[]) rfl (bs_bool_0 )) (by rintro _ _ ⟨g11, rfl, rfl⟩; intro w h; exact h.drop3.drop2.drop1.tail) ?_; rintro _ _ ⟨g11, rfl, rfl⟩
         refine TR.hp (fun _ h => blk_row (k := 1) (m := 0) h rfl (by decide)) (TR.hp (fun _ h => h.pick1) ?_)
         refine TR.o rfl rfl wt0 (OpX.append (bytes := 16) tsl_string (by decide) (by decide) rfl rw2 (strs_one [[]]) (by omega) (zs := (P ++ [[]]).map sv) (by rw [List.map_append]; rfl)) (by rintro v136 _ rfl; intro w h; exact h.drop3.drop2.drop1.tail) ?_; rintro v136 _ rfl
         refine TR.know (fun _ h => row1 h) (fun o136 => (TR.hp (fun _ h => row_lenM h) (TR.hp (fun _ h => h.pick1) ?_)))
         refine TR.o rfl rfl wt0 (OpX.append (bytes := 1) tsl_bool (by decide) (by decide) rfl hr2.cons.cons.cons.cons.cons.cons (bools_one _) (by omega) (zs := D.map bv) rfl) (by rintro v137 _ rfl; intro w h; exact h.drop3.drop2.drop1.tail) ?_; rintro v137 _ rfl
         refine TR.know (fun _ h => row1 h) (fun o137 => (TR.hp (fun _ h => row_lenM h) ?_))
         refine TR.o rfl rfl wt0 (OpX.append (bytes := 1) tsl_bool (by decide) (by decide) rfl rw3 (bools_one [b]) (by omega) (zs := (D ++ [b]).map bv) (by rw [List.map_append]; rfl)) (by rintro v138 _ rfl; intro w h; exact h.drop3.drop2.drop1.tail) ?_; rintro v138 _ rfl
         refine TR.know (fun _ h => row1 h) (fun o138 => (TR.hp (fun _ h => row_lenM h) (TR.p rfl rfl wt0 (op_build (ps := #[(0, _), (1, _)]) rfl (bl_sealskinref03_Wide_01 _ _)) (TR.hp (fun _ h => h.pick4) ?_))))
         refine TR.z0 rfl wt0 (OpX.storeS tst_sealskinref03_Wide rfl rfl rfl rfl rfl (by first | exact (List.all_eq_true.1 rfl) | (intro u hu; simp only [List.mem_cons, List.not_mem_nil, or_false] at hu; rcases hu with rfl | rfl <;> assumption))) ?_; rintro _ _ rfl
         refine TR.nil (TQ.then (TC.ret ?_))
         refine retc tst_sealskinref03_Wide rfl rfl m0 rfl (fun w' hp => ?_)
         exact ⟨_, _, rfl, ⟨_, _, rfl, by assumption, by assumption, rfl⟩, (hp.drop5.drop4.drop3.tail.pick1)⟩
       ·refine TR.o rfl rfl wt0 (OpX.buildSlice (ps := #[]) rfl (bs_bool_0 )) (by rintro _ _ ⟨g11, rfl, rfl⟩; intro w h; exact h.drop3.drop2.drop1.tail) ?_; rintro _ _ ⟨g11, rfl, rfl⟩
        refine TR.hp (fun _ h => blk_row (k := 1) (m := 0) h rfl (by decide)) (TR.hp (fun _ h => h.pick3) ?_)
        refine TR.o rfl rfl wt0 (OpX.append (bytes := 16) tsl_string (by decide) (by decide) rfl hr.cons.cons.cons.cons.cons.cons (strs_one _) (by omega) (zs := P.map sv) rfl) (by rintro v139 _ rfl; intro w h; exact h.drop3.drop2.drop1.tail) ?_; rintro v139 _ rfl
        refine TR.know (fun _ h => row1 h) (fun o139 => (TR.hp (fun _ h => row_lenM h) ?_))
        refine TR.o rfl rfl wt0 (OpX.append (bytes := 16) tsl_string (by decide) (by decide) rfl rw2 (strs_one [[]]) (by omega) (zs := (P ++ [[]]).map sv) (by rw [List.map_append]; rfl)) (by rintro v140 _ rfl; intro w h; exact h.drop3.drop2.drop1.tail) ?_; rintro v140 _ rfl
        refine TR.know (fun _ h => row1 h) (fun o140 => (TR.hp (fun _ h => row_lenM h) (TR.hp (fun _ h => h.pick1) ?_)))
        refine TR.o rfl rfl wt0 (OpX.append (bytes := 1) tsl_bool (by decide) (by decide) rfl hr2.cons.cons.cons.cons.cons.cons (bools_one _) (by omega) (zs := D.map bv) rfl) (by rintro v141 _ rfl; intro w h; exact h.drop3.drop2.drop1.tail) ?_; rintro v141 _ rfl
        refine TR.know (fun _ h => row1 h) (fun o141 => (TR.hp (fun _ h => row_lenM h) ?_))
        refine TR.o rfl rfl wt0 (OpX.append (bytes := 1) tsl_bool (by decide) (by decide) rfl rw3 (bools_one [b]) (by omega) (zs := (D ++ [b]).map bv) (by rw [List.map_append]; rfl)) (by rintro v142 _ rfl; intro w h; exact h.drop3.drop2.drop1.tail) ?_; rintro v142 _ rfl
        refine TR.know (fun _ h => row1 h) (fun o142 => (TR.hp (fun _ h => row_lenM h) (TR.p rfl rfl wt0 (op_build (ps := #[(0, _), (1, _)]) rfl (bl_sealskinref03_Wide_01 _ _)) (TR.hp (fun _ h => h.pick4) ?_))))
        refine TR.z0 rfl wt0 (OpX.storeS tst_sealskinref03_Wide rfl rfl rfl rfl rfl (by first | exact (List.all_eq_true.1 rfl) | (intro u hu; simp only [List.mem_cons, List.not_mem_nil, or_false] at hu; rcases hu with rfl | rfl <;> assumption))) ?_; rintro _ _ rfl
        refine TR.nil (TQ.then (TC.ret ?_))
        refine retc tst_sealskinref03_Wide rfl rfl m0 rfl (fun w' hp => ?_)
        exact ⟨_, _, rfl, ⟨_, _, rfl, by assumption, by assumption, rfl⟩, (hp.drop5.drop4.drop3.tail.pick1)⟩
      ·refine TR.o rfl rfl wt0 (OpX.buildSlice (ps := #[]) rfl (bs_bool_0 )) (by rintro _ _ ⟨g11, rfl, rfl⟩; intro w h; exact h.drop2.drop1.tail) ?_; rintro _ _ ⟨g11, rfl, rfl⟩
       refine TR.hp (fun _ h => blk_row (k := 1) (m := 0) h rfl (by decide)) ?_
       refine TR.alt ?_ ?_
       ·refine TR.hp (fun _ h => h.pick2) ?_
        refine TR.o rfl rfl wt0 (OpX.append (bytes := 16) tsl_string (by decide) (by decide) rfl hr.cons.cons.cons.cons.cons (strs_one _) (by omega) (zs := P.map sv) rfl) (by rintro v143 _ rfl; intro w h; exact h.drop2.drop1.tail) ?_; rintro v143 _ rfl
        refine TR.know (fun _ h => row1 h) (fun o143 => (TR.hp (fun _ h => row_lenM h) ?_))
        refine TR.o rfl rfl wt0 (OpX.buildSlice (ps := #[(0, _)]) rfl (bs_string_1 _)) (by rintro _ _ ⟨g9, rfl, rfl⟩; intro w h; exact h.drop3.drop2.drop1.tail) ?_; rintro _ _ ⟨g9, rfl, rfl⟩
        refine TR.hp (fun _ h => blk_row (k := 1) (m := 1) h rfl (by decide)) (TR.hp (fun _ h => h.pick1) ?_)
        refine TR.o rfl rfl wt0 (OpX.append (bytes := 16) tsl_string (by decide) (by decide) rfl rw1 (strs_one [[]]) (by omega) (zs := (P ++ [[]]).map sv) (by rw [List.map_append]; rfl)) (by rintro v144 _ rfl; intro w h; exact h.drop3.drop2.drop1.tail) ?_; rintro v144 _ rfl
        refine TR.know (fun _ h => row1 h) (fun o144 => (TR.hp (fun _ h => row_lenM h) (TR.hp (fun _ h => h.pick2) ?_)))
        refine TR.o rfl rfl wt0 (OpX.append (bytes := 1) tsl_bool (by decide) (by decide) rfl hr2.cons.cons.cons.cons.cons.cons (bools_one _) (by omega) (zs := D.map bv) rfl) (by rintro v145 _ rfl; intro w h; exact h.drop3.drop2.drop1.tail) ?_; rintro v145 _ rfl
        refine TR.know (fun _ h => row1 h) (fun o145 => (TR.hp (fun _ h => row_lenM h) ?_))
        refine TR.o rfl rfl wt0 (OpX.append (bytes := 1) tsl_bool (by decide) (by decide) rfl rw3 (bools_one [b]) (by omega) (zs := (D ++ [b]).map bv) (by rw [List.map_append]; rfl)) (by rintro v146 _ rfl; intro w h; exact h.drop3.drop2.drop1.tail) ?_; rintro v146 _ rfl
        refine TR.know (fun _ h => row1 h) (fun o146 => (TR.hp (fun _ h => row_lenM h) (TR.p rfl rfl wt0 (op_build (ps := #[(0, _), (1, _)]) rfl (bl_sealskinref03_Wide_01 _ _)) (TR.hp (fun _ h => h.pick4) ?_))))
        refine TR.z0 rfl wt0 (OpX.storeS tst_sealskinref03_Wide rfl rfl rfl rfl rfl (by first | exact (List.all_eq_true.1 rfl) | (intro u hu; simp only [List.mem_cons, List.not_mem_nil, or_false] at hu; rcases hu with rfl | rfl <;> assumption))) ?_; rintro _ _ rfl
        refine TR.nil (TQ.then (TC.ret ?_))
        refine retc tst_sealskinref03_Wide rfl rfl m0 rfl (fun w' hp => ?_)
        exact ⟨_, _, rfl, ⟨_, _, rfl, by assumption, by assumption, rfl⟩, (hp.drop5.drop4.drop3.tail.pick1)⟩
       ·refine TR.o rfl rfl wt0 (OpX.buildSlice (ps := #[(0, _)]) rfl (bs_string_1 _)) (by rintro _ _ ⟨g9, rfl, rfl⟩; intro w h; exact h.drop3.drop2.drop1.tail) ?_; rintro _ _ ⟨g9, rfl, rfl⟩
        refine TR.hp (fun _ h => blk_row (k := 1) (m := 1) h rfl (by decide)) (TR.hp (fun _ h => h.pick3) ?_)
        refine TR.o rfl rfl wt0 (OpX.append (bytes := 16) tsl_string (by decide) (by decide) rfl hr.cons.cons.cons.cons.cons.cons (strs_one _) (by omega) (zs := P.map sv) rfl) (by rintro v147 _ rfl; intro w h; exact h.drop3.drop2.drop1.tail) ?_; rintro v147 _ rfl
        refine TR.know (fun _ h => row1 h) (fun o147 => (TR.hp (fun _ h => row_lenM h) ?_))
        refine TR.o rfl rfl wt0 (OpX.append (bytes := 16) tsl_string (by decide) (by decide) rfl rw1 (strs_one [[]]) (by omega) (zs := (P ++ [[]]).map sv) (by rw [List.map_append]; rfl)) (by rintro v148 _ rfl; intro w h; exact h.drop3.drop2.drop1.tail) ?_; rintro v148 _ rfl
        refine TR.know (fun _ h => row1 h) (fun o148 => (TR.hp (fun _ h => row_lenM h) (TR.hp (fun _ h => h.pick2) ?_)))
        refine TR.o rfl rfl wt0 (OpX.append (bytes := 1) tsl_bool (by decide) (by decide) rfl hr2.cons.cons.cons.cons.cons.cons (bools_one _) (by omega) (zs := D.map bv) rfl) (by rintro v149 _ rfl; intro w h; exact h.drop3.drop2.drop1.tail) ?_; rintro v149 _ rfl
        refine TR.know (fun _ h => row1 h) (fun o149 => (TR.hp (fun _ h => row_lenM h) ?_))
        refine TR.o rfl rfl wt0 (OpX.append (bytes := 1) tsl_bool (by decide) (by decide) rfl rw3 (bools_one [b]) (by omega) (zs := (D ++ [b]).map bv) (by rw [List.map_append]; rfl)) (by rintro v150 _ rfl; intro w h; exact h.drop3.drop2.drop1.tail) ?_; rintro v150 _ rfl
        refine TR.know (fun _ h => row1 h) (fun o150 => (TR.hp (fun _ h => row_lenM h) (TR.p rfl rfl wt0 (op_build (ps := #[(0, _), (1, _)]) rfl (bl_sealskinref03_Wide_01 _ _)) (TR.hp (fun _ h => h.pick4) ?_))))
        refine TR.z0 rfl wt0 (OpX.storeS tst_sealskinref03_Wide rfl rfl rfl rfl rfl (by first | exact (List.all_eq_true.1 rfl) | (intro u hu; simp only [List.mem_cons, List.not_mem_nil, or_false] at hu; rcases hu with rfl | rfl <;> assumption))) ?_; rintro _ _ rfl
        refine TR.nil (TQ.then (TC.ret ?_))
        refine retc tst_sealskinref03_Wide rfl rfl m0 rfl (fun w' hp => ?_)
        exact ⟨_, _, rfl, ⟨_, _, rfl, by assumption, by assumption, rfl⟩, (hp.drop5.drop4.drop3.tail.pick1)⟩
 ·refine TR.alt ?_ ?_
  ·refine TR.o rfl rfl wt0 (OpX.buildSlice (ps := #[(0, _)]) rfl (bs_string_1 _)) (by rintro _ _ ⟨g9, rfl, rfl⟩; intro w h; exact h.tail) ?_; rintro _ _ ⟨g9, rfl, rfl⟩
   refine TR.hp (fun _ h => blk_row (k := 1) (m := 1) h rfl (by decide)) ?_
   refine TR.alt ?_ ?_
   ·refine TR.o rfl rfl wt0 (OpX.buildSlice (ps := #[]) rfl (bs_string_0 )) (by rintro _ _ ⟨g5, rfl, rfl⟩; intro w h; exact h.drop1.tail) ?_; rintro _ _ ⟨g5, rfl, rfl⟩
    refine TR.hp (fun _ h => blk_row (k := 1) (m := 0) h rfl (by decide)) ?_
    refine TR.alt ?_ ?_
    ·refine TR.o rfl rfl wt0 (OpX.append (bytes := 16) tsl_string (by decide) (by decide) rfl hr.cons.cons.cons.cons (strs_one _) (by omega) (zs := P.map sv) rfl) (by rintro v151 _ rfl; intro w h; exact h.drop1.tail) ?_; rintro v151 _ rfl
     refine TR.know (fun _ h => row1 h) (fun o151 => (TR.hp (fun _ h => row_lenM h) ?_))
     refine TR.alt ?_ ?_
     ·refine TR.o rfl rfl wt0 (OpX.append (bytes := 16) tsl_string (by decide) (by decide) rfl rw1 (strs_one [[]]) (by omega) (zs := (P ++ [[]]).map sv) (by rw [List.map_append]; rfl)) (by rintro v152 _ rfl; intro w h; exact h.drop1.tail) ?_; rintro v152 _ rfl
      refine TR.know (fun _ h => row1 h) (fun o152 => (TR.hp (fun _ h => row_lenM h) ?_))
      refine TR.alt ?_ ?_
      ·refine TR.o rfl rfl wt0 (OpX.buildSlice (ps := #[]) rfl (bs_bool_0 )) (by rintro _ _ ⟨g11, rfl, rfl⟩; intro w h; exact h.drop2.drop1.tail) ?_; rintro _ _ ⟨g11, rfl, rfl⟩
       refine TR.hp (fun _ h => blk_row (k := 1) (m := 0) h rfl (by decide)) ?_
       refine TR.alt ?_ ?_
       ·refine TR.o rfl rfl wt0 (OpX.append (bytes := 1) tsl_bool (by decide) (by decide) rfl hr2.cons.cons.cons.cons.cons (bools_one _) (by omega) (zs := D.map bv) rfl) (by rintro v153 _ rfl; intro w h; exact h.drop2.drop1.tail) ?_; rintro v153 _ rfl
        refine TR.know (fun _ h => row1 h) (fun o153 => (TR.hp (fun _ h => row_lenM h) ?_))
        refine TR.o rfl rfl wt0 (OpX.buildSlice (ps := #[(0, _)]) rfl (bs_bool_1 _)) (by rintro _ _ ⟨g16, rfl, rfl⟩; intro w h; exact h.drop3.drop2.drop1.tail) ?_; rintro _ _ ⟨g16, rfl, rfl⟩
        refine TR.hp (fun _ h => blk_row (k := 1) (m := 1) h rfl (by decide)) (TR.hp (fun _ h => h.pick1) ?_)
        refine TR.o rfl rfl wt0 (OpX.append (bytes := 1) tsl_bool (by decide) (by decide) rfl rw1 (bools_one [b]) (by omega) (zs := (D ++ [b]).map bv) (by rw [List.map_append]; rfl)) (by rintro v154 _ rfl; intro w h; exact h.drop3.drop2.drop1.tail) ?_; rintro v154 _ rfl
        refine TR.know (fun _ h => row1 h) (fun o154 => (TR.hp (fun _ h => row_lenM h) (TR.p rfl rfl wt0 (op_build (ps := #[(0, _), (1, _)]) rfl (bl_sealskinref03_Wide_01 _ _)) (TR.hp (fun _ h => h.pick4) ?_))))
        refine TR.z0 rfl wt0 (OpX.storeS tst_sealskinref03_Wide rfl rfl rfl rfl rfl (by first | exact (List.all_eq_true.1 rfl) | (intro u hu; simp only [List.mem_cons, List.not_mem_nil, or_false] at hu; rcases hu with rfl | rfl <;> assumption))) ?_; rintro _ _ rfl
        refine TR.nil (TQ.then (TC.ret ?_))
        refine retc tst_sealskinref03_Wide rfl rfl m0 rfl (fun w' hp => ?_)
        exact ⟨_, _, rfl, ⟨_, _, rfl, by assumption, by assumption, rfl⟩, (hp.drop5.drop4.drop2.tail.pick1)⟩
       ·refine TR.o rfl rfl wt0 (OpX.buildSlice (ps := #[(0, _)]) rfl (bs_bool_1 _)) (by rintro _ _ ⟨g16, rfl, rfl⟩; intro w h; exact h.drop3.drop2.drop1.tail) ?_; rintro _ _ ⟨g16, rfl, rfl⟩
        refine TR.hp (fun _ h => blk_row (k := 1) (m := 1) h rfl (by decide)) (TR.hp (fun _ h => h.pick1) ?_)
        refine TR.o rfl rfl wt0 (OpX.append (bytes := 1) tsl_bool (by decide) (by decide) rfl hr2.cons.cons.cons.cons.cons.cons (bools_one _) (by omega) (zs := D.map bv) rfl) (by rintro v155 _ rfl; intro w h; exact h.drop3.drop2.drop1.tail) ?_; rintro v155 _ rfl
        refine TR.know (fun _ h => row1 h) (fun o155 => (TR.hp (fun _ h => row_lenM h) ?_))
        refine TR.o rfl rfl wt0 (OpX.append (bytes := 1) tsl_bool (by decide) (by decide) rfl rw1 (bools_one [b]) (by omega) (zs := (D ++ [b]).map bv) (by rw [List.map_append]; rfl)) (by rintro v156 _ rfl; intro w h; exact h.drop3.drop2.drop1.tail) ?_; rintro v156 _ rfl
        refine TR.know (fun _ h => row1 h) (fun o156 => (TR.hp (fun _ h => row_lenM h) (TR.p rfl rfl wt0 (op_build (ps := #[(0, _), (1, _)]) rfl (bl_sealskinref03_Wide_01 _ _)) (TR.hp (fun _ h => h.pick4) ?_))))
        refine TR.z0 rfl wt0 (OpX.storeS tst_sealskinref03_Wide rfl rfl rfl rfl rfl (by first | exact (List.all_eq_true.1 rfl) | (intro u hu; simp only [List.mem_cons, List.not_mem_nil, or_false] at hu; rcases hu with rfl | rfl <;> assumption))) ?_; rintro _ _ rfl
        refine TR.nil (TQ.then (TC.ret ?_))
        refine retc tst_sealskinref03_Wide rfl rfl m0 rfl (fun w' hp => ?_)
        exact ⟨_, _, rfl, ⟨_, _, rfl, by assumption, by assumption, rfl⟩, (hp.drop5.drop4.drop2.tail.pick1)⟩
      ·refine TR.o rfl rfl wt0 (OpX.buildSlice (ps := #[(0, _)]) rfl (bs_bool_1 _)) (by rintro _ _ ⟨g16, rfl, rfl⟩; intro w h; exact h.drop2.drop1.tail) ?_; rintro _ _ ⟨g16, rfl, rfl⟩
       refine TR.hp (fun _ h => blk_row (k := 1) (m := 1) h rfl (by decide)) ?_
       refine TR.o rfl rfl wt0 (OpX.buildSlice (ps := #[]) rfl (bs_bool_0 )) (by rintro _ _ ⟨g11, rfl, rfl⟩; intro w h; exact h.drop3.drop2.drop1.tail) ?_; rintro _ _ ⟨g11, rfl, rfl⟩
       refine TR.hp (fun _ h => blk_row (k := 1) (m := 0) h rfl (by decide)) ?_
       refine TR.o rfl rfl wt0 (OpX.append (bytes := 1) tsl_bool (by decide) (by decide) rfl hr2.cons.cons.cons.cons.cons.cons (bools_one _) (by omega) (zs := D.map bv) rfl) (by rintro v157 _ rfl; intro w h; exact h.drop3.drop2.drop1.tail) ?_; rintro v157 _ rfl
       refine TR.know (fun _ h => row1 h) (fun o157 => (TR.hp (fun _ h => row_lenM h) ?_))
       refine TR.o rfl rfl wt0 (OpX.append (bytes := 1) tsl_bool (by decide) (by decide) rfl rw1 (bools_one [b]) (by omega) (zs := (D ++ [b]).map bv) (by rw [List.map_append]; rfl)) (by rintro v158 _ rfl; intro w h; exact h.drop3.drop2.drop1.tail) ?_; rintro v158 _ rfl
       refine TR.know (fun _ h => row1 h) (fun o158 => (TR.hp (fun _ h => row_lenM h) (TR.p rfl rfl wt0 (op_build (ps := #[(0, _), (1, _)]) rfl (bl_sealskinref03_Wide_01 _ _)) (TR.hp (fun _ h => h.pick4) ?_))))
       refine TR.z0 rfl wt0 (OpX.storeS tst_sealskinref03_Wide rfl rfl rfl rfl rfl (by first | exact (List.all_eq_true.1 rfl) | (intro u hu; simp only [List.mem_cons, List.not_mem_nil, or_false] at hu; rcases hu with rfl | rfl <;> assumption))) ?_; rintro _ _ rfl
       refine TR.nil (TQ.then (TC.ret ?_))
       refine retc tst_sealskinref03_Wide rfl rfl m0 rfl (fun w' hp => ?_)
       exact ⟨_, _, rfl, ⟨_, _, rfl, by assumption, by assumption, rfl⟩, (hp.drop5.drop4.drop2.tail.pick1)⟩
     ·refine TR.alt ?_ ?_
      ·refine TR.o rfl rfl wt0 (OpX.buildSlice (ps := #[]) rfl (bs_bool_0 )) (by rintro _ _ ⟨g11, rfl, rfl⟩; intro w h; exact h.drop2.drop1.tail) ?_; rintro _ _ ⟨g11, rfl, rfl⟩
       refine TR.hp (fun _ h => blk_row (k := 1) (m := 0) h rfl (by decide)) ?_
       refine TR.alt ?_ ?_
       ·refine TR.hp (fun _ h => h.pick1) ?_
        refine TR.o rfl rfl wt0 (OpX.append (bytes := 16) tsl_string (by decide) (by decide) rfl rw2 (strs_one [[]]) (by omega) (zs := (P ++ [[]]).map sv) (by rw [List.map_append]; rfl)) (by rintro v159 _ rfl; intro w h; exact h.drop2.drop1.tail) ?_; rintro v159 _ rfl
        refine TR.know (fun _ h => row1 h) (fun o159 => (TR.hp (fun _ h => row_lenM h) ?_))
        refine TR.alt ?_ ?_
        ·refine TR.hp (fun _ h => h.pick1) ?_
         refine TR.o rfl rfl wt0 (OpX.append (bytes := 1) tsl_bool (by decide) (by decide) rfl hr2.cons.cons.cons.cons.cons (bools_one _) (by omega) (zs := D.map bv) rfl) (by rintro v160 _ rfl; intro w h; exact h.drop2.drop1.tail) ?_; rintro v160 _ rfl
         refine TR.know (fun _ h => row1 h) (fun o160 => (TR.hp (fun _ h => row_lenM h) ?_))
         refine TR.o rfl rfl wt0 (OpX.buildSlice (ps := #[(0, _)]) rfl (bs_bool_1 _)) (by rintro _ _ ⟨g16, rfl, rfl⟩; intro w h; exact h.drop3.drop2.drop1.tail) ?_; rintro _ _ ⟨g16, rfl, rfl⟩
         refine TR.hp (fun _ h => blk_row (k := 1) (m := 1) h rfl (by decide)) (TR.hp (fun _ h => h.pick1) ?_)
         refine TR.o rfl rfl wt0 (OpX.append (bytes := 1) tsl_bool (by decide) (by decide) rfl rw1 (bools_one [b]) (by omega) (zs := (D ++ [b]).map bv) (by rw [List.map_append]; rfl)) (by rintro v161 _ rfl; intro w h; exact h.drop3.drop2.drop1.tail) ?_; rintro v161 _ rfl
         refine TR.know (fun _ h => row1 h) (fun o161 => (TR.hp (fun _ h => row_lenM h) (TR.p rfl rfl wt0 (op_build (ps := #[(0, _), (1, _)]) rfl (bl_sealskinref03_Wide_01 _ _)) (TR.hp (fun _ h => h.pick4) ?_))))
         refine TR.z0 rfl wt0 (OpX.storeS tst_sealskinref03_Wide rfl rfl rfl rfl rfl (by first | exact (List.all_eq_true.1 rfl) | (intro u hu; simp only [List.mem_cons, List.not_mem_nil, or_false] at hu; rcases hu with rfl | rfl <;> assumption))) ?_; rintro _ _ rfl
         refine TR.nil (TQ.then (TC.ret ?_))
         refine retc tst_sealskinref03_Wide rfl rfl m0 rfl (fun w' hp => ?_)
         exact ⟨_, _, rfl, ⟨_, _, rfl, by assumption, by assumption, rfl⟩, (hp.drop5.drop4.drop2.tail.pick1)⟩
        ·refine TR.o rfl rfl wt0 (OpX.buildSlice (ps := #[(0, _)]) rfl (bs_bool_1 _)) (by rintro _ _ ⟨g16, rfl, rfl⟩; intro w h; exact h.drop3.drop2.drop1.tail) ?_; rintro _ _ ⟨g16, rfl, rfl⟩
         refine TR.hp (fun _ h => blk_row (k := 1) (m := 1) h rfl (by decide)) (TR.hp (fun _ h => h.pick2) ?_)
         refine TR.o rfl rfl wt0 (OpX.append (bytes := 1) tsl_bool (by decide) (by decide) rfl hr2.cons.cons.cons.cons.cons.cons (bools_one _) (by omega) (zs := D.map bv) rfl) (by rintro v162 _ rfl; intro w h; exact h.drop3.drop2.drop1.tail) ?_; rintro v162 _ rfl
         refine TR.know (fun _ h => row1 h) (fun o162 => (TR.hp (fun _ h => row_lenM h) ?_))
         refine TR.o rfl rfl wt0 (OpX.append (bytes := 1) tsl_bool (by decide) (by decide) rfl rw1 (bools_one [b]) (by omega) (zs := (D ++ [b]).map bv) (by rw [List.map_append]; rfl)) (by rintro v163 _ rfl; intro w h; exact h.drop3.drop2.drop1.tail) ?_; rintro v163 _ rfl
         refine TR.know (fun _ h => row1 h) (fun o163 => (TR.hp (fun _ h => row_lenM h) (TR.p rfl rfl wt0 (op_build (ps := #[(0, _), (1, _)]) rfl (bl_sealskinref03_Wide_01 _ _)) (TR.hp (fun _ h => h.pick4) ?_))))
         refine TR.z0 rfl wt0 (OpX.storeS tst_sealskinref03_Wide rfl rfl rfl rfl rfl (by first | exact (List.all_eq_true.1 rfl) | (intro u hu; simp only [List.mem_cons, List.not_mem_nil, or_false] at hu; rcases hu with rfl | rfl <;> assumption))) ?_; rintro _ _ rfl
         refine TR.nil (TQ.then (TC.ret ?_))
         refine retc tst_sealskinref03_Wide rfl rfl m0 rfl (fun w' hp => ?_)
         exact ⟨_, _, rfl, ⟨_, _, rfl, by assumption, by assumption, rfl⟩, (hp.drop5.drop4.drop2.tail.pick1)⟩
       ·refine TR.o rfl rfl wt0 (OpX.buildSlice (ps := #[(0, _)]) rfl (bs_bool_1 _)) (by rintro _ _ ⟨g16, rfl, rfl⟩; intro w h; exact h.drop3.drop2.drop1.tail) ?_; rintro _ _ ⟨g16, rfl, rfl⟩
        refine TR.hp (fun _ h => blk_row (k := 1) (m := 1) h rfl (by decide)) (TR.hp (fun _ h => h.pick2) ?_)
        refine TR.o rfl rfl wt0 (OpX.append (bytes := 16) tsl_string (by decide) (by decide) rfl rw3 (strs_one [[]]) (by omega) (zs := (P ++ [[]]).map sv) (by rw [List.map_append]; rfl)) (by rintro v164 _ rfl; intro w h; exact h.drop3.drop2.drop1.tail) ?_; rintro v164 _ rfl
        refine TR.know (fun _ h => row1 h) (fun o164 => (TR.hp (fun _ h => row_lenM h) (TR.hp (fun _ h => h.pick2) ?_)))
        refine TR.o rfl rfl wt0 (OpX.append (bytes := 1) tsl_bool (by decide) (by decide) rfl hr2.cons.cons.cons.cons.cons.cons (bools_one _) (by omega) (zs := D.map bv) rfl) (by rintro v165 _ rfl; intro w h; exact h.drop3.drop2.drop1.tail) ?_; rintro v165 _ rfl
        refine TR.know (fun _ h => row1 h) (fun o165 => (TR.hp (fun _ h => row_lenM h) ?_))
        refine TR.o rfl rfl wt0 (OpX.append (bytes := 1) tsl_bool (by decide) (by decide) rfl rw2 (bools_one [b]) (by omega) (zs := (D ++ [b]).map bv) (by rw [List.map_append]; rfl)) (by rintro v166 _ rfl; intro w h; exact h.drop3.drop2.drop1.tail) ?_; rintro v166 _ rfl
        refine TR.know (fun _ h => row1 h) (fun o166 => (TR.hp (fun _ h => row_lenM h) (TR.p rfl rfl wt0 (op_build (ps := #[(0, _), (1, _)]) rfl (bl_sealskinref03_Wide_01 _ _)) (TR.hp (fun _ h => h.pick4) ?_))))
        refine TR.z0 rfl wt0 (OpX.storeS tst_sealskinref03_Wide rfl rfl rfl rfl rfl (by first | exact (List.all_eq_true.1 rfl) | (intro u hu; simp only [List.mem_cons, List.not_mem_nil, or_false] at hu; rcases hu with rfl | rfl <;> assumption))) ?_; rintro _ _ rfl
        refine TR.nil (TQ.then (TC.ret ?_))
        refine retc tst_sealskinref03_Wide rfl rfl m0 rfl (fun w' hp => ?_)
        exact ⟨_, _, rfl, ⟨_, _, rfl, by assumption, by assumption, rfl⟩, (hp.drop5.drop4.drop3.tail.pick1)⟩
      ·refine TR.o rfl rfl wt0 (OpX.buildSlice (ps := #[(0, _)]) rfl (bs_bool_1 _)) (by rintro _ _ ⟨g16, rfl, rfl⟩; intro w h; exact h.drop2.drop1.tail) ?_; rintro _ _ ⟨g16, rfl, rfl⟩
       refine TR.hp (fun _ h => blk_row (k := 1) (m := 1) h rfl (by decide)) ?_
       refine TR.alt ?_ ?_
       ·refine TR.hp (fun _ h => h.pick1) ?_
        refine TR.o rfl rfl wt0 (OpX.append (bytes := 16) tsl_string (by decide) (by decide) rfl rw2 (strs_one [[]]) (by omega) (zs := (P ++ [[]]).map sv) (by rw [List.map_append]; rfl)) (by rintro v167 _ rfl; intro w h; exact h.drop2.drop1.tail) ?_; rintro v167 _ rfl
        refine TR.know (fun _ h => row1 h) (fun o167 => (TR.hp (fun _ h => row_lenM h) ?_))
        refine TR.o rfl rfl wt0 (OpX.buildSlice (ps := #[]) rfl (bs_bool_0 )) (by rintro _ _ ⟨g11, rfl, rfl⟩; intro w h; exact h.drop3.drop2.drop1.tail) ?_; rintro _ _ ⟨g11, rfl, rfl⟩
        refine TR.hp (fun _ h => blk_row (k := 1) (m := 0) h rfl (by decide)) ?_
        refine TR.o rfl rfl wt0 (OpX.append (bytes := 1) tsl_bool (by decide) (by decide) rfl hr2.cons.cons.cons.cons.cons.cons (bools_one _) (by omega) (zs := D.map bv) rfl) (by rintro v168 _ rfl; intro w h; exact h.drop3.drop2.drop1.tail) ?_; rintro v168 _ rfl
        refine TR.know (fun _ h => row1 h) (fun o168 => (TR.hp (fun _ h => row_lenM h) ?_))
        refine TR.o rfl rfl wt0 (OpX.append (bytes := 1) tsl_bool (by decide) (by decide) rfl rw2 (bools_one [b]) (by omega) (zs := (D ++ [b]).map bv) (by rw [List.map_append]; rfl)) (by rintro v169 _ rfl; intro w h; exact h.drop3.drop2.drop1.tail) ?_; rintro v169 _ rfl
        refine TR.know (fun _ h => row1 h) (fun o169 => (TR.hp (fun _ h => row_lenM h) (TR.p rfl rfl wt0 (op_build (ps := #[(0, _), (1, _)]) rfl (bl_sealskinref03_Wide_01 _ _)) (TR.hp (fun _ h => h.pick4) ?_))))
        refine TR.z0 rfl wt0 (OpX.storeS tst_sealskinref03_Wide rfl rfl rfl rfl rfl (by first | exact (List.all_eq_true.1 rfl) | (intro u hu; simp only [List.mem_cons, List.not_mem_nil, or_false] at hu; rcases hu with rfl | rfl <;> assumption))) ?_; rintro _ _ rfl
        refine TR.nil (TQ.then (TC.ret ?_))
        refine retc tst_sealskinref03_Wide rfl rfl m0 rfl (fun w' hp => ?_)
        exact ⟨_, _, rfl, ⟨_, _, rfl, by assumption, by assumption, rfl⟩, (hp.drop5.drop4.drop3.tail.pick1)⟩
       ·refine TR.o rfl rfl wt0 (OpX.buildSlice (ps := #[]) rfl (bs_bool_0 )) (by rintro _ _ ⟨g11, rfl, rfl⟩; intro w h; exact h.drop3.drop2.drop1.tail) ?_; rintro _ _ ⟨g11, rfl, rfl⟩
        refine TR.hp (fun _ h => blk_row (k := 1) (m := 0) h rfl (by decide)) (TR.hp (fun _ h => h.pick2) ?_)
        refine TR.o rfl rfl wt0 (OpX.append (bytes := 16) tsl_string (by decide) (by decide) rfl rw3 (strs_one [[]]) (by omega) (zs := (P ++ [[]]).map sv) (by rw [List.map_append]; rfl)) (by rintro v170 _ rfl; intro w h; exact h.drop3.drop2.drop1.tail) ?_; rintro v170 _ rfl
        refine TR.know (fun _ h => row1 h) (fun o170 => (TR.hp (fun _ h => row_lenM h) (TR.hp (fun _ h => h.pick1) ?_)))
        refine TR.o rfl rfl wt0 (OpX.append (bytes := 1) tsl_bool (by decide) (by decide) rfl hr2.cons.cons.cons.cons.cons.cons (bools_one _) (by omega) (zs := D.map bv) rfl) (by rintro v171 _ rfl; intro w h; exact h.drop3.drop2.drop1.tail) ?_; rintro v171 _ rfl
        refine TR.know (fun _ h => row1 h) (fun o171 => (TR.hp (fun _ h => row_lenM h) ?_))
        refine TR.o rfl rfl wt0 (OpX.append (bytes := 1) tsl_bool (by decide) (by decide) rfl rw2 (bools_one [b]) (by omega) (zs := (D ++ [b]).map bv) (by rw [List.map_append]; rfl)) (by rintro v172 _ rfl; intro w h; exact h.drop3.drop2.drop1.tail) ?_; rintro v172 _ rfl
        refine TR.know (fun _ h => row1 h) (fun o172 => (TR.hp (fun _ h => row_lenM h) (TR.p rfl rfl wt0 (op_build (ps := #[(0, _), (1, _)]) rfl (bl_sealskinref03_Wide_01 _ _)) (TR.hp (fun _ h => h.pick4) ?_))))
        refine TR.z0 rfl wt0 (OpX.storeS tst_sealskinref03_Wide rfl rfl rfl rfl rfl (by first | exact (List.all_eq_true.1 rfl) | (intro u hu; simp only [List.mem_cons, List.not_mem_nil, or_false] at hu; rcases hu with rfl | rfl <;> assumption))) ?_; rintro _ _ rfl
        refine TR.nil (TQ.then (TC.ret ?_))
        refine retc tst_sealskinref03_Wide rfl rfl m0 rfl (fun w' hp => ?_)
        exact ⟨_, _, rfl, ⟨_, _, rfl, by assumption, by assumption, rfl⟩, (hp.drop5.drop4.drop3.tail.pick1)⟩
    ·refine TR.alt ?_ ?_
     ·refine TR.o rfl rfl wt0 (OpX.buildSlice (ps := #[]) rfl (bs_bool_0 )) (by rintro _ _ ⟨g11, rfl, rfl⟩; intro w h; exact h.drop2.drop1.tail) ?_; rintro _ _ ⟨g11, rfl, rfl⟩
      refine TR.hp (fun _ h => blk_row (k := 1) (m := 0) h rfl (by decide)) ?_
      refine TR.alt ?_ ?_
      ·refine TR.hp (fun _ h => h.pick1) ?_
       refine TR.o rfl rfl wt0 (OpX.append (bytes := 16) tsl_string (by decide) (by decide) rfl hr.cons.cons.cons.cons.cons (strs_one _) (by omega) (zs := P.map sv) rfl) (by rintro v173 _ rfl; intro w h; exact h.drop2.drop1.tail) ?_; rintro v173 _ rfl
       refine TR.know (fun _ h => row1 h) (fun o173 => (TR.hp (fun _ h => row_lenM h) ?_))
       refine TR.alt ?_ ?_
       ·refine TR.o rfl rfl wt0 (OpX.append (bytes := 16) tsl_string (by decide) (by decide) rfl rw2 (strs_one [[]]) (by omega) (zs := (P ++ [[]]).map sv) (by rw [List.map_append]; rfl)) (by rintro v174 _ rfl; intro w h; exact h.drop2.drop1.tail) ?_; rintro v174 _ rfl
        refine TR.know (fun _ h => row1 h) (fun o174 => (TR.hp (fun _ h => row_lenM h) ?_))
        refine TR.alt ?_ ?_
        ·refine TR.hp (fun _ h => h.pick1) ?_
         refine TR.o rfl rfl wt0 (OpX.append (bytes := 1) tsl_bool (by decide) (by decide) rfl hr2.cons.cons.cons.cons.cons (bools_one _) (by omega) (zs := D.map bv) rfl) (by rintro v175 _ rfl; intro w h; exact h.drop2.drop1.tail) ?_; rintro v175 _ rfl
         refine TR.know (fun _ h => row1 h) (fun o175 => (TR.hp (fun _ h => row_lenM h) ?_))
         refine TR.o rfl rfl wt0 (OpX.buildSlice (ps := #[(0, _)]) rfl (bs_bool_1 _)) (by rintro _ _ ⟨g16, rfl, rfl⟩; intro w h; exact h.drop3.drop2.drop1.tail) ?_; rintro _ _ ⟨g16, rfl, rfl⟩
         refine TR.hp (fun _ h => blk_row (k := 1) (m := 1) h rfl (by decide)) (TR.hp (fun _ h => h.pick1) ?_)
         refine TR.o rfl rfl wt0 (OpX.append (bytes := 1) tsl_bool (by decide) (by decide) rfl rw1 (bools_one [b]) (by omega) (zs := (D ++ [b]).map bv) (by rw [List.map_append]; rfl)) (by rintro v176 _ rfl; intro w h; exact h.drop3.drop2.drop1.tail) ?_; rintro v176 _ rfl
         refine TR.know (fun _ h => row1 h) (fun o176 => (TR.hp (fun _ h => row_lenM h) (TR.p rfl rfl wt0 (op_build (ps := #[(0, _), (1, _)]) rfl (bl_sealskinref03_Wide_01 _ _)) (TR.hp (fun _ h => h.pick4) ?_))))
         refine TR.z0 rfl wt0 (OpX.storeS tst_sealskinref03_Wide rfl rfl rfl rfl rfl (by first | exact (List.all_eq_true.1 rfl) | (intro u hu; simp only [List.mem_cons, List.not_mem_nil, or_false] at hu; rcases hu with rfl | rfl <;> assumption))) ?_; rintro _ _ rfl
         refine TR.nil (TQ.then (TC.ret ?_))
         refine retc tst_sealskinref03_Wide rfl rfl m0 rfl (fun w' hp => ?_)
         exact ⟨_, _, rfl, ⟨_, _, rfl, by assumption, by assumption, rfl⟩, (hp.drop5.drop4.drop2.tail.pick1)⟩
        ·refine TR.o rfl rfl wt0 (OpX.buildSlice (ps := #[(0, _)]) rfl (bs_bool_1 _)) (by rintro _ _ ⟨g16, rfl, rfl⟩; intro w h; exact h.drop3.drop2.drop1.tail) ?_; rintro _ _ ⟨g16, rfl, rfl⟩
         refine TR.hp (fun _ h => blk_row (k := 1) (m := 1) h rfl (by decide)) (TR.hp (fun _ h => h.pick2) ?_)
         refine TR.o rfl rfl wt0 (OpX.append (bytes := 1) tsl_bool (by decide) (by decide) rfl hr2.cons.cons.cons.cons.cons.cons (bools_one _) (by omega) (zs := D.map bv) rfl) (by rintro v177 _ rfl; intro w h; exact h.drop3.drop2.drop1.tail) ?_; rintro v177 _ rfl
         refine TR.know (fun _ h => row1 h) (fun o177 => (TR.hp (fun _ h => row_lenM h) ?_))
         refine TR.o rfl rfl wt0 (OpX.append (bytes := 1) tsl_bool (by decide) (by decide) rfl rw1 (bools_one [b]) (by omega) (zs := (D ++ [b]).map bv) (by rw [List.map_append]; rfl)) (by rintro v178 _ rfl; intro w h; exact h.drop3.drop2.drop1.tail) ?_; rintro v178 _ rfl
         refine TR.know (fun _ h => row1 h) (fun o178 => (TR.hp (fun _ h => row_lenM h) (TR.p rfl rfl wt0 (op_build (ps := #[(0, _), (1, _)]) rfl (bl_sealskinref03_Wide_01 _ _)) (TR.hp (fun _ h => h.pick4) ?_))))
         refine TR.z0 rfl wt0 (OpX.storeS tst_sealskinref03_Wide rfl rfl rfl rfl rfl (by first | exact (List.all_eq_true.1 rfl) | (intro u hu; simp only [List.mem_cons, List.not_mem_nil, or_false] at hu; rcases hu with rfl | rfl <;> assumption))) ?_; rintro _ _ rfl
         refine TR.nil (TQ.then (TC.ret ?_))
         refine retc tst_sealskinref03_Wide rfl rfl m0 rfl (fun w' hp => ?_)
         exact ⟨_, _, rfl, ⟨_, _, rfl, by assumption, by assumption, rfl⟩, (hp.drop5.drop4.drop2.tail.pick1)⟩
       ·refine TR.o rfl rfl wt0 (OpX.buildSlice (ps := #[(0, _)]) rfl (bs_bool_1 _)) (by rintro _ _ ⟨g16, rfl, rfl⟩; intro w h; exact h.drop3.drop2.drop1.tail) ?_; rintro _ _ ⟨g16, rfl, rfl⟩
        refine TR.hp (fun _ h => blk_row (k := 1) (m := 1) h rfl (by decide)) (TR.hp (fun _ h => h.pick1) ?_)
        refine TR.o rfl rfl wt0 (OpX.append (bytes := 16) tsl_string (by decide) (by decide) rfl rw3 (strs_one [[]]) (by omega) (zs := (P ++ [[]]).map sv) (by rw [List.map_append]; rfl)) (by rintro v179 _ rfl; intro w h; exact h.drop3.drop2.drop1.tail) ?_; rintro v179 _ rfl
        refine TR.know (fun _ h => row1 h) (fun o179 => (TR.hp (fun _ h => row_lenM h) (TR.hp (fun _ h => h.pick2) ?_)))
        refine TR.o rfl rfl wt0 (OpX.append (bytes := 1) tsl_bool (by decide) (by decide) rfl hr2.cons.cons.cons.cons.cons.cons (bools_one _) (by omega) (zs := D.map bv) rfl) (by rintro v180 _ rfl; intro w h; exact h.drop3.drop2.drop1.tail) ?_; rintro v180 _ rfl
        refine TR.know (fun _ h => row1 h) (fun o180 => (TR.hp (fun _ h => row_lenM h) ?_))
        refine TR.o rfl rfl wt0 (OpX.append (bytes := 1) tsl_bool (by decide) (by decide) rfl rw2 (bools_one [b]) (by omega) (zs := (D ++ [b]).map bv) (by rw [List.map_append]; rfl)) (by rintro v181 _ rfl; intro w h; exact h.drop3.drop2.drop1.tail) ?_; rintro v181 _ rfl
        refine TR.know (fun _ h => row1 h) (fun o181 => (TR.hp (fun _ h => row_lenM h) (TR.p rfl rfl wt0 (op_build (ps := #[(0, _), (1, _)]) rfl (bl_sealskinref03_Wide_01 _ _)) (TR.hp (fun _ h => h.pick4) ?_))))
        refine TR.z0 rfl wt0 (OpX.storeS tst_sealskinref03_Wide rfl rfl rfl rfl rfl (by first | exact (List.all_eq_true.1 rfl) | (intro u hu; simp only [List.mem_cons, List.not_mem_nil, or_false] at hu; rcases hu with rfl | rfl <;> assumption))) ?_; rintro _ _ rfl
        refine TR.nil (TQ.then (TC.ret ?_))
        refine retc tst_sealskinref03_Wide rfl rfl m0 rfl (fun w' hp => ?_)
        exact ⟨_, _, rfl, ⟨_, _, rfl, by assumption, by assumption, rfl⟩, (hp.drop5.drop4.drop3.tail.pick1)⟩
      ·refine TR.o rfl rfl wt0 (OpX.buildSlice (ps := #[(0, _)]) rfl (bs_bool_1 _)) (by rintro _ _ ⟨g16, rfl, rfl⟩; intro w h; exact h.drop3.drop2.drop1.tail) ?_; rintro _ _ ⟨g16, rfl, rfl⟩
       refine TR.hp (fun _ h => blk_row (k := 1) (m := 1) h rfl (by decide)) (TR.hp (fun _ h => h.pick2) ?_)
       refine TR.o rfl rfl wt0 (OpX.append (bytes := 16) tsl_string (by decide) (by decide) rfl hr.cons.cons.cons.cons.cons.cons (strs_one _) (by omega) (zs := P.map sv) rfl) (by rintro v182 _ rfl; intro w h; exact h.drop3.drop2.drop1.tail) ?_; rintro v182 _ rfl
       refine TR.know (fun _ h => row1 h) (fun o182 => (TR.hp (fun _ h => row_lenM h) ?_))
       refine TR.o rfl rfl wt0 (OpX.append (bytes := 16) tsl_string (by decide) (by decide) rfl rw3 (strs_one [[]]) (by omega) (zs := (P ++ [[]]).map sv) (by rw [List.map_append]; rfl)) (by rintro v183 _ rfl; intro w h; exact h.drop3.drop2.drop1.tail) ?_; rintro v183 _ rfl
       refine TR.know (fun _ h => row1 h) (fun o183 => (TR.hp (fun _ h => row_lenM h) (TR.hp (fun _ h => h.pick2) ?_)))
       refine TR.o rfl rfl wt0 (OpX.append (bytes := 1) tsl_bool (by decide) (by decide) rfl hr2.cons.cons.cons.cons.cons.cons (bools_one _) (by omega) (zs := D.map bv) rfl) (by rintro v184 _ rfl; intro w h; exact h.drop3.drop2.drop1.tail) ?_; rintro v184 _ rfl
       refine TR.know (fun _ h => row1 h) (fun o184 => (TR.hp (fun _ h => row_lenM h) ?_))
       refine TR.o rfl rfl wt0 (OpX.append (bytes := 1) tsl_bool (by decide) (by decide) rfl rw2 (bools_one [b]) (by omega) (zs := (D ++ [b]).map bv) (by rw [List.map_append]; rfl)) (by rintro v185 _ rfl; intro w h; exact h.drop3.drop2.drop1.tail) ?_; rintro v185 _ rfl
       refine TR.know (fun _ h => row1 h) (fun o185 => (TR.hp (fun _ h => row_lenM h) (TR.p rfl rfl wt0 (op_build (ps := #[(0, _), (1, _)]) rfl (bl_sealskinref03_Wide_01 _ _)) (TR.hp (fun _ h => h.pick4) ?_))))
       refine TR.z0 rfl wt0 (OpX.storeS tst_sealskinref03_Wide rfl rfl rfl rfl rfl (by first | exact (List.all_eq_true.1 rfl) | (intro u hu; simp only [List.mem_cons, List.not_mem_nil, or_false] at hu; rcases hu with rfl | rfl <;> assumption))) ?_; rintro _ _ rfl
       refine TR.nil (TQ.then (TC.ret ?_))
       refine retc tst_sealskinref03_Wide rfl rfl m0 rfl (fun w' hp => ?_)
       exact ⟨_, _, rfl, ⟨_, _, rfl, by assumption, by assumption, rfl⟩, (hp.drop5.drop4.drop3.tail.pick1)⟩
     ·refine TR.o rfl rfl wt0 (OpX.buildSlice (ps := #[(0, _)]) rfl (bs_bool_1 _)) (by rintro _ _ ⟨g16, rfl, rfl⟩; intro w h; exact h.drop2.drop1.tail) ?_; rintro _ _ ⟨g16, rfl, rfl⟩
      refine TR.hp (fun _ h => blk_row (k := 1) (m := 1) h rfl (by decide)) ?_
      refine TR.alt ?_ ?_
      ·refine TR.hp (fun _ h => h.pick1) ?_
       refine TR.o rfl rfl wt0 (OpX.append (bytes := 16) tsl_string (by decide) (by decide) rfl hr.cons.cons.cons.cons.cons (strs_one _) (by omega) (zs := P.map sv) rfl) (by rintro v186 _ rfl; intro w h; exact h.drop2.drop1.tail) ?_; rintro v186 _ rfl
       refine TR.know (fun _ h => row1 h) (fun o186 => (TR.hp (fun _ h => row_lenM h) ?_))
       refine TR.alt ?_ ?_
       ·refine TR.o rfl rfl wt0 (OpX.append (bytes := 16) tsl_string (by decide) (by decide) rfl rw2 (strs_one [[]]) (by omega) (zs := (P ++ [[]]).map sv) (by rw [List.map_append]; rfl)) (by rintro v187 _ rfl; intro w h; exact h.drop2.drop1.tail) ?_; rintro v187 _ rfl
        refine TR.know (fun _ h => row1 h) (fun o187 => (TR.hp (fun _ h => row_lenM h) ?_))
        refine TR.o rfl rfl wt0 (OpX.buildSlice (ps := #[]) rfl (bs_bool_0 )) (by rintro _ _ ⟨g11, rfl, rfl⟩; intro w h; exact h.drop3.drop2.drop1.tail) ?_; rintro _ _ ⟨g11, rfl, rfl⟩
        refine TR.hp (fun _ h => blk_row (k := 1) (m := 0) h rfl (by decide)) ?_
        refine TR.o rfl rfl wt0 (OpX.append (bytes := 1) tsl_bool (by decide) (by decide) rfl hr2.cons.cons.cons.cons.cons.cons (bools_one _) (by omega) (zs := D.map bv) rfl) (by rintro v188 _ rfl; intro w h; exact h.drop3.drop2.drop1.tail) ?_; rintro v188 _ rfl
        refine TR.know (fun _ h => row1 h) (fun o188 => (TR.hp (fun _ h => row_lenM h) ?_))
        refine TR.o rfl rfl wt0 (OpX.append (bytes := 1) tsl_bool (by decide) (by decide) rfl rw2 (bools_one [b]) (by omega) (zs := (D ++ [b]).map bv) (by rw [List.map_append]; rfl)) (by rintro v189 _ rfl; intro w h; exact h.drop3.drop2.drop1.tail) ?_; rintro v189 _ rfl
        refine TR.know (fun _ h => row1 h) (fun o189 => (TR.hp (fun _ h => row_lenM h) (TR.p rfl rfl wt0 (op_build (ps := #[(0, _), (1, _)]) rfl (bl_sealskinref03_Wide_01 _ _)) (TR.hp (fun _ h => h.pick4) ?_))))
        refine TR.z0 rfl wt0 (OpX.storeS tst_sealskinref03_Wide rfl rfl rfl rfl rfl (by first | exact (List.all_eq_true.1 rfl) | (intro u hu; simp only [List.mem_cons, List.not_mem_nil, or_false] at hu; rcases hu with rfl | rfl <;> assumption))) ?_; rintro _ _ rfl
        refine TR.nil (TQ.then (TC.ret ?_))
        refine retc tst_sealskinref03_Wide rfl rfl m0 rfl (fun w' hp => ?_)
        exact ⟨_, _, rfl, ⟨_, _, rfl, by assumption, by assumption, rfl⟩, (hp.drop5.drop4.drop3.tail.pick1)⟩
       ·refine TR.o rfl rfl wt0 (OpX.buildSlice (ps := #[]) rfl (bs_bool_0 )) (by rintro _ _ ⟨g11, rfl, rfl⟩; intro w h; exact h.drop3.drop2.drop1.tail) ?_; rintro _ _ ⟨g11, rfl, rfl⟩
        refine TR.hp (fun _ h => blk_row (k := 1) (m := 0) h rfl (by decide)) (TR.hp (fun _ h => h.pick1) ?_)
        refine TR.o rfl rfl wt0 (OpX.append (bytes := 16) tsl_string (by decide) (by decide) rfl rw3 (strs_one [[]]) (by omega) (zs := (P ++ [[]]).map sv) (by rw [List.map_append]; rfl)) (by rintro v190 _ rfl; intro w h; exact h.drop3.drop2.drop1.tail) ?_; rintro v190 _ rfl
        refine TR.know (fun _ h => row1 h) (fun o190 => (TR.hp (fun _ h => row_lenM h) (TR.hp (fun _ h => h.pick1) ?_)))
        refine TR.o rfl rfl wt0 (OpX.append (bytes := 1) tsl_bool (by decide) (by decide) rfl hr2.cons.cons.cons.cons.cons.cons (bools_one _) (by omega) (zs := D.map bv) rfl) (by rintro v191 _ rfl; intro w h; exact h.drop3.drop2.drop1.tail) ?_; rintro v191 _ rfl
        refine TR.know (fun _ h => row1 h) (fun o191 => (TR.hp (fun _ h => row_lenM h) ?_))
        refine TR.o rfl rfl wt0 (OpX.append (bytes := 1) tsl_bool (by decide) (by decide) rfl rw2 (bools_one [b]) (by omega) (zs := (D ++ [b]).map bv) (by rw [List.map_append]; rfl)) (by rintro v192 _ rfl; intro w h; exact h.drop3.drop2.drop1.tail) ?_; rintro v192 _ rfl
        refine TR.know (fun _ h => row1 h) (fun o192 => (TR.hp (fun _ h => row_lenM h) (TR.p rfl rfl wt0 (op_build (ps := #[(0, _), (1, _)]) rfl (bl_sealskinref03_Wide_01 _ _)) (TR.hp (fun _ h => h.pick4) ?_))))
        refine TR.z0 rfl wt0 (OpX.storeS tst_sealskinref03_Wide rfl rfl rfl rfl rfl (by first | exact (List.all_eq_true.1 rfl) | (intro u hu; simp only [List.mem_cons, List.not_mem_nil, or_false] at hu; rcases hu with rfl | rfl <;> assumption))) ?_; rintro _ _ rfl
        refine TR.nil (TQ.then (TC.ret ?_))
        refine retc tst_sealskinref03_Wide rfl rfl m0 rfl (fun w' hp => ?_)
        exact ⟨_, _, rfl, ⟨_, _, rfl, by assumption, by assumption, rfl⟩, (hp.drop5.drop4.drop3.tail.pick1)⟩
      ·refine TR.o rfl rfl wt0 (OpX.buildSlice (ps := #[]) rfl (bs_bool_0 )) (by rintro _ _ ⟨g11, rfl, rfl⟩; intro w h; exact h.drop3.drop2.drop1.tail) ?_; rintro _ _ ⟨g11, rfl, rfl⟩
       refine TR.hp (fun _ h => blk_row (k := 1) (m := 0) h rfl (by decide)) (TR.hp (fun _ h => h.pick2) ?_)
       refine TR.o rfl rfl wt0 (OpX.append (bytes := 16) tsl_string (by decide) (by decide) rfl hr.cons.cons.cons.cons.cons.cons (strs_one _) (by omega) (zs := P.map sv) rfl) (by rintro v193 _ rfl; intro w h; exact h.drop3.drop2.drop1.tail) ?_; rintro v193 _ rfl
       refine TR.know (fun _ h => row1 h) (fun o193 => (TR.hp (fun _ h => row_lenM h) ?_))
       refine TR.o rfl rfl wt0 (OpX.append (bytes := 16) tsl_string (by decide) (by decide) rfl rw3 (strs_one [[]]) (by omega) (zs := (P ++ [[]]).map sv) (by rw [List.map_append]; rfl)) (by rintro v194 _ rfl; intro w h; exact h.drop3.drop2.drop1.tail) ?_; rintro v194 _ rfl
       refine TR.know (fun _ h => row1 h) (fun o194 => (TR.hp (fun _ h => row_lenM h) (TR.hp (fun _ h => h.pick1) ?_)))
       refine TR.o rfl rfl wt0 (OpX.append (bytes := 1) tsl_bool (by decide) (by decide) rfl hr2.cons.cons.cons.cons.cons.cons (bools_one _) (by omega) (zs := D.map bv) rfl) (by rintro v195 _ rfl; intro w h; exact h.drop3.drop2.drop1.tail) ?_; rintro v195 _ rfl
       refine TR.know (fun _ h => row1 h) (fun o195 => (TR.hp (fun _ h => row_lenM h) ?_))
       refine TR.o rfl rfl wt0 (OpX.append (bytes := 1) tsl_bool (by decide) (by decide) rfl rw2 (bools_one [b]) (by omega) (zs := (D ++ [b]).map bv) (by rw [List.map_append]; rfl)) (by rintro v196 _ rfl; intro w h; exact h.drop3.drop2.drop1.tail) ?_; rintro v196 _ rfl
       refine TR.know (fun _ h => row1 h) (fun o196 => (TR.hp (fun _ h => row_lenM h) (TR.p rfl rfl wt0 (op_build (ps := #[(0, _), (1, _)]) rfl (bl_sealskinref03_Wide_01 _ _)) (TR.hp (fun _ h => h.pick4) ?_))))
       refine TR.z0 rfl wt0 (OpX.storeS tst_sealskinref03_Wide rfl rfl rfl rfl rfl (by first | exact (List.all_eq_true.1 rfl) | (intro u hu; simp only [List.mem_cons, List.not_mem_nil, or_false] at hu; rcases hu with rfl | rfl <;> assumption))) ?_; rintro _ _ rfl
       refine TR.nil (TQ.then (TC.ret ?_))
       refine retc tst_sealskinref03_Wide rfl rfl m0 rfl (fun w' hp => ?_)
       exact ⟨_, _, rfl, ⟨_, _, rfl, by assumption, by assumption, rfl⟩, (hp.drop5.drop4.drop3.tail.pick1)⟩
   ·refine TR.alt ?_ ?_
    ·refine TR.o rfl rfl wt0 (OpX.buildSlice (ps := #[]) rfl (bs_bool_0 )) (by rintro _ _ ⟨g11, rfl, rfl⟩; intro w h; exact h.drop1.tail) ?_; rintro _ _ ⟨g11, rfl, rfl⟩
     refine TR.hp (fun _ h => blk_row (k := 1) (m := 0) h rfl (by decide)) ?_
     refine TR.alt ?_ ?_
     ·refine TR.o rfl rfl wt0 (OpX.buildSlice (ps := #[]) rfl (bs_string_0 )) (by rintro _ _ ⟨g5, rfl, rfl⟩; intro w h; exact h.drop2.drop1.tail) ?_; rintro _ _ ⟨g5, rfl, rfl⟩
      refine TR.hp (fun _ h => blk_row (k := 1) (m := 0) h rfl (by decide)) ?_
      refine TR.alt ?_ ?_
      ·refine TR.o rfl rfl wt0 (OpX.append (bytes := 16) tsl_string (by decide) (by decide) rfl hr.cons.cons.cons.cons.cons (strs_one _) (by omega) (zs := P.map sv) rfl) (by rintro v197 _ rfl; intro w h; exact h.drop2.drop1.tail) ?_; rintro v197 _ rfl
       refine TR.know (fun _ h => row1 h) (fun o197 => (TR.hp (fun _ h => row_lenM h) ?_))
       refine TR.alt ?_ ?_
       ·refine TR.o rfl rfl wt0 (OpX.append (bytes := 16) tsl_string (by decide) (by decide) rfl rw2 (strs_one [[]]) (by omega) (zs := (P ++ [[]]).map sv) (by rw [List.map_append]; rfl)) (by rintro v198 _ rfl; intro w h; exact h.drop2.drop1.tail) ?_; rintro v198 _ rfl
        refine TR.know (fun _ h => row1 h) (fun o198 => (TR.hp (fun _ h => row_lenM h) ?_))
        refine TR.alt ?_ ?_
        ·refine TR.hp (fun _ h => h.pick1) ?_
         refine TR.o rfl rfl wt0 (OpX.append (bytes := 1) tsl_bool (by decide) (by decide) rfl hr2.cons.cons.cons.cons.cons (bools_one _) (by omega) (zs := D.map bv) rfl) (by rintro v199 _ rfl; intro w h; exact h.drop2.drop1.tail) ?_; rintro v199 _ rfl
         refine TR.know (fun _ h => row1 h) (fun o199 => (TR.hp (fun _ h => row_lenM h) ?_))
         refine TR.o rfl rfl wt0 (OpX.buildSlice (ps := #[(0, _)]) rfl (bs_bool_1 _)) (by rintro _ _ ⟨g16, rfl, rfl⟩; intro w h; exact h.drop3.drop2.drop1.tail) ?_; rintro _ _ ⟨g16, rfl, rfl⟩
         refine TR.hp (fun _ h => blk_row (k := 1) (m := 1) h rfl (by decide)) (TR.hp (fun _ h => h.pick1) ?_)
         refine TR.o rfl rfl wt0 (OpX.append (bytes := 1) tsl_bool (by decide) (by decide) rfl rw1 (bools_one [b]) (by omega) (zs := (D ++ [b]).map bv) (by rw [List.map_append]; rfl)) (by rintro v200 _ rfl; intro w h; exact h.drop3.drop2.drop1.tail) ?_; rintro v200 _ rfl
         refine TR.know (fun _ h => row1 h) (fun o200 => (TR.hp (fun _ h => row_lenM h) (TR.p rfl rfl wt0 (op_build (ps := #[(0, _), (1, _)]) rfl (bl_sealskinref03_Wide_01 _ _)) (TR.hp (fun _ h => h.pick4) ?_))))
         refine TR.z0 rfl wt0 (OpX.storeS tst_sealskinref03_Wide rfl rfl rfl rfl rfl (by first | exact (List.all_eq_true.1 rfl) | (intro u hu; simp only [List.mem_cons, List.not_mem_nil, or_false] at hu; rcases hu with rfl | rfl <;> assumption))) ?_; rintro _ _ rfl
         refine TR.nil (TQ.then (TC.ret ?_))
         refine retc tst_sealskinref03_Wide rfl rfl m0 rfl (fun w' hp => ?_)
         exact ⟨_, _, rfl, ⟨_, _, rfl, by assumption, by assumption, rfl⟩, (hp.drop5.drop4.drop2.tail.pick1)⟩
        ·refine TR.o rfl rfl wt0 (OpX.buildSlice (ps := #[(0, _)]) rfl (bs_bool_1 _)) (by rintro _ _ ⟨g16, rfl, rfl⟩; intro w h; exact h.drop3.drop2.drop1.tail) ?_; rintro _ _ ⟨g16, rfl, rfl⟩
         refine TR.hp (fun _ h => blk_row (k := 1) (m := 1) h rfl (by decide)) (TR.hp (fun _ h => h.pick2) ?_)
         refine TR.o rfl rfl wt0 (OpX.append (bytes := 1) tsl_bool (by decide) (by decide) rfl hr2.cons.cons.cons.cons.cons.cons (bools_one _) (by omega) (zs := D.map bv) rfl) (by rintro v201 _ rfl; intro w h; exact h.drop3.drop2.drop1.tail) ?_; rintro v201 _ rfl
         refine TR.know (fun _ h => row1 h) (fun o201 => (TR.hp (fun _ h => row_lenM h) ?_))
         refine TR.o rfl rfl wt0 (OpX.append (bytes := 1) tsl_bool (by decide) (by decide) rfl rw1 (bools_one [b]) (by omega) (zs := (D ++ [b]).map bv) (by rw [List.map_append]; rfl)) (by rintro v202 _ rfl; intro w h; exact h.drop3.drop2.drop1.tail) ?_; rintro v202 _ rfl
         refine TR.know (fun _ h => row1 h) (fun o202 => (TR.hp (fun _ h => row_lenM h) (TR.p rfl rfl wt0 (op_build (ps := #[(0, _), (1, _)]) rfl (bl_sealskinref03_Wide_01 _ _)) (TR.hp (fun _ h => h.pick4) ?_))))
         refine TR.z0 rfl wt0 (OpX.storeS tst_sealskinref03_Wide rfl rfl rfl rfl rfl (by first | exact (List.all_eq_true.1 rfl) | (intro u hu; simp only [List.mem_cons, List.not_mem_nil, or_false] at hu; rcases hu with rfl | rfl <;> assumption))) ?_; rintro _ _ rfl
         refine TR.nil (TQ.then (TC.ret ?_))
         refine retc tst_sealskinref03_Wide rfl rfl m0 rfl (fun w' hp => ?_)
         exact ⟨_, _, rfl, ⟨_, _, rfl, by assumption, by assumption, rfl⟩, (hp.drop5.drop4.drop2.tail.pick1)⟩
       ·refine TR.o rfl rfl wt0 (OpX.buildSlice (ps := #[(0, _)]) rfl (bs_bool_1 _)) (by rintro _ _ ⟨g16, rfl, rfl⟩; intro w h; exact h.drop3.drop2.drop1.tail) ?_; rintro _ _ ⟨g16, rfl, rfl⟩
        refine TR.hp (fun _ h => blk_row (k := 1) (m := 1) h rfl (by decide)) (TR.hp (fun _ h => h.pick1) ?_)
        refine TR.o rfl rfl wt0 (OpX.append (bytes := 16) tsl_string (by decide) (by decide) rfl rw3 (strs_one [[]]) (by omega) (zs := (P ++ [[]]).map sv) (by rw [List.map_append]; rfl)) (by rintro v203 _ rfl; intro w h; exact h.drop3.drop2.drop1.tail) ?_; rintro v203 _ rfl
        refine TR.know (fun _ h => row1 h) (fun o203 => (TR.hp (fun _ h => row_lenM h) (TR.hp (fun _ h => h.pick2) ?_)))
        refine TR.o rfl rfl wt0 (OpX.append (bytes := 1) tsl_bool (by decide) (by decide) rfl hr2.cons.cons.cons.cons.cons.cons (bools_one _) (by omega) (zs := D.map bv) rfl) (by rintro v204 _ rfl; intro w h; exact h.drop3.drop2.drop1.tail) ?_; rintro v204 _ rfl
        refine TR.know (fun _ h => row1 h) (fun o204 => (TR.hp (fun _ h => row_lenM h) ?_))
        refine TR.o rfl rfl wt0 (OpX.append (bytes := 1) tsl_bool (by decide) (by decide) rfl rw2 (bools_one [b]) (by omega) (zs := (D ++ [b]).map bv) (by rw [List.map_append]; rfl)) (by rintro v205 _ rfl; intro w h; exact h.drop3.drop2.drop1.tail) ?_; rintro v205 _ rfl
        refine TR.know (fun _ h => row1 h) (fun o205 => (TR.hp (fun _ h => row_lenM h) (TR.p rfl rfl wt0 (op_build (ps := #[(0, _), (1, _)]) rfl (bl_sealskinref03_Wide_01 _ _)) (TR.hp (fun _ h => h.pick4) ?_))))
        refine TR.z0 rfl wt0 (OpX.storeS tst_sealskinref03_Wide rfl rfl rfl rfl rfl (by first | exact (List.all_eq_true.1 rfl) | (intro u hu; simp only [List.mem_cons, List.not_mem_nil, or_false] at hu; rcases hu with rfl | rfl <;> assumption))) ?_; rintro _ _ rfl
        refine TR.nil (TQ.then (TC.ret ?_))
        refine retc tst_sealskinref03_Wide rfl rfl m0 rfl (fun w' hp => ?_)
        exact ⟨_, _, rfl, ⟨_, _, rfl, by assumption, by assumption, rfl⟩, (hp.drop5.drop4.drop3.tail.pick1)⟩
      ·refine TR.o rfl rfl wt0 (OpX.buildSlice (ps := #[(0, _)]) rfl (bs_bool_1 _)) (by rintro _ _ ⟨g16, rfl, rfl⟩; intro w h; exact h.drop3.drop2.drop1.tail) ?_; rintro _ _ ⟨g16, rfl, rfl⟩
       refine TR.hp (fun _ h => blk_row (k := 1) (m := 1) h rfl (by decide)) (TR.hp (fun _ h => h.pick1) ?_)
       refine TR.o rfl rfl wt0 (OpX.append (bytes := 16) tsl_string (by decide) (by decide) rfl hr.cons.cons.cons.cons.cons.cons (strs_one _) (by omega) (zs := P.map sv) rfl) (by rintro v206 _ rfl; intro w h; exact h.drop3.drop2.drop1.tail) ?_; rintro v206 _ rfl
       refine TR.know (fun _ h => row1 h) (fun o206 => (TR.hp (fun _ h => row_lenM h) ?_))
       refine TR.o rfl rfl wt0 (OpX.append (bytes := 16) tsl_string (by decide) (by decide) rfl rw3 (strs_one [[]]) (by omega) (zs := (P ++ [[]]).map sv) (by rw [List.map_append]; rfl)) (by rintro v207 _ rfl; intro w h; exact h.drop3.drop2.drop1.tail) ?_; rintro v207 _ rfl
       refine TR.know (fun _ h => row1 h) (fun o207 => (TR.hp (fun _ h => row_lenM h) (TR.hp (fun _ h => h.pick2) ?_)))
       refine TR.o rfl rfl wt0 (OpX.append (bytes := 1) tsl_bool (by decide) (by decide) rfl hr2.cons.cons.cons.cons.cons.cons (bools_one _) (by omega) (zs := D.map bv) rfl) (by rintro v208 _ rfl; intro w h; exact h.drop3.drop2.drop1.tail) ?_; rintro v208 _ rfl
       refine TR.know (fun _ h => row1 h) (fun o208 => (TR.hp (fun _ h => row_lenM h) ?_))
       refine TR.o rfl rfl wt0 (OpX.append (bytes := 1) tsl_bool (by decide) (by decide) rfl rw2 (bools_one [b]) (by omega) (zs := (D ++ [b]).map bv) (by rw [List.map_append]; rfl)) (by rintro v209 _ rfl; intro w h; exact h.drop3.drop2.drop1.tail) ?_; rintro v209 _ rfl
       refine TR.know (fun _ h => row1 h) (fun o209 => (TR.hp (fun _ h => row_lenM h) (TR.p rfl rfl wt0 (op_build (ps := #[(0, _), (1, _)]) rfl (bl_sealskinref03_Wide_01 _ _)) (TR.hp (fun _ h => h.pick4) ?_))))
       refine TR.z0 rfl wt0 (OpX.storeS tst_sealskinref03_Wide rfl rfl rfl rfl rfl (by first | exact (List.all_eq_true.1 rfl) | (intro u hu; simp only [List.mem_cons, List.not_mem_nil, or_false] at hu; rcases hu with rfl | rfl <;> assumption))) ?_; rintro _ _ rfl
       refine TR.nil (TQ.then (TC.ret ?_))
       refine retc tst_sealskinref03_Wide rfl rfl m0 rfl (fun w' hp => ?_)
       exact ⟨_, _, rfl, ⟨_, _, rfl, by assumption, by assumption, rfl⟩, (hp.drop5.drop4.drop3.tail.pick1)⟩
     ·refine TR.o rfl rfl wt0 (OpX.buildSlice (ps := #[(0, _)]) rfl (bs_bool_1 _)) (by rintro _ _ ⟨g16, rfl, rfl⟩; intro w h; exact h.drop2.drop1.tail) ?_; rintro _ _ ⟨g16, rfl, rfl⟩
      refine TR.hp (fun _ h => blk_row (k := 1) (m := 1) h rfl (by decide)) ?_
      refine TR.o rfl rfl wt0 (OpX.buildSlice (ps := #[]) rfl (bs_string_0 )) (by rintro _ _ ⟨g5, rfl, rfl⟩; intro w h; exact h.drop3.drop2.drop1.tail) ?_; rintro _ _ ⟨g5, rfl, rfl⟩
      refine TR.hp (fun _ h => blk_row (k := 1) (m := 0) h rfl (by decide)) ?_
      refine TR.o rfl rfl wt0 (OpX.append (bytes := 16) tsl_string (by decide) (by decide) rfl hr.cons.cons.cons.cons.cons.cons (strs_one _) (by omega) (zs := P.map sv) rfl) (by rintro v210 _ rfl; intro w h; exact h.drop3.drop2.drop1.tail) ?_; rintro v210 _ rfl
      refine TR.know (fun _ h => row1 h) (fun o210 => (TR.hp (fun _ h => row_lenM h) ?_))
      refine TR.o rfl rfl wt0 (OpX.append (bytes := 16) tsl_string (by decide) (by decide) rfl rw3 (strs_one [[]]) (by omega) (zs := (P ++ [[]]).map sv) (by rw [List.map_append]; rfl)) (by rintro v211 _ rfl; intro w h; exact h.drop3.drop2.drop1.tail) ?_; rintro v211 _ rfl
      refine TR.know (fun _ h => row1 h) (fun o211 => (TR.hp (fun _ h => row_lenM h) (TR.hp (fun _ h => h.pick2) ?_)))
      refine TR.o rfl rfl wt0 (OpX.append (bytes := 1) tsl_bool (by decide) (by decide) rfl hr2.cons.cons.cons.cons.cons.cons (bools_one _) (by omega) (zs := D.map bv) rfl) (by rintro v212 _ rfl; intro w h; exact h.drop3.drop2.drop1.tail) ?_; rintro v212 _ rfl
      refine TR.know (fun _ h => row1 h) (fun o212 => (TR.hp (fun _ h => row_lenM h) ?_))
      refine TR.o rfl rfl wt0 (OpX.append (bytes := 1) tsl_bool (by decide) (by decide) rfl rw2 (bools_one [b]) (by omega) (zs := (D ++ [b]).map bv) (by rw [List.map_append]; rfl)) (by rintro v213 _ rfl; intro w h; exact h.drop3.drop2.drop1.tail) ?_; rintro v213 _ rfl
      refine TR.know (fun _ h => row1 h) (fun o213 => (TR.hp (fun _ h => row_lenM h) (TR.p rfl rfl wt0 (op_build (ps := #[(0, _), (1, _)]) rfl (bl_sealskinref03_Wide_01 _ _)) (TR.hp (fun _ h => h.pick4) ?_))))
      refine TR.z0 rfl wt0 (OpX.storeS tst_sealskinref03_Wide rfl rfl rfl rfl rfl (by first | exact (List.all_eq_true.1 rfl) | (intro u hu; simp only [List.mem_cons, List.not_mem_nil, or_false] at hu; rcases hu with rfl | rfl <;> assumption))) ?_; rintro _ _ rfl
      refine TR.nil (TQ.then (TC.ret ?_))
      refine retc tst_sealskinref03_Wide rfl rfl m0 rfl (fun w' hp => ?_)
      exact ⟨_, _, rfl, ⟨_, _, rfl, by assumption, by assumption, rfl⟩, (hp.drop5.drop4.drop3.tail.pick1)⟩
    ·refine TR.o rfl rfl wt0 (OpX.buildSlice (ps := #[(0, _)]) rfl (bs_bool_1 _)) (by rintro _ _ ⟨g16, rfl, rfl⟩; intro w h; exact h.drop1.tail) ?_; rintro _ _ ⟨g16, rfl, rfl⟩
     refine TR.hp (fun _ h => blk_row (k := 1) (m := 1) h rfl (by decide)) ?_
     refine TR.alt ?_ ?_
     ·refine TR.o rfl rfl wt0 (OpX.buildSlice (ps := #[]) rfl (bs_string_0 )) (by rintro _ _ ⟨g5, rfl, rfl⟩; intro w h; exact h.drop2.drop1.tail) ?_; rintro _ _ ⟨g5, rfl, rfl⟩
      refine TR.hp (fun _ h => blk_row (k := 1) (m := 0) h rfl (by decide)) ?_
      refine TR.alt ?_ ?_
      ·refine TR.o rfl rfl wt0 (OpX.append (bytes := 16) tsl_string (by decide) (by decide) rfl hr.cons.cons.cons.cons.cons (strs_one _) (by omega) (zs := P.map sv) rfl) (by rintro v214 _ rfl; intro w h; exact h.drop2.drop1.tail) ?_; rintro v214 _ rfl
       refine TR.know (fun _ h => row1 h) (fun o214 => (TR.hp (fun _ h => row_lenM h) ?_))
       refine TR.alt ?_ ?_
       ·refine TR.o rfl rfl wt0 (OpX.append (bytes := 16) tsl_string (by decide) (by decide) rfl rw2 (strs_one [[]]) (by omega) (zs := (P ++ [[]]).map sv) (by rw [List.map_append]; rfl)) (by rintro v215 _ rfl; intro w h; exact h.drop2.drop1.tail) ?_; rintro v215 _ rfl
        refine TR.know (fun _ h => row1 h) (fun o215 => (TR.hp (fun _ h => row_lenM h) ?_))
        refine TR.o rfl rfl wt0 (OpX.buildSlice (ps := #[]) rfl (bs_bool_0 )) (by rintro _ _ ⟨g11, rfl, rfl⟩; intro w h; exact h.drop3.drop2.drop1.tail) ?_; rintro _ _ ⟨g11, rfl, rfl⟩
        refine TR.hp (fun _ h => blk_row (k := 1) (m := 0) h rfl (by decide)) ?_
        refine TR.o rfl rfl wt0 (OpX.append (bytes := 1) tsl_bool (by decide) (by decide) rfl hr2.cons.cons.cons.cons.cons.cons (bools_one _) (by omega) (zs := D.map bv) rfl) (by rintro v216 _ rfl; intro w h; exact h.drop3.drop2.drop1.tail) ?_; rintro v216 _ rfl
        refine TR.know (fun _ h => row1 h) (fun o216 => (TR.hp (fun _ h => row_lenM h) ?_))
        refine TR.o rfl rfl wt0 (OpX.append (bytes := 1) tsl_bool (by decide) (by decide) rfl rw2 (bools_one [b]) (by omega) (zs := (D ++ [b]).map bv) (by rw [List.map_append]; rfl)) (by rintro v217 _ rfl; intro w h; exact h.drop3.drop2.drop1.tail) ?_; rintro v217 _ rfl
        refine TR.know (fun _ h => row1 h) (fun o217 => (TR.hp (fun _ h => row_lenM h) (TR.p rfl rfl wt0 (op_build (ps := #[(0, _), (1, _)]) rfl (bl_sealskinref03_Wide_01 _ _)) (TR.hp (fun _ h => h.pick4) ?_))))
        refine TR.z0 rfl wt0 (OpX.storeS tst_sealskinref03_Wide rfl rfl rfl rfl rfl (by first | exact (List.all_eq_true.1 rfl) | (intro u hu; simp only [List.mem_cons, List.not_mem_nil, or_false] at hu; rcases hu with rfl | rfl <;> assumption))) ?_; rintro _ _ rfl
        refine TR.nil (TQ.then (TC.ret ?_))
        refine retc tst_sealskinref03_Wide rfl rfl m0 rfl (fun w' hp => ?_)
        exact ⟨_, _, rfl, ⟨_, _, rfl, by assumption, by assumption, rfl⟩, (hp.drop5.drop4.drop3.tail.pick1)⟩
       ·refine TR.o rfl rfl wt0 (OpX.buildSlice (ps := #[]) rfl (bs_bool_0 )) (by rintro _ _ ⟨g11, rfl, rfl⟩; intro w h; exact h.drop3.drop2.drop1.tail) ?_; rintro _ _ ⟨g11, rfl, rfl⟩
        refine TR.hp (fun _ h => blk_row (k := 1) (m := 0) h rfl (by decide)) (TR.hp (fun _ h => h.pick1) ?_)
        refine TR.o rfl rfl wt0 (OpX.append (bytes := 16) tsl_string (by decide) (by decide) rfl rw3 (strs_one [[]]) (by omega) (zs := (P ++ [[]]).map sv) (by rw [List.map_append]; rfl)) (by rintro v218 _ rfl; intro w h; exact h.drop3.drop2.drop1.tail) ?_; rintro v218 _ rfl
        refine TR.know (fun _ h => row1 h) (fun o218 => (TR.hp (fun _ h => row_lenM h) (TR.hp (fun _ h => h.pick1) ?_)))
        refine TR.o rfl rfl wt0 (OpX.append (bytes := 1) tsl_bool (by decide) (by decide) rfl hr2.cons.cons.cons.cons.cons.cons (bools_one _) (by omega) (zs := D.map bv) rfl) (by rintro v219 _ rfl; intro w h; exact h.drop3.drop2.drop1.tail) ?_; rintro v219 _ rfl
        refine TR.know (fun _ h => row1 h) (fun o219 => (TR.hp (fun _ h => row_lenM h) ?_))
        refine TR.o rfl rfl wt0 (OpX.append (bytes := 1) tsl_bool (by decide) (by decide) rfl rw2 (bools_one [b]) (by omega) (zs := (D ++ [b]).map bv) (by rw [List.map_append]; rfl)) (by rintro v220 _ rfl; intro w h; exact h.drop3.drop2.drop1.tail) ?_; rintro v220 _ rfl
        refine TR.know (fun _ h => row1 h) (fun o220 => (TR.hp (fun _ h => row_lenM h) (TR.p rfl rfl wt0 (op_build (ps := #[(0, _), (1, _)]) rfl (bl_sealskinref03_Wide_01 _ _)) (TR.hp (fun _ h => h.pick4) ?_))))
        refine TR.z0 rfl wt0 (OpX.storeS tst_sealskinref03_Wide rfl rfl rfl rfl rfl (by first | exact (List.all_eq_true.1 rfl) | (intro u hu; simp only [List.mem_cons, List.not_mem_nil, or_false] at hu; rcases hu with rfl | rfl <;> assumption))) ?_; rintro _ _ rfl
        refine TR.nil (TQ.then (TC.ret ?_))
        refine retc tst_sealskinref03_Wide rfl rfl m0 rfl (fun w' hp => ?_)
        exact ⟨_, _, rfl, ⟨_, _, rfl, by assumption, by assumption, rfl⟩, (hp.drop5.drop4.drop3.tail.pick1)⟩
      ·refine TR.o rfl rfl wt0 (OpX.buildSlice (ps := #[]) rfl (bs_bool_0 )) (by rintro _ _ ⟨g11, rfl, rfl⟩; intro w h; exact h.drop3.drop2.drop1.tail) ?_; rintro _ _ ⟨g11, rfl, rfl⟩
       refine TR.hp (fun _ h => blk_row (k := 1) (m := 0) h rfl (by decide)) (TR.hp (fun _ h => h.pick1) ?_)
       refine TR.o rfl rfl wt0 (OpX.append (bytes := 16) tsl_string (by decide) (by decide) rfl hr.cons.cons.cons.cons.cons.cons (strs_one _) (by omega) (zs := P.map sv) rfl) (by rintro v221 _ rfl; intro w h; exact h.drop3.drop2.drop1.tail) ?_; rintro v221 _ rfl
       refine TR.know (fun _ h => row1 h) (fun o221 => (TR.hp (fun _ h => row_lenM h) ?_))
       refine TR.o rfl rfl wt0 (OpX.append (bytes := 16) tsl_string (by decide) (by decide) rfl rw3 (strs_one [[]]) (by omega) (zs := (P ++ [[]]).map sv) (by rw [List.map_append]; rfl)) (by rintro v222 _ rfl; intro w h; exact h.drop3.drop2.drop1.tail) ?_; rintro v222 _ rfl
       refine TR.know (fun _ h => row1 h) (fun o222 => (TR.hp (fun _ h => row_lenM h) (TR.hp (fun _ h => h.pick1) ?_)))
       refine TR.o rfl rfl wt0 (OpX.append (bytes := 1) tsl_bool (by decide) (by decide) rfl hr2.cons.cons.cons.cons.cons.cons (bools_one _) (by omega) (zs := D.map bv) rfl) (by rintro v223 _ rfl; intro w h; exact h.drop3.drop2.drop1.tail) ?_; rintro v223 _ rfl
       refine TR.know (fun _ h => row1 h) (fun o223 => (TR.hp (fun _ h => row_lenM h) ?_))
       refine TR.o rfl rfl wt0 (OpX.append (bytes := 1) tsl_bool (by decide) (by decide) rfl rw2 (bools_one [b]) (by omega) (zs := (D ++ [b]).map bv) (by rw [List.map_append]; rfl)) (by rintro v224 _ rfl; intro w h; exact h.drop3.drop2.drop1.tail) ?_; rintro v224 _ rfl
       refine TR.know (fun _ h => row1 h) (fun o224 => (TR.hp (fun _ h => row_lenM h) (TR.p rfl rfl wt0 (op_build (ps := #[(0, _), (1, _)]) rfl (bl_sealskinref03_Wide_01 _ _)) (TR.hp (fun _ h => h.pick4) ?_))))
       refine TR.z0 rfl wt0 (OpX.storeS tst_sealskinref03_Wide rfl rfl rfl rfl rfl (by first | exact (List.all_eq_true.1 rfl) | (intro u hu; simp only [List.mem_cons, List.not_mem_nil, or_false] at hu; rcases hu with rfl | rfl <;> assumption))) ?_; rintro _ _ rfl
       refine TR.nil (TQ.then (TC.ret ?_))
       refine retc tst_sealskinref03_Wide rfl rfl m0 rfl (fun w' hp => ?_)
       exact ⟨_, _, rfl, ⟨_, _, rfl, by assumption, by assumption, rfl⟩, (hp.drop5.drop4.drop3.tail.pick1)⟩
     ·refine TR.o rfl rfl wt0 (OpX.buildSlice (ps := #[]) rfl (bs_bool_0 )) (by rintro _ _ ⟨g11, rfl, rfl⟩; intro w h; exact h.drop2.drop1.tail) ?_; rintro _ _ ⟨g11, rfl, rfl⟩
      refine TR.hp (fun _ h => blk_row (k := 1) (m := 0) h rfl (by decide)) ?_
      refine TR.o rfl rfl wt0 (OpX.buildSlice (ps := #[]) rfl (bs_string_0 )) (by rintro _ _ ⟨g5, rfl, rfl⟩; intro w h; exact h.drop3.drop2.drop1.tail) ?_; rintro _ _ ⟨g5, rfl, rfl⟩
      refine TR.hp (fun _ h => blk_row (k := 1) (m := 0) h rfl (by decide)) ?_
      refine TR.o rfl rfl wt0 (OpX.append (bytes := 16) tsl_string (by decide) (by decide) rfl hr.cons.cons.cons.cons.cons.cons (strs_one _) (by omega) (zs := P.map sv) rfl) (by rintro v225 _ rfl; intro w h; exact h.drop3.drop2.drop1.tail) ?_; rintro v225 _ rfl
      refine TR.know (fun _ h => row1 h) (fun o225 => (TR.hp (fun _ h => row_lenM h) ?_))
      refine TR.o rfl rfl wt0 (OpX.append (bytes := 16) tsl_string (by decide) (by decide) rfl rw3 (strs_one [[]]) (by omega) (zs := (P ++ [[]]).map sv) (by rw [List.map_append]; rfl)) (by rintro v226 _ rfl; intro w h; exact h.drop3.drop2.drop1.tail) ?_; rintro v226 _ rfl
      refine TR.know (fun _ h => row1 h) (fun o226 => (TR.hp (fun _ h => row_lenM h) (TR.hp (fun _ h => h.pick1) ?_)))
      refine TR.o rfl rfl wt0 (OpX.append (bytes := 1) tsl_bool (by decide) (by decide) rfl hr2.cons.cons.cons.cons.cons.cons (bools_one _) (by omega) (zs := D.map bv) rfl) (by rintro v227 _ rfl; intro w h; exact h.drop3.drop2.drop1.tail) ?_; rintro v227 _ rfl
      refine TR.know (fun _ h => row1 h) (fun o227 => (TR.hp (fun _ h => row_lenM h) ?_))
      refine TR.o rfl rfl wt0 (OpX.append (bytes := 1) tsl_bool (by decide) (by decide) rfl rw2 (bools_one [b]) (by omega) (zs := (D ++ [b]).map bv) (by rw [List.map_append]; rfl)) (by rintro v228 _ rfl; intro w h; exact h.drop3.drop2.drop1.tail) ?_; rintro v228 _ rfl
      refine TR.know (fun _ h => row1 h) (fun o228 => (TR.hp (fun _ h => row_lenM h) (TR.p rfl rfl wt0 (op_build (ps := #[(0, _), (1, _)]) rfl (bl_sealskinref03_Wide_01 _ _)) (TR.hp (fun _ h => h.pick4) ?_))))
      refine TR.z0 rfl wt0 (OpX.storeS tst_sealskinref03_Wide rfl rfl rfl rfl rfl (by first | exact (List.all_eq_true.1 rfl) | (intro u hu; simp only [List.mem_cons, List.not_mem_nil, or_false] at hu; rcases hu with rfl | rfl <;> assumption))) ?_; rintro _ _ rfl
      refine TR.nil (TQ.then (TC.ret ?_))
      refine retc tst_sealskinref03_Wide rfl rfl m0 rfl (fun w' hp => ?_)
      exact ⟨_, _, rfl, ⟨_, _, rfl, by assumption, by assumption, rfl⟩, (hp.drop5.drop4.drop3.tail.pick1)⟩
  ·refine TR.alt ?_ ?_
   ·refine TR.o rfl rfl wt0 (OpX.buildSlice (ps := #[]) rfl (bs_bool_0 )) (by rintro _ _ ⟨g11, rfl, rfl⟩; intro w h; exact h.tail) ?_; rintro _ _ ⟨g11, rfl, rfl⟩
    refine TR.hp (fun _ h => blk_row (k := 1) (m := 0) h rfl (by decide)) ?_
    refine TR.alt ?_ ?_
    ·refine TR.o rfl rfl wt0 (OpX.buildSlice (ps := #[]) rfl (bs_string_0 )) (by rintro _ _ ⟨g5, rfl, rfl⟩; intro w h; exact h.drop1.tail) ?_; rintro _ _ ⟨g5, rfl, rfl⟩
     refine TR.hp (fun _ h => blk_row (k := 1) (m := 0) h rfl (by decide)) ?_
     refine TR.alt ?_ ?_
     ·refine TR.o rfl rfl wt0 (OpX.append (bytes := 16) tsl_string (by decide) (by decide) rfl hr.cons.cons.cons.cons (strs_one _) (by omega) (zs := P.map sv) rfl) (by rintro v229 _ rfl; intro w h; exact h.drop1.tail) ?_; rintro v229 _ rfl
      refine TR.know (fun _ h => row1 h) (fun o229 => (TR.hp (fun _ h => row_lenM h) ?_))
      refine TR.alt ?_ ?_
      ·refine TR.o rfl rfl wt0 (OpX.buildSlice (ps := #[(0, _)]) rfl (bs_string_1 _)) (by rintro _ _ ⟨g9, rfl, rfl⟩; intro w h; exact h.drop2.drop1.tail) ?_; rintro _ _ ⟨g9, rfl, rfl⟩
       refine TR.hp (fun _ h => blk_row (k := 1) (m := 1) h rfl (by decide)) ?_
       refine TR.alt ?_ ?_
       ·refine TR.hp (fun _ h => h.pick1) ?_
        refine TR.o rfl rfl wt0 (OpX.append (bytes := 16) tsl_string (by decide) (by decide) rfl rw1 (strs_one [[]]) (by omega) (zs := (P ++ [[]]).map sv) (by rw [List.map_append]; rfl)) (by rintro v230 _ rfl; intro w h; exact h.drop2.drop1.tail) ?_; rintro v230 _ rfl
        refine TR.know (fun _ h => row1 h) (fun o230 => (TR.hp (fun _ h => row_lenM h) ?_))
        refine TR.alt ?_ ?_
        ·refine TR.hp (fun _ h => h.pick2) ?_
         refine TR.o rfl rfl wt0 (OpX.append (bytes := 1) tsl_bool (by decide) (by decide) rfl hr2.cons.cons.cons.cons.cons (bools_one _) (by omega) (zs := D.map bv) rfl) (by rintro v231 _ rfl; intro w h; exact h.drop2.drop1.tail) ?_; rintro v231 _ rfl
         refine TR.know (fun _ h => row1 h) (fun o231 => (TR.hp (fun _ h => row_lenM h) ?_))
         refine TR.o rfl rfl wt0 (OpX.buildSlice (ps := #[(0, _)]) rfl (bs_bool_1 _)) (by rintro _ _ ⟨g16, rfl, rfl⟩; intro w h; exact h.drop3.drop2.drop1.tail) ?_; rintro _ _ ⟨g16, rfl, rfl⟩
         refine TR.hp (fun _ h => blk_row (k := 1) (m := 1) h rfl (by decide)) (TR.hp (fun _ h => h.pick1) ?_)
         refine TR.o rfl rfl wt0 (OpX.append (bytes := 1) tsl_bool (by decide) (by decide) rfl rw1 (bools_one [b]) (by omega) (zs := (D ++ [b]).map bv) (by rw [List.map_append]; rfl)) (by rintro v232 _ rfl; intro w h; exact h.drop3.drop2.drop1.tail) ?_; rintro v232 _ rfl
         refine TR.know (fun _ h => row1 h) (fun o232 => (TR.hp (fun _ h => row_lenM h) (TR.p rfl rfl wt0 (op_build (ps := #[(0, _), (1, _)]) rfl (bl_sealskinref03_Wide_01 _ _)) (TR.hp (fun _ h => h.pick4) ?_))))
         refine TR.z0 rfl wt0 (OpX.storeS tst_sealskinref03_Wide rfl rfl rfl rfl rfl (by first | exact (List.all_eq_true.1 rfl) | (intro u hu; simp only [List.mem_cons, List.not_mem_nil, or_false] at hu; rcases hu with rfl | rfl <;> assumption))) ?_; rintro _ _ rfl
         refine TR.nil (TQ.then (TC.ret ?_))
         refine retc tst_sealskinref03_Wide rfl rfl m0 rfl (fun w' hp => ?_)
         exact ⟨_, _, rfl, ⟨_, _, rfl, by assumption, by assumption, rfl⟩, (hp.drop5.drop4.drop2.tail.pick1)⟩
        ·refine TR.o rfl rfl wt0 (OpX.buildSlice (ps := #[(0, _)]) rfl (bs_bool_1 _)) (by rintro _ _ ⟨g16, rfl, rfl⟩; intro w h; exact h.drop3.drop2.drop1.tail) ?_; rintro _ _ ⟨g16, rfl, rfl⟩
         refine TR.hp (fun _ h => blk_row (k := 1) (m := 1) h rfl (by decide)) (TR.hp (fun _ h => h.pick3) ?_)
         refine TR.o rfl rfl wt0 (OpX.append (bytes := 1) tsl_bool (by decide) (by decide) rfl hr2.cons.cons.cons.cons.cons.cons (bools_one _) (by omega) (zs := D.map bv) rfl) (by rintro v233 _ rfl; intro w h; exact h.drop3.drop2.drop1.tail) ?_; rintro v233 _ rfl
         refine TR.know (fun _ h => row1 h) (fun o233 => (TR.hp (fun _ h => row_lenM h) ?_))
         refine TR.o rfl rfl wt0 (OpX.append (bytes := 1) tsl_bool (by decide) (by decide) rfl rw1 (bools_one [b]) (by omega) (zs := (D ++ [b]).map bv) (by rw [List.map_append]; rfl)) (by rintro v234 _ rfl; intro w h; exact h.drop3.drop2.drop1.tail) ?_; rintro v234 _ rfl
         refine TR.know (fun _ h => row1 h) (fun o234 => (TR.hp (fun _ h => row_lenM h) (TR.p rfl rfl wt0 (op_build (ps := #[(0, _), (1, _)]) rfl (bl_sealskinref03_Wide_01 _ _)) (TR.hp (fun _ h => h.pick4) ?_))))
         refine TR.z0 rfl wt0 (OpX.storeS tst_sealskinref03_Wide rfl rfl rfl rfl rfl (by first | exact (List.all_eq_true.1 rfl) | (intro u hu; simp only [List.mem_cons, List.not_mem_nil, or_false] at hu; rcases hu with rfl | rfl <;> assumption))) ?_; rintro _ _ rfl
         refine TR.nil (TQ.then (TC.ret ?_))
         refine retc tst_sealskinref03_Wide rfl rfl m0 rfl (fun w' hp => ?_)
         exact ⟨_, _, rfl, ⟨_, _, rfl, by assumption, by assumption, rfl⟩, (hp.drop5.drop4.drop2.tail.pick1)⟩
       ·refine TR.o rfl rfl wt0 (OpX.buildSlice (ps := #[(0, _)]) rfl (bs_bool_1 _)) (by rintro _ _ ⟨g16, rfl, rfl⟩; intro w h; exact h.drop3.drop2.drop1.tail) ?_; rintro _ _ ⟨g16, rfl, rfl⟩
        refine TR.hp (fun _ h => blk_row (k := 1) (m := 1) h rfl (by decide)) (TR.hp (fun _ h => h.pick2) ?_)
        refine TR.o rfl rfl wt0 (OpX.append (bytes := 16) tsl_string (by decide) (by decide) rfl rw2 (strs_one [[]]) (by omega) (zs := (P ++ [[]]).map sv) (by rw [List.map_append]; rfl)) (by rintro v235 _ rfl; intro w h; exact h.drop3.drop2.drop1.tail) ?_; rintro v235 _ rfl
        refine TR.know (fun _ h => row1 h) (fun o235 => (TR.hp (fun _ h => row_lenM h) (TR.hp (fun _ h => h.pick3) ?_)))
        refine TR.o rfl rfl wt0 (OpX.append (bytes := 1) tsl_bool (by decide) (by decide) rfl hr2.cons.cons.cons.cons.cons.cons (bools_one _) (by omega) (zs := D.map bv) rfl) (by rintro v236 _ rfl; intro w h; exact h.drop3.drop2.drop1.tail) ?_; rintro v236 _ rfl
        refine TR.know (fun _ h => row1 h) (fun o236 => (TR.hp (fun _ h => row_lenM h) ?_))
        refine TR.o rfl rfl wt0 (OpX.append (bytes := 1) tsl_bool (by decide) (by decide) rfl rw2 (bools_one [b]) (by omega) (zs := (D ++ [b]).map bv) (by rw [List.map_append]; rfl)) (by rintro v237 _ rfl; intro w h; exact h.drop3.drop2.drop1.tail) ?_; rintro v237 _ rfl
        refine TR.know (fun _ h => row1 h) (fun o237 => (TR.hp (fun _ h => row_lenM h) (TR.p rfl rfl wt0 (op_build (ps := #[(0, _), (1, _)]) rfl (bl_sealskinref03_Wide_01 _ _)) (TR.hp (fun _ h => h.pick4) ?_))))
        refine TR.z0 rfl wt0 (OpX.storeS tst_sealskinref03_Wide rfl rfl rfl rfl rfl (by first | exact (List.all_eq_true.1 rfl) | (intro u hu; simp only [List.mem_cons, List.not_mem_nil, or_false] at hu; rcases hu with rfl | rfl <;> assumption))) ?_; rintro _ _ rfl
        refine TR.nil (TQ.then (TC.ret ?_))
        refine retc tst_sealskinref03_Wide rfl rfl m0 rfl (fun w' hp => ?_)
        exact ⟨_, _, rfl, ⟨_, _, rfl, by assumption, by assumption, rfl⟩, (hp.drop5.drop4.drop3.tail.pick1)⟩
      ·refine TR.o rfl rfl wt0 (OpX.buildSlice (ps := #[(0, _)]) rfl (bs_bool_1 _)) (by rintro _ _ ⟨g16, rfl, rfl⟩; intro w h; exact h.drop2.drop1.tail) ?_; rintro _ _ ⟨g16, rfl, rfl⟩
       refine TR.hp (fun _ h => blk_row (k := 1) (m := 1) h rfl (by decide)) ?_
       refine TR.o rfl rfl wt0 (OpX.buildSlice (ps := #[(0, _)]) rfl (bs_string_1 _)) (by rintro _ _ ⟨g9, rfl, rfl⟩; intro w h; exact h.drop3.drop2.drop1.tail) ?_; rintro _ _ ⟨g9, rfl, rfl⟩
       refine TR.hp (fun _ h => blk_row (k := 1) (m := 1) h rfl (by decide)) (TR.hp (fun _ h => h.pick2) ?_)
       refine TR.o rfl rfl wt0 (OpX.append (bytes := 16) tsl_string (by decide) (by decide) rfl rw1 (strs_one [[]]) (by omega) (zs := (P ++ [[]]).map sv) (by rw [List.map_append]; rfl)) (by rintro v238 _ rfl; intro w h; exact h.drop3.drop2.drop1.tail) ?_; rintro v238 _ rfl
       refine TR.know (fun _ h => row1 h) (fun o238 => (TR.hp (fun _ h => row_lenM h) (TR.hp (fun _ h => h.pick3) ?_)))
       refine TR.o rfl rfl wt0 (OpX.append (bytes := 1) tsl_bool (by decide) (by decide) rfl hr2.cons.cons.cons.cons.cons.cons (bools_one _) (by omega) (zs := D.map bv) rfl) (by rintro v239 _ rfl; intro w h; exact h.drop3.drop2.drop1.tail) ?_; rintro v239 _ rfl
       refine TR.know (fun _ h => row1 h) (fun o239 => (TR.hp (fun _ h => row_lenM h) ?_))
       refine TR.o rfl rfl wt0 (OpX.append (bytes := 1) tsl_bool (by decide) (by decide) rfl rw3 (bools_one [b]) (by omega) (zs := (D ++ [b]).map bv) (by rw [List.map_append]; rfl)) (by rintro v240 _ rfl; intro w h; exact h.drop3.drop2.drop1.tail) ?_; rintro v240 _ rfl
       refine TR.know (fun _ h => row1 h) (fun o240 => (TR.hp (fun _ h => row_lenM h) (TR.p rfl rfl wt0 (op_build (ps := #[(0, _), (1, _)]) rfl (bl_sealskinref03_Wide_01 _ _)) (TR.hp (fun _ h => h.pick4) ?_))))
       refine TR.z0 rfl wt0 (OpX.storeS tst_sealskinref03_Wide rfl rfl rfl rfl rfl (by first | exact (List.all_eq_true.1 rfl) | (intro u hu; simp only [List.mem_cons, List.not_mem_nil, or_false] at hu; rcases hu with rfl | rfl <;> assumption))) ?_; rintro _ _ rfl
       refine TR.nil (TQ.then (TC.ret ?_))
       refine retc tst_sealskinref03_Wide rfl rfl m0 rfl (fun w' hp => ?_)
       exact ⟨_, _, rfl, ⟨_, _, rfl, by assumption, by assumption, rfl⟩, (hp.drop5.drop4.drop3.tail.pick1)⟩
     ·refine TR.alt ?_ ?_
      ·refine TR.o rfl rfl wt0 (OpX.buildSlice (ps := #[(0, _)]) rfl (bs_string_1 _)) (by rintro _ _ ⟨g9, rfl, rfl⟩; intro w h; exact h.drop2.drop1.tail) ?_; rintro _ _ ⟨g9, rfl, rfl⟩
       refine TR.hp (fun _ h => blk_row (k := 1) (m := 1) h rfl (by decide)) ?_
       refine TR.alt ?_ ?_
       ·refine TR.hp (fun _ h => h.pick1) ?_
        refine TR.o rfl rfl wt0 (OpX.append (bytes := 16) tsl_string (by decide) (by decide) rfl hr.cons.cons.cons.cons.cons (strs_one _) (by omega) (zs := P.map sv) rfl) (by rintro v241 _ rfl; intro w h; exact h.drop2.drop1.tail) ?_; rintro v241 _ rfl
        refine TR.know (fun _ h => row1 h) (fun o241 => (TR.hp (fun _ h => row_lenM h) ?_))
        refine TR.alt ?_ ?_
        ·refine TR.o rfl rfl wt0 (OpX.append (bytes := 16) tsl_string (by decide) (by decide) rfl rw1 (strs_one [[]]) (by omega) (zs := (P ++ [[]]).map sv) (by rw [List.map_append]; rfl)) (by rintro v242 _ rfl; intro w h; exact h.drop2.drop1.tail) ?_; rintro v242 _ rfl
         refine TR.know (fun _ h => row1 h) (fun o242 => (TR.hp (fun _ h => row_lenM h) ?_))
         refine TR.alt ?_ ?_
         ·refine TR.hp (fun _ h => h.pick2) ?_
          refine TR.o rfl rfl wt0 (OpX.append (bytes := 1) tsl_bool (by decide) (by decide) rfl hr2.cons.cons.cons.cons.cons (bools_one _) (by omega) (zs := D.map bv) rfl) (by rintro v243 _ rfl; intro w h; exact h.drop2.drop1.tail) ?_; rintro v243 _ rfl
          refine TR.know (fun _ h => row1 h) (fun o243 => (TR.hp (fun _ h => row_lenM h) ?_))
          refine TR.o rfl rfl wt0 (OpX.buildSlice (ps := #[(0, _)]) rfl (bs_bool_1 _)) (by rintro _ _ ⟨g16, rfl, rfl⟩; intro w h; exact h.drop3.drop2.drop1.tail) ?_; rintro _ _ ⟨g16, rfl, rfl⟩
          refine TR.hp (fun _ h => blk_row (k := 1) (m := 1) h rfl (by decide)) (TR.hp (fun _ h => h.pick1) ?_)
          refine TR.o rfl rfl wt0 (OpX.append (bytes := 1) tsl_bool (by decide) (by decide) rfl rw1 (bools_one [b]) (by omega) (zs := (D ++ [b]).map bv) (by rw [List.map_append]; rfl)) (by rintro v244 _ rfl; intro w h; exact h.drop3.drop2.drop1.tail) ?_; rintro v244 _ rfl
          refine TR.know (fun _ h => row1 h) (fun o244 => (TR.hp (fun _ h => row_lenM h) (TR.p rfl rfl wt0 (op_build (ps := #[(0, _), (1, _)]) rfl (bl_sealskinref03_Wide_01 _ _)) (TR.hp (fun _ h => h.pick4) ?_))))
          refine TR.z0 rfl wt0 (OpX.storeS tst_sealskinref03_Wide rfl rfl rfl rfl rfl (by first | exact (List.all_eq_true.1 rfl) | (intro u hu; simp only [List.mem_cons, List.not_mem_nil, or_false] at hu; rcases hu with rfl | rfl <;> assumption))) ?_; rintro _ _ rfl
          refine TR.nil (TQ.then (TC.ret ?_))
          refine retc tst_sealskinref03_Wide rfl rfl m0 rfl (fun w' hp => ?_)
          exact ⟨_, _, rfl, ⟨_, _, rfl, by assumption, by assumption, rfl⟩, (hp.drop5.drop4.drop2.tail.pick1)⟩
         ·refine TR.o rfl rfl wt0 (OpX.buildSlice (ps := #[(0, _)]) rfl (bs_bool_1 _)) (by rintro _ _ ⟨g16, rfl, rfl⟩; intro w h; exact h.drop3.drop2.drop1.tail) ?_; rintro _ _ ⟨g16, rfl, rfl⟩
          refine TR.hp (fun _ h => blk_row (k := 1) (m := 1) h rfl (by decide)) (TR.hp (fun _ h => h.pick3) ?_)
          refine TR.o rfl rfl wt0 (OpX.append (bytes := 1) tsl_bool (by decide) (by decide) rfl hr2.cons.cons.cons.cons.cons.cons (bools_one _) (by omega) (zs := D.map bv) rfl) (by rintro v245 _ rfl; intro w h; exact h.drop3.drop2.drop1.tail) ?_; rintro v245 _ rfl
          refine TR.know (fun _ h => row1 h) (fun o245 => (TR.hp (fun _ h => row_lenM h) ?_))
          refine TR.o rfl rfl wt0 (OpX.append (bytes := 1) tsl_bool (by decide) (by decide) rfl rw1 (bools_one [b]) (by omega) (zs := (D ++ [b]).map bv) (by rw [List.map_append]; rfl)) (by rintro v246 _ rfl; intro w h; exact h.drop3.drop2.drop1.tail) ?_; rintro v246 _ rfl
          refine TR.know (fun _ h => row1 h) (fun o246 => (TR.hp (fun _ h => row_lenM h) (TR.p rfl rfl wt0 (op_build (ps := #[(0, _), (1, _)]) rfl (bl_sealskinref03_Wide_01 _ _)) (TR.hp (fun _ h => h.pick4) ?_))))
          refine TR.z0 rfl wt0 (OpX.storeS tst_sealskinref03_Wide rfl rfl rfl rfl rfl (by first | exact (List.all_eq_true.1 rfl) | (intro u hu; simp only [List.mem_cons, List.not_mem_nil, or_false] at hu; rcases hu with rfl | rfl <;> assumption))) ?_; rintro _ _ rfl
          refine TR.nil (TQ.then (TC.ret ?_))
          refine retc tst_sealskinref03_Wide rfl rfl m0 rfl (fun w' hp => ?_)
          exact ⟨_, _, rfl, ⟨_, _, rfl, by assumption, by assumption, rfl⟩, (hp.drop5.drop4.drop2.tail.pick1)⟩
        ·refine TR.o rfl rfl wt0 (OpX.buildSlice (ps := #[(0, _)]) rfl (bs_bool_1 _)) (by rintro _ _ ⟨g16, rfl, rfl⟩; intro w h; exact h.drop3.drop2.drop1.tail) ?_; rintro _ _ ⟨g16, rfl, rfl⟩
         refine TR.hp (fun _ h => blk_row (k := 1) (m := 1) h rfl (by decide)) (TR.hp (fun _ h => h.pick1) ?_)
         refine TR.o rfl rfl wt0 (OpX.append (bytes := 16) tsl_string (by decide) (by decide) rfl rw2 (strs_one [[]]) (by omega) (zs := (P ++ [[]]).map sv) (by rw [List.map_append]; rfl)) (by rintro v247 _ rfl; intro w h; exact h.drop3.drop2.drop1.tail) ?_; rintro v247 _ rfl
         refine TR.know (fun _ h => row1 h) (fun o247 => (TR.hp (fun _ h => row_lenM h) (TR.hp (fun _ h => h.pick3) ?_)))
         refine TR.o rfl rfl wt0 (OpX.append (bytes := 1) tsl_bool (by decide) (by decide) rfl hr2.cons.cons.cons.cons.cons.cons (bools_one _) (by omega) (zs := D.map bv) rfl) (by rintro v248 _ rfl; intro w h; exact h.drop3.drop2.drop1.tail) ?_; rintro v248 _ rfl
         refine TR.know (fun _ h => row1 h) (fun o248 => (TR.hp (fun _ h => row_lenM h) ?_))
         refine TR.o rfl rfl wt0 (OpX.append (bytes := 1) tsl_bool (by decide) (by decide) rfl rw2 (bools_one [b]) (by omega) (zs := (D ++ [b]).map bv) (by rw [List.map_append]; rfl)) (by rintro v249 _ rfl; intro w h; exact h.drop3.drop2.drop1.tail) ?_; rintro v249 _ rfl
         refine TR.know (fun _ h => row1 h) (fun o249 => (TR.hp (fun _ h => row_lenM h) (TR.p rfl rfl wt0 (op_build (ps := #[(0, _), (1, _)]) rfl (bl_sealskinref03_Wide_01 _ _)) (TR.hp (fun _ h => h.pick4) ?_))))
         refine TR.z0 rfl wt0 (OpX.storeS tst_sealskinref03_Wide rfl rfl rfl rfl rfl (by first | exact (List.all_eq_true.1 rfl) | (intro u hu; simp only [List.mem_cons, List.not_mem_nil, or_false] at hu; rcases hu with rfl | rfl <;> assumption))) ?_; rintro _ _ rfl
         refine TR.nil (TQ.then (TC.ret ?_))
         refine retc tst_sealskinref03_Wide rfl rfl m0 rfl (fun w' hp => ?_)
         exact ⟨_, _, rfl, ⟨_, _, rfl, by assumption, by assumption, rfl⟩, (hp.drop5.drop4.drop3.tail.pick1)⟩
       ·refine TR.o rfl rfl wt0 (OpX.buildSlice (ps := #[(0, _)]) rfl (bs_bool_1 _)) (by rintro _ _ ⟨g16, rfl, rfl⟩; intro w h; exact h.drop3.drop2.drop1.tail) ?_; rintro _ _ ⟨g16, rfl, rfl⟩
        refine TR.hp (fun _ h => blk_row (k := 1) (m := 1) h rfl (by decide)) (TR.hp (fun _ h => h.pick2) ?_)
        refine TR.o rfl rfl wt0 (OpX.append (bytes := 16) tsl_string (by decide) (by decide) rfl hr.cons.cons.cons.cons.cons.cons (strs_one _) (by omega) (zs := P.map sv) rfl) (by rintro v250 _ rfl; intro w h; exact h.drop3.drop2.drop1.tail) ?_; rintro v250 _ rfl
        refine TR.know (fun _ h => row1 h) (fun o250 => (TR.hp (fun _ h => row_lenM h) ?_))
        refine TR.o rfl rfl wt0 (OpX.append (bytes := 16) tsl_string (by decide) (by decide) rfl rw2 (strs_one [[]]) (by omega) (zs := (P ++ [[]]).map sv) (by rw [List.map_append]; rfl)) (by rintro v251 _ rfl; intro w h; exact h.drop3.drop2.drop1.tail) ?_; rintro v251 _ rfl
        refine TR.know (fun _ h => row1 h) (fun o251 => (TR.hp (fun _ h => row_lenM h) (TR.hp (fun _ h => h.pick3) ?_)))
        refine TR.o rfl rfl wt0 (OpX.append (bytes := 1) tsl_bool (by decide) (by decide) rfl hr2.cons.cons.cons.cons.cons.cons (bools_one _) (by omega) (zs := D.map bv) rfl) (by rintro v252 _ rfl; intro w h; exact h.drop3.drop2.drop1.tail) ?_; rintro v252 _ rfl
        refine TR.know (fun _ h => row1 h) (fun o252 => (TR.hp (fun _ h => row_lenM h) ?_))
        refine TR.o rfl rfl wt0 (OpX.append (bytes := 1) tsl_bool (by decide) (by decide) rfl rw2 (bools_one [b]) (by omega) (zs := (D ++ [b]).map bv) (by rw [List.map_append]; rfl)) (by rintro v253 _ rfl; intro w h; exact h.drop3.drop2.drop1.tail) ?_; rintro v253 _ rfl
        refine TR.know (fun _ h => row1 h) (fun o253 => (TR.hp (fun _ h => row_lenM h) (TR.p rfl rfl wt0 (op_build (ps := #[(0, _), (1, _)]) rfl (bl_sealskinref03_Wide_01 _ _)) (TR.hp (fun _ h => h.pick4) ?_))))
        refine TR.z0 rfl wt0 (OpX.storeS tst_sealskinref03_Wide rfl rfl rfl rfl rfl (by first | exact (List.all_eq_true.1 rfl) | (intro u hu; simp only [List.mem_cons, List.not_mem_nil, or_false] at hu; rcases hu with rfl | rfl <;> assumption))) ?_; rintro _ _ rfl
        refine TR.nil (TQ.then (TC.ret ?_))
        refine retc tst_sealskinref03_Wide rfl rfl m0 rfl (fun w' hp => ?_)
        exact ⟨_, _, rfl, ⟨_, _, rfl, by assumption, by assumption, rfl⟩, (hp.drop5.drop4.drop3.tail.pick1)⟩
      ·refine TR.o rfl rfl wt0 (OpX.buildSlice (ps := #[(0, _)]) rfl (bs_bool_1 _)) (by rintro _ _ ⟨g16, rfl, rfl⟩; intro w h; exact h.drop2.drop1.tail) ?_; rintro _ _ ⟨g16, rfl, rfl⟩
       refine TR.hp (fun _ h => blk_row (k := 1) (m := 1) h rfl (by decide)) ?_
       refine TR.alt ?_ ?_
       ·refine TR.hp (fun _ h => h.pick1) ?_
        refine TR.o rfl rfl wt0 (OpX.append (bytes := 16) tsl_string (by decide) (by decide) rfl hr.cons.cons.cons.cons.cons (strs_one _) (by omega) (zs := P.map sv) rfl) (by rintro v254 _ rfl; intro w h; exact h.drop2.drop1.tail) ?_; rintro v254 _ rfl
        refine TR.know (fun _ h => row1 h) (fun o254 => (TR.hp (fun _ h => row_lenM h) ?_))
        refine TR.o rfl rfl wt0 (OpX.buildSlice (ps := #[(0, _)]) rfl (bs_string_1 _)) (by rintro _ _ ⟨g9, rfl, rfl⟩; intro w h; exact h.drop3.drop2.drop1.tail) ?_; rintro _ _ ⟨g9, rfl, rfl⟩
        refine TR.hp (fun _ h => blk_row (k := 1) (m := 1) h rfl (by decide)) (TR.hp (fun _ h => h.pick1) ?_)
        refine TR.o rfl rfl wt0 (OpX.append (bytes := 16) tsl_string (by decide) (by decide) rfl rw1 (strs_one [[]]) (by omega) (zs := (P ++ [[]]).map sv) (by rw [List.map_append]; rfl)) (by rintro v255 _ rfl; intro w h; exact h.drop3.drop2.drop1.tail) ?_; rintro v255 _ rfl
        refine TR.know (fun _ h => row1 h) (fun o255 => (TR.hp (fun _ h => row_lenM h) (TR.hp (fun _ h => h.pick3) ?_)))
        refine TR.o rfl rfl wt0 (OpX.append (bytes := 1) tsl_bool (by decide) (by decide) rfl hr2.cons.cons.cons.cons.cons.cons (bools_one _) (by omega) (zs := D.map bv) rfl) (by rintro v256 _ rfl; intro w h; exact h.drop3.drop2.drop1.tail) ?_; rintro v256 _ rfl
        refine TR.know (fun _ h => row1 h) (fun o256 => (TR.hp (fun _ h => row_lenM h) ?_))
        refine TR.o rfl rfl wt0 (OpX.append (bytes := 1) tsl_bool (by decide) (by decide) rfl rw3 (bools_one [b]) (by omega) (zs := (D ++ [b]).map bv) (by rw [List.map_append]; rfl)) (by rintro v257 _ rfl; intro w h; exact h.drop3.drop2.drop1.tail) ?_; rintro v257 _ rfl
        refine TR.know (fun _ h => row1 h) (fun o257 => (TR.hp (fun _ h => row_lenM h) (TR.p rfl rfl wt0 (op_build (ps := #[(0, _), (1, _)]) rfl (bl_sealskinref03_Wide_01 _ _)) (TR.hp (fun _ h => h.pick4) ?_))))
        refine TR.z0 rfl wt0 (OpX.storeS tst_sealskinref03_Wide rfl rfl rfl rfl rfl (by first | exact (List.all_eq_true.1 rfl) | (intro u hu; simp only [List.mem_cons, List.not_mem_nil, or_false] at hu; rcases hu with rfl | rfl <;> assumption))) ?_; rintro _ _ rfl
        refine TR.nil (TQ.then (TC.ret ?_))
        refine retc tst_sealskinref03_Wide rfl rfl m0 rfl (fun w' hp => ?_)
        exact ⟨_, _, rfl, ⟨_, _, rfl, by assumption, by assumption, rfl⟩, (hp.drop5.drop4.drop3.tail.pick1)⟩
       ·refine TR.o rfl rfl wt0 (OpX.buildSlice (ps := #[(0, _)]) rfl (bs_string_1 _)) (by rintro _ _ ⟨g9, rfl, rfl⟩; intro w h; exact h.drop3.drop2.drop1.tail) ?_; rintro _ _ ⟨g9, rfl, rfl⟩
        refine TR.hp (fun _ h => blk_row (k := 1) (m := 1) h rfl (by decide)) (TR.hp (fun _ h => h.pick2) ?_)
        refine TR.o rfl rfl wt0 (OpX.append (bytes := 16) tsl_string (by decide) (by decide) rfl hr.cons.cons.cons.cons.cons.cons (strs_one _) (by omega) (zs := P.map sv) rfl) (by rintro v258 _ rfl; intro w h; exact h.drop3.drop2.drop1.tail) ?_; rintro v258 _ rfl
        refine TR.know (fun _ h => row1 h) (fun o258 => (TR.hp (fun _ h => row_lenM h) ?_))
        refine TR.o rfl rfl wt0 (OpX.append (bytes := 16) tsl_string (by decide) (by decide) rfl rw1 (strs_one [[]]) (by omega) (zs := (P ++ [[]]).map sv) (by rw [List.map_append]; rfl)) (by rintro v259 _ rfl; intro w h; exact h.drop3.drop2.drop1.tail) ?_; rintro v259 _ rfl
        refine TR.know (fun _ h => row1 h) (fun o259 => (TR.hp (fun _ h => row_lenM h) (TR.hp (fun _ h => h.pick3) ?_)))
        refine TR.o rfl rfl wt0 (OpX.append (bytes := 1) tsl_bool (by decide) (by decide) rfl hr2.cons.cons.cons.cons.cons.cons (bools_one _) (by omega) (zs := D.map bv) rfl) (by rintro v260 _ rfl; intro w h; exact h.drop3.drop2.drop1.tail) ?_; rintro v260 _ rfl
        refine TR.know (fun _ h => row1 h) (fun o260 => (TR.hp (fun _ h => row_lenM h) ?_))
        refine TR.o rfl rfl wt0 (OpX.append (bytes := 1) tsl_bool (by decide) (by decide) rfl rw3 (bools_one [b]) (by omega) (zs := (D ++ [b]).map bv) (by rw [List.map_append]; rfl)) (by rintro v261 _ rfl; intro w h; exact h.drop3.drop2.drop1.tail) ?_; rintro v261 _ rfl
        refine TR.know (fun _ h => row1 h) (fun o261 => (TR.hp (fun _ h => row_lenM h) (TR.p rfl rfl wt0 (op_build (ps := #[(0, _), (1, _)]) rfl (bl_sealskinref03_Wide_01 _ _)) (TR.hp (fun _ h => h.pick4) ?_))))
        refine TR.z0 rfl wt0 (OpX.storeS tst_sealskinref03_Wide rfl rfl rfl rfl rfl (by first | exact (List.all_eq_true.1 rfl) | (intro u hu; simp only [List.mem_cons, List.not_mem_nil, or_false] at hu; rcases hu with rfl | rfl <;> assumption))) ?_; rintro _ _ rfl
        refine TR.nil (TQ.then (TC.ret ?_))
        refine retc tst_sealskinref03_Wide rfl rfl m0 rfl (fun w' hp => ?_)
        exact ⟨_, _, rfl, ⟨_, _, rfl, by assumption, by assumption, rfl⟩, (hp.drop5.drop4.drop3.tail.pick1)⟩
    ·refine TR.alt ?_ ?_
     ·refine TR.o rfl rfl wt0 (OpX.buildSlice (ps := #[(0, _)]) rfl (bs_string_1 _)) (by rintro _ _ ⟨g9, rfl, rfl⟩; intro w h; exact h.drop1.tail) ?_; rintro _ _ ⟨g9, rfl, rfl⟩
      refine TR.hp (fun _ h => blk_row (k := 1) (m := 1) h rfl (by decide)) ?_
      refine TR.alt ?_ ?_
      ·refine TR.o rfl rfl wt0 (OpX.buildSlice (ps := #[]) rfl (bs_string_0 )) (by rintro _ _ ⟨g5, rfl, rfl⟩; intro w h; exact h.drop2.drop1.tail) ?_; rintro _ _ ⟨g5, rfl, rfl⟩
       refine TR.hp (fun _ h => blk_row (k := 1) (m := 0) h rfl (by decide)) ?_
       refine TR.alt ?_ ?_
       ·refine TR.o rfl rfl wt0 (OpX.append (bytes := 16) tsl_string (by decide) (by decide) rfl hr.cons.cons.cons.cons.cons (strs_one _) (by omega) (zs := P.map sv) rfl) (by rintro v262 _ rfl; intro w h; exact h.drop2.drop1.tail) ?_; rintro v262 _ rfl
        refine TR.know (fun _ h => row1 h) (fun o262 => (TR.hp (fun _ h => row_lenM h) ?_))
        refine TR.alt ?_ ?_
        ·refine TR.o rfl rfl wt0 (OpX.append (bytes := 16) tsl_string (by decide) (by decide) rfl rw1 (strs_one [[]]) (by omega) (zs := (P ++ [[]]).map sv) (by rw [List.map_append]; rfl)) (by rintro v263 _ rfl; intro w h; exact h.drop2.drop1.tail) ?_; rintro v263 _ rfl
         refine TR.know (fun _ h => row1 h) (fun o263 => (TR.hp (fun _ h => row_lenM h) ?_))
         refine TR.alt ?_ ?_
         ·refine TR.hp (fun _ h => h.pick2) ?_
          refine TR.o rfl rfl wt0 (OpX.append (bytes := 1) tsl_bool (by decide) (by decide) rfl hr2.cons.cons.cons.cons.cons (bools_one _) (by omega) (zs := D.map bv) rfl) (by rintro v264 _ rfl; intro w h; exact h.drop2.drop1.tail) ?_; rintro v264 _ rfl
          refine TR.know (fun _ h => row1 h) (fun o264 => (TR.hp (fun _ h => row_lenM h) ?_))
          refine TR.o rfl rfl wt0 (OpX.buildSlice (ps := #[(0, _)]) rfl (bs_bool_1 _)) (by rintro _ _ ⟨g16, rfl, rfl⟩; intro w h; exact h.drop3.drop2.drop1.tail) ?_; rintro _ _ ⟨g16, rfl, rfl⟩
          refine TR.hp (fun _ h => blk_row (k := 1) (m := 1) h rfl (by decide)) (TR.hp (fun _ h => h.pick1) ?_)
          refine TR.o rfl rfl wt0 (OpX.append (bytes := 1) tsl_bool (by decide) (by decide) rfl rw1 (bools_one [b]) (by omega) (zs := (D ++ [b]).map bv) (by rw [List.map_append]; rfl)) (by rintro v265 _ rfl; intro w h; exact h.drop3.drop2.drop1.tail) ?_; rintro v265 _ rfl
          refine TR.know (fun _ h => row1 h) (fun o265 => (TR.hp (fun _ h => row_lenM h) (TR.p rfl rfl wt0 (op_build (ps := #[(0, _), (1, _)]) rfl (bl_sealskinref03_Wide_01 _ _)) (TR.hp (fun _ h => h.pick4) ?_))))
          refine TR.z0 rfl wt0 (OpX.storeS tst_sealskinref03_Wide rfl rfl rfl rfl rfl (by first | exact (List.all_eq_true.1 rfl) | (intro u hu; simp only [List.mem_cons, List.not_mem_nil, or_false] at hu; rcases hu with rfl | rfl <;> assumption))) ?_; rintro _ _ rfl
          refine TR.nil (TQ.then (TC.ret ?_))
          refine retc tst_sealskinref03_Wide rfl rfl m0 rfl (fun w' hp => ?_)
          exact ⟨_, _, rfl, ⟨_, _, rfl, by assumption, by assumption, rfl⟩, (hp.drop5.drop4.drop2.tail.pick1)⟩
         ·refine TR.o rfl rfl wt0 (OpX.buildSlice (ps := #[(0, _)]) rfl (bs_bool_1 _)) (by rintro _ _ ⟨g16, rfl, rfl⟩; intro w h; exact h.drop3.drop2.drop1.tail) ?_; rintro _ _ ⟨g16, rfl, rfl⟩
          refine TR.hp (fun _ h => blk_row (k := 1) (m := 1) h rfl (by decide)) (TR.hp (fun _ h => h.pick3) ?_)
          refine TR.o rfl rfl wt0 (OpX.append (bytes := 1) tsl_bool (by decide) (by decide) rfl hr2.cons.cons.cons.cons.cons.cons (bools_one _) (by omega) (zs := D.map bv) rfl) (by rintro v266 _ rfl; intro w h; exact h.drop3.drop2.drop1.tail) ?_; rintro v266 _ rfl
          refine TR.know (fun _ h => row1 h) (fun o266 => (TR.hp (fun _ h => row_lenM h) ?_))
          refine TR.o rfl rfl wt0 (OpX.append (bytes := 1) tsl_bool (by decide) (by decide) rfl rw1 (bools_one [b]) (by omega) (zs := (D ++ [b]).map bv) (by rw [List.map_append]; rfl)) (by rintro v267 _ rfl; intro w h; exact h.drop3.drop2.drop1.tail) ?_; rintro v267 _ rfl
          refine TR.know (fun _ h => row1 h) (fun o267 => (TR.hp (fun _ h => row_lenM h) (TR.p rfl rfl wt0 (op_build (ps := #[(0, _), (1, _)]) rfl (bl_sealskinref03_Wide_01 _ _)) (TR.hp (fun _ h => h.pick4) ?_))))
          refine TR.z0 rfl wt0 (OpX.storeS tst_sealskinref03_Wide rfl rfl rfl rfl rfl (by first | exact (List.all_eq_true.1 rfl) | (intro u hu; simp only [List.mem_cons, List.not_mem_nil, or_false] at hu; rcases hu with rfl | rfl <;> assumption))) ?_; rintro _ _ rfl
          refine TR.nil (TQ.then (TC.ret ?_))
          refine retc tst_sealskinref03_Wide rfl rfl m0 rfl (fun w' hp => ?_)
          exact ⟨_, _, rfl, ⟨_, _, rfl, by assumption, by assumption, rfl⟩, (hp.drop5.drop4.drop2.tail.pick1)⟩
        ·refine TR.o rfl rfl wt0 (OpX.buildSlice (ps := #[(0, _)]) rfl (bs_bool_1 _)) (by rintro _ _ ⟨g16, rfl, rfl⟩; intro w h; exact h.drop3.drop2.drop1.tail) ?_; rintro _ _ ⟨g16, rfl, rfl⟩
         refine TR.hp (fun _ h => blk_row (k := 1) (m := 1) h rfl (by decide)) (TR.hp (fun _ h => h.pick1) ?_)
         refine TR.o rfl rfl wt0 (OpX.append (bytes := 16) tsl_string (by decide) (by decide) rfl rw2 (strs_one [[]]) (by omega) (zs := (P ++ [[]]).map sv) (by rw [List.map_append]; rfl)) (by rintro v268 _ rfl; intro w h; exact h.drop3.drop2.drop1.tail) ?_; rintro v268 _ rfl
         refine TR.know (fun _ h => row1 h) (fun o268 => (TR.hp (fun _ h => row_lenM h) (TR.hp (fun _ h => h.pick3) ?_)))
         refine TR.o rfl rfl wt0 (OpX.append (bytes := 1) tsl_bool (by decide) (by decide) rfl hr2.cons.cons.cons.cons.cons.cons (bools_one _) (by omega) (zs := D.map bv) rfl) (by rintro v269 _ rfl; intro w h; exact h.drop3.drop2.drop1.tail) ?_; rintro v269 _ rfl
         refine TR.know (fun _ h => row1 h) (fun o269 => (TR.hp (fun _ h => row_lenM h) ?_))
         refine TR.o rfl rfl wt0 (OpX.append (bytes := 1) tsl_bool (by decide) (by decide) rfl rw2 (bools_one [b]) (by omega) (zs := (D ++ [b]).map bv) (by rw [List.map_append]; rfl)) (by rintro v270 _ rfl; intro w h; exact h.drop3.drop2.drop1.tail) ?_; rintro v270 _ rfl
         refine TR.know (fun _ h => row1 h) (fun o270 => (TR.hp (fun _ h => row_lenM h) (TR.p rfl rfl wt0 (op_build (ps := #[(0, _), (1, _)]) rfl (bl_sealskinref03_Wide_01 _ _)) (TR.hp (fun _ h => h.pick4) ?_))))
         refine TR.z0 rfl wt0 (OpX.storeS tst_sealskinref03_Wide rfl rfl rfl rfl rfl (by first | exact (List.all_eq_true.1 rfl) | (intro u hu; simp only [List.mem_cons, List.not_mem_nil, or_false] at hu; rcases hu with rfl | rfl <;> assumption))) ?_; rintro _ _ rfl
         refine TR.nil (TQ.then (TC.ret ?_))
         refine retc tst_sealskinref03_Wide rfl rfl m0 rfl (fun w' hp => ?_)
         exact ⟨_, _, rfl, ⟨_, _, rfl, by assumption, by assumption, rfl⟩, (hp.drop5.drop4.drop3.tail.pick1)⟩
       ·refine TR.o rfl rfl wt0 (OpX.buildSlice (ps := #[(0, _)]) rfl (bs_bool_1 _)) (by rintro _ _ ⟨g16, rfl, rfl⟩; intro w h; exact h.drop3.drop2.drop1.tail) ?_; rintro _ _ ⟨g16, rfl, rfl⟩
        refine TR.hp (fun _ h => blk_row (k := 1) (m := 1) h rfl (by decide)) (TR.hp (fun _ h => h.pick1) ?_)
        refine TR.o rfl rfl wt0 (OpX.append (bytes := 16) tsl_string (by decide) (by decide) rfl hr.cons.cons.cons.cons.cons.cons (strs_one _) (by omega) (zs := P.map sv) rfl) (by rintro v271 _ rfl; intro w h; exact h.drop3.drop2.drop1.tail) ?_; rintro v271 _ rfl
        refine TR.know (fun _ h => row1 h) (fun o271 => (TR.hp (fun _ h => row_lenM h) ?_))
        refine TR.o rfl rfl wt0 (OpX.append (bytes := 16) tsl_string (by decide) (by decide) rfl rw2 (strs_one [[]]) (by omega) (zs := (P ++ [[]]).map sv) (by rw [List.map_append]; rfl)) (by rintro v272 _ rfl; intro w h; exact h.drop3.drop2.drop1.tail) ?_; rintro v272 _ rfl
        refine TR.know (fun _ h => row1 h) (fun o272 => (TR.hp (fun _ h => row_lenM h) (TR.hp (fun _ h => h.pick3) ?_)))
        refine TR.o rfl rfl wt0 (OpX.append (bytes := 1) tsl_bool (by decide) (by decide) rfl hr2.cons.cons.cons.cons.cons.cons (bools_one _) (by omega) (zs := D.map bv) rfl) (by rintro v273 _ rfl; intro w h; exact h.drop3.drop2.drop1.tail) ?_; rintro v273 _ rfl
        refine TR.know (fun _ h => row1 h) (fun o273 => (TR.hp (fun _ h => row_lenM h) ?_))
        refine TR.o rfl rfl wt0 (OpX.append (bytes := 1) tsl_bool (by decide) (by decide) rfl rw2 (bools_one [b]) (by omega) (zs := (D ++ [b]).map bv) (by rw [List.map_append]; rfl)) (by rintro v274 _ rfl; intro w h; exact h.drop3.drop2.drop1.tail) ?_; rintro v274 _ rfl
        refine TR.know (fun _ h => row1 h) (fun o274 => (TR.hp (fun _ h => row_lenM h) (TR.p rfl rfl wt0 (op_build (ps := #[(0, _), (1, _)]) rfl (bl_sealskinref03_Wide_01 _ _)) (TR.hp (fun _ h => h.pick4) ?_))))
        refine TR.z0 rfl wt0 (OpX.storeS tst_sealskinref03_Wide rfl rfl rfl rfl rfl (by first | exact (List.all_eq_true.1 rfl) | (intro u hu; simp only [List.mem_cons, List.not_mem_nil, or_false] at hu; rcases hu with rfl | rfl <;> assumption))) ?_; rintro _ _ rfl
        refine TR.nil (TQ.then (TC.ret ?_))
        refine retc tst_sealskinref03_Wide rfl rfl m0 rfl (fun w' hp => ?_)
        exact ⟨_, _, rfl, ⟨_, _, rfl, by assumption, by assumption, rfl⟩, (hp.drop5.drop4.drop3.tail.pick1)⟩
      ·refine TR.o rfl rfl wt0 (OpX.buildSlice (ps := #[(0, _)]) rfl (bs_bool_1 _)) (by rintro _ _ ⟨g16, rfl, rfl⟩; intro w h; exact h.drop2.drop1.tail) ?_; rintro _ _ ⟨g16, rfl, rfl⟩
       refine TR.hp (fun _ h => blk_row (k := 1) (m := 1) h rfl (by decide)) ?_
       refine TR.o rfl rfl wt0 (OpX.buildSlice (ps := #[]) rfl (bs_string_0 )) (by rintro _ _ ⟨g5, rfl, rfl⟩; intro w h; exact h.drop3.drop2.drop1.tail) ?_; rintro _ _ ⟨g5, rfl, rfl⟩
       refine TR.hp (fun _ h => blk_row (k := 1) (m := 0) h rfl (by decide)) ?_
       refine TR.o rfl rfl wt0 (OpX.append (bytes := 16) tsl_string (by decide) (by decide) rfl hr.cons.cons.cons.cons.cons.cons (strs_one _) (by omega) (zs := P.map sv) rfl) (by rintro v275 _ rfl; intro w h; exact h.drop3.drop2.drop1.tail) ?_; rintro v275 _ rfl
       refine TR.know (fun _ h => row1 h) (fun o275 => (TR.hp (fun _ h => row_lenM h) ?_))
       refine TR.o rfl rfl wt0 (OpX.append (bytes := 16) tsl_string (by decide) (by decide) rfl rw2 (strs_one [[]]) (by omega) (zs := (P ++ [[]]).map sv) (by rw [List.map_append]; rfl)) (by rintro v276 _ rfl; intro w h; exact h.drop3.drop2.drop1.tail) ?_; rintro v276 _ rfl
       refine TR.know (fun _ h => row1 h) (fun o276 => (TR.hp (fun _ h => row_lenM h) (TR.hp (fun _ h => h.pick3) ?_)))
       refine TR.o rfl rfl wt0 (OpX.append (bytes := 1) tsl_bool (by decide) (by decide) rfl hr2.cons.cons.cons.cons.cons.cons (bools_one _) (by omega) (zs := D.map bv) rfl) (by rintro v277 _ rfl; intro w h; exact h.drop3.drop2.drop1.tail) ?_; rintro v277 _ rfl
       refine TR.know (fun _ h => row1 h) (fun o277 => (TR.hp (fun _ h => row_lenM h) ?_))
       refine TR.o rfl rfl wt0 (OpX.append (bytes := 1) tsl_bool (by decide) (by decide) rfl rw2 (bools_one [b]) (by omega) (zs := (D ++ [b]).map bv) (by rw [List.map_append]; rfl)) (by rintro v278 _ rfl; intro w h; exact h.drop3.drop2.drop1.tail) ?_; rintro v278 _ rfl
       refine TR.know (fun _ h => row1 h) (fun o278 => (TR.hp (fun _ h => row_lenM h) (TR.p rfl rfl wt0 (op_build (ps := #[(0, _), (1, _)]) rfl (bl_sealskinref03_Wide_01 _ _)) (TR.hp (fun _ h => h.pick4) ?_))))
       refine TR.z0 rfl wt0 (OpX.storeS tst_sealskinref03_Wide rfl rfl rfl rfl rfl (by first | exact (List.all_eq_true.1 rfl) | (intro u hu; simp only [List.mem_cons, List.not_mem_nil, or_false] at hu; rcases hu with rfl | rfl <;> assumption))) ?_; rintro _ _ rfl
       refine TR.nil (TQ.then (TC.ret ?_))
       refine retc tst_sealskinref03_Wide rfl rfl m0 rfl (fun w' hp => ?_)
       exact ⟨_, _, rfl, ⟨_, _, rfl, by assumption, by assumption, rfl⟩, (hp.drop5.drop4.drop3.tail.pick1)⟩
     ·refine TR.o rfl rfl wt0 (OpX.buildSlice (ps := #[(0, _)]) rfl (bs_bool_1 _)) (by rintro _ _ ⟨g16, rfl, rfl⟩; intro w h; exact h.drop1.tail) ?_; rintro _ _ ⟨g16, rfl, rfl⟩
      refine TR.hp (fun _ h => blk_row (k := 1) (m := 1) h rfl (by decide)) ?_
      refine TR.alt ?_ ?_
      ·refine TR.o rfl rfl wt0 (OpX.buildSlice (ps := #[]) rfl (bs_string_0 )) (by rintro _ _ ⟨g5, rfl, rfl⟩; intro w h; exact h.drop2.drop1.tail) ?_; rintro _ _ ⟨g5, rfl, rfl⟩
       refine TR.hp (fun _ h => blk_row (k := 1) (m := 0) h rfl (by decide)) ?_
       refine TR.alt ?_ ?_
       ·refine TR.o rfl rfl wt0 (OpX.append (bytes := 16) tsl_string (by decide) (by decide) rfl hr.cons.cons.cons.cons.cons (strs_one _) (by omega) (zs := P.map sv) rfl) (by rintro v279 _ rfl; intro w h; exact h.drop2.drop1.tail) ?_; rintro v279 _ rfl
        refine TR.know (fun _ h => row1 h) (fun o279 => (TR.hp (fun _ h => row_lenM h) ?_))
        refine TR.o rfl rfl wt0 (OpX.buildSlice (ps := #[(0, _)]) rfl (bs_string_1 _)) (by rintro _ _ ⟨g9, rfl, rfl⟩; intro w h; exact h.drop3.drop2.drop1.tail) ?_; rintro _ _ ⟨g9, rfl, rfl⟩
        refine TR.hp (fun _ h => blk_row (k := 1) (m := 1) h rfl (by decide)) (TR.hp (fun _ h => h.pick1) ?_)
        refine TR.o rfl rfl wt0 (OpX.append (bytes := 16) tsl_string (by decide) (by decide) rfl rw1 (strs_one [[]]) (by omega) (zs := (P ++ [[]]).map sv) (by rw [List.map_append]; rfl)) (by rintro v280 _ rfl; intro w h; exact h.drop3.drop2.drop1.tail) ?_; rintro v280 _ rfl
        refine TR.know (fun _ h => row1 h) (fun o280 => (TR.hp (fun _ h => row_lenM h) (TR.hp (fun _ h => h.pick3) ?_)))
        refine TR.o rfl rfl wt0 (OpX.append (bytes := 1) tsl_bool (by decide) (by decide) rfl hr2.cons.cons.cons.cons.cons.cons (bools_one _) (by omega) (zs := D.map bv) rfl) (by rintro v281 _ rfl; intro w h; exact h.drop3.drop2.drop1.tail) ?_; rintro v281 _ rfl
        refine TR.know (fun _ h => row1 h) (fun o281 => (TR.hp (fun _ h => row_lenM h) ?_))
        refine TR.o rfl rfl wt0 (OpX.append (bytes := 1) tsl_bool (by decide) (by decide) rfl rw3 (bools_one [b]) (by omega) (zs := (D ++ [b]).map bv) (by rw [List.map_append]; rfl)) (by rintro v282 _ rfl; intro w h; exact h.drop3.drop2.drop1.tail) ?_; rintro v282 _ rfl
        refine TR.know (fun _ h => row1 h) (fun o282 => (TR.hp (fun _ h => row_lenM h) (TR.p rfl rfl wt0 (op_build (ps := #[(0, _), (1, _)]) rfl (bl_sealskinref03_Wide_01 _ _)) (TR.hp (fun _ h => h.pick4) ?_))))
        refine TR.z0 rfl wt0 (OpX.storeS tst_sealskinref03_Wide rfl rfl rfl rfl rfl (by first | exact (List.all_eq_true.1 rfl) | (intro u hu; simp only [List.mem_cons, List.not_mem_nil, or_false] at hu; rcases hu with rfl | rfl <;> assumption))) ?_; rintro _ _ rfl
        refine TR.nil (TQ.then (TC.ret ?_))
        refine retc tst_sealskinref03_Wide rfl rfl m0 rfl (fun w' hp => ?_)
        exact ⟨_, _, rfl, ⟨_, _, rfl, by assumption, by assumption, rfl⟩, (hp.drop5.drop4.drop3.tail.pick1)⟩
       ·refine TR.o rfl rfl wt0 (OpX.buildSlice (ps := #[(0, _)]) rfl (bs_string_1 _)) (by rintro _ _ ⟨g9, rfl, rfl⟩; intro w h; exact h.drop3.drop2.drop1.tail) ?_; rintro _ _ ⟨g9, rfl, rfl⟩
        refine TR.hp (fun _ h => blk_row (k := 1) (m := 1) h rfl (by decide)) (TR.hp (fun _ h => h.pick1) ?_)
        refine TR.o rfl rfl wt0 (OpX.append (bytes := 16) tsl_string (by decide) (by decide) rfl hr.cons.cons.cons.cons.cons.cons (strs_one _) (by omega) (zs := P.map sv) rfl) (by rintro v283 _ rfl; intro w h; exact h.drop3.drop2.drop1.tail) ?_; rintro v283 _ rfl
        refine TR.know (fun _ h => row1 h) (fun o283 => (TR.hp (fun _ h => row_lenM h) ?_))
        refine TR.o rfl rfl wt0 (OpX.append (bytes := 16) tsl_string (by decide) (by decide) rfl rw1 (strs_one [[]]) (by omega) (zs := (P ++ [[]]).map sv) (by rw [List.map_append]; rfl)) (by rintro v284 _ rfl; intro w h; exact h.drop3.drop2.drop1.tail) ?_; rintro v284 _ rfl
        refine TR.know (fun _ h => row1 h) (fun o284 => (TR.hp (fun _ h => row_lenM h) (TR.hp (fun _ h => h.pick3) ?_)))
        refine TR.o rfl rfl wt0 (OpX.append (bytes := 1) tsl_bool (by decide) (by decide) rfl hr2.cons.cons.cons.cons.cons.cons (bools_one _) (by omega) (zs := D.map bv) rfl) (by rintro v285 _ rfl; intro w h; exact h.drop3.drop2.drop1.tail) ?_; rintro v285 _ rfl
        refine TR.know (fun _ h => row1 h) (fun o285 => (TR.hp (fun _ h => row_lenM h) ?_))
        refine TR.o rfl rfl wt0 (OpX.append (bytes := 1) tsl_bool (by decide) (by decide) rfl rw3 (bools_one [b]) (by omega) (zs := (D ++ [b]).map bv) (by rw [List.map_append]; rfl)) (by rintro v286 _ rfl; intro w h; exact h.drop3.drop2.drop1.tail) ?_; rintro v286 _ rfl
        refine TR.know (fun _ h => row1 h) (fun o286 => (TR.hp (fun _ h => row_lenM h) (TR.p rfl rfl wt0 (op_build (ps := #[(0, _), (1, _)]) rfl (bl_sealskinref03_Wide_01 _ _)) (TR.hp (fun _ h => h.pick4) ?_))))
        refine TR.z0 rfl wt0 (OpX.storeS tst_sealskinref03_Wide rfl rfl rfl rfl rfl (by first | exact (List.all_eq_true.1 rfl) | (intro u hu; simp only [List.mem_cons, List.not_mem_nil, or_false] at hu; rcases hu with rfl | rfl <;> assumption))) ?_; rintro _ _ rfl
        refine TR.nil (TQ.then (TC.ret ?_))
        refine retc tst_sealskinref03_Wide rfl rfl m0 rfl (fun w' hp => ?_)
        exact ⟨_, _, rfl, ⟨_, _, rfl, by assumption, by assumption, rfl⟩, (hp.drop5.drop4.drop3.tail.pick1)⟩
      ·refine TR.o rfl rfl wt0 (OpX.buildSlice (ps := #[(0, _)]) rfl (bs_string_1 _)) (by rintro _ _ ⟨g9, rfl, rfl⟩; intro w h; exact h.drop2.drop1.tail) ?_; rintro _ _ ⟨g9, rfl, rfl⟩
       refine TR.hp (fun _ h => blk_row (k := 1) (m := 1) h rfl (by decide)) ?_
       refine TR.o rfl rfl wt0 (OpX.buildSlice (ps := #[]) rfl (bs_string_0 )) (by rintro _ _ ⟨g5, rfl, rfl⟩; intro w h; exact h.drop3.drop2.drop1.tail) ?_; rintro _ _ ⟨g5, rfl, rfl⟩
       refine TR.hp (fun _ h => blk_row (k := 1) (m := 0) h rfl (by decide)) ?_
       refine TR.o rfl rfl wt0 (OpX.append (bytes := 16) tsl_string (by decide) (by decide) rfl hr.cons.cons.cons.cons.cons.cons (strs_one _) (by omega) (zs := P.map sv) rfl) (by rintro v287 _ rfl; intro w h; exact h.drop3.drop2.drop1.tail) ?_; rintro v287 _ rfl
       refine TR.know (fun _ h => row1 h) (fun o287 => (TR.hp (fun _ h => row_lenM h) ?_))
       refine TR.o rfl rfl wt0 (OpX.append (bytes := 16) tsl_string (by decide) (by decide) rfl rw1 (strs_one [[]]) (by omega) (zs := (P ++ [[]]).map sv) (by rw [List.map_append]; rfl)) (by rintro v288 _ rfl; intro w h; exact h.drop3.drop2.drop1.tail) ?_; rintro v288 _ rfl
       refine TR.know (fun _ h => row1 h) (fun o288 => (TR.hp (fun _ h => row_lenM h) (TR.hp (fun _ h => h.pick3) ?_)))
       refine TR.o rfl rfl wt0 (OpX.append (bytes := 1) tsl_bool (by decide) (by decide) rfl hr2.cons.cons.cons.cons.cons.cons (bools_one _) (by omega) (zs := D.map bv) rfl) (by rintro v289 _ rfl; intro w h; exact h.drop3.drop2.drop1.tail) ?_; rintro v289 _ rfl
       refine TR.know (fun _ h => row1 h) (fun o289 => (TR.hp (fun _ h => row_lenM h) ?_))
       refine TR.o rfl rfl wt0 (OpX.append (bytes := 1) tsl_bool (by decide) (by decide) rfl rw3 (bools_one [b]) (by omega) (zs := (D ++ [b]).map bv) (by rw [List.map_append]; rfl)) (by rintro v290 _ rfl; intro w h; exact h.drop3.drop2.drop1.tail) ?_; rintro v290 _ rfl
       refine TR.know (fun _ h => row1 h) (fun o290 => (TR.hp (fun _ h => row_lenM h) (TR.p rfl rfl wt0 (op_build (ps := #[(0, _), (1, _)]) rfl (bl_sealskinref03_Wide_01 _ _)) (TR.hp (fun _ h => h.pick4) ?_))))
       refine TR.z0 rfl wt0 (OpX.storeS tst_sealskinref03_Wide rfl rfl rfl rfl rfl (by first | exact (List.all_eq_true.1 rfl) | (intro u hu; simp only [List.mem_cons, List.not_mem_nil, or_false] at hu; rcases hu with rfl | rfl <;> assumption))) ?_; rintro _ _ rfl
       refine TR.nil (TQ.then (TC.ret ?_))
       refine retc tst_sealskinref03_Wide rfl rfl m0 rfl (fun w' hp => ?_)
       exact ⟨_, _, rfl, ⟨_, _, rfl, by assumption, by assumption, rfl⟩, (hp.drop5.drop4.drop3.tail.pick1)⟩
   ·refine TR.o rfl rfl wt0 (OpX.buildSlice (ps := #[(0, _)]) rfl (bs_bool_1 _)) (by rintro _ _ ⟨g16, rfl, rfl⟩; intro w h; exact h.tail) ?_; rintro _ _ ⟨g16, rfl, rfl⟩
    refine TR.hp (fun _ h => blk_row (k := 1) (m := 1) h rfl (by decide)) ?_
    refine TR.alt ?_ ?_
    ·refine TR.o rfl rfl wt0 (OpX.buildSlice (ps := #[]) rfl (bs_string_0 )) (by rintro _ _ ⟨g5, rfl, rfl⟩; intro w h; exact h.drop1.tail) ?_; rintro _ _ ⟨g5, rfl, rfl⟩
     refine TR.hp (fun _ h => blk_row (k := 1) (m := 0) h rfl (by decide)) ?_
     refine TR.alt ?_ ?_
     ·refine TR.o rfl rfl wt0 (OpX.append (bytes := 16) tsl_string (by decide) (by decide) rfl hr.cons.cons.cons.cons (strs_one _) (by omega) (zs := P.map sv) rfl) (by rintro v291 _ rfl; intro w h; exact h.drop1.tail) ?_; rintro v291 _ rfl
      refine TR.know (fun _ h => row1 h) (fun o291 => (TR.hp (fun _ h => row_lenM h) ?_))
      refine TR.alt ?_ ?_
      ·refine TR.o rfl rfl wt0 (OpX.buildSlice (ps := #[(0, _)]) rfl (bs_string_1 _)) (by rintro _ _ ⟨g9, rfl, rfl⟩; intro w h; exact h.drop2.drop1.tail) ?_; rintro _ _ ⟨g9, rfl, rfl⟩
       refine TR.hp (fun _ h => blk_row (k := 1) (m := 1) h rfl (by decide)) ?_
       refine TR.alt ?_ ?_
       ·refine TR.hp (fun _ h => h.pick1) ?_
        refine TR.o rfl rfl wt0 (OpX.append (bytes := 16) tsl_string (by decide) (by decide) rfl rw1 (strs_one [[]]) (by omega) (zs := (P ++ [[]]).map sv) (by rw [List.map_append]; rfl)) (by rintro v292 _ rfl; intro w h; exact h.drop2.drop1.tail) ?_; rintro v292 _ rfl
        refine TR.know (fun _ h => row1 h) (fun o292 => (TR.hp (fun _ h => row_lenM h) ?_))
        refine TR.o rfl rfl wt0 (OpX.buildSlice (ps := #[]) rfl (bs_bool_0 )) (by rintro _ _ ⟨g11, rfl, rfl⟩; intro w h; exact h.drop3.drop2.drop1.tail) ?_; rintro _ _ ⟨g11, rfl, rfl⟩
        refine TR.hp (fun _ h => blk_row (k := 1) (m := 0) h rfl (by decide)) ?_
        refine TR.o rfl rfl wt0 (OpX.append (bytes := 1) tsl_bool (by decide) (by decide) rfl hr2.cons.cons.cons.cons.cons.cons (bools_one _) (by omega) (zs := D.map bv) rfl) (by rintro v293 _ rfl; intro w h; exact h.drop3.drop2.drop1.tail) ?_; rintro v293 _ rfl
        refine TR.know (fun _ h => row1 h) (fun o293 => (TR.hp (fun _ h => row_lenM h) ?_))
        refine TR.o rfl rfl wt0 (OpX.append (bytes := 1) tsl_bool (by decide) (by decide) rfl rw3 (bools_one [b]) (by omega) (zs := (D ++ [b]).map bv) (by rw [List.map_append]; rfl)) (by rintro v294 _ rfl; intro w h; exact h.drop3.drop2.drop1.tail) ?_; rintro v294 _ rfl
        refine TR.know (fun _ h => row1 h) (fun o294 => (TR.hp (fun _ h => row_lenM h) (TR.p rfl rfl wt0 (op_build (ps := #[(0, _), (1, _)]) rfl (bl_sealskinref03_Wide_01 _ _)) (TR.hp (fun _ h => h.pick4) ?_))))
        refine TR.z0 rfl wt0 (OpX.storeS tst_sealskinref03_Wide rfl rfl rfl rfl rfl (by first | exact (List.all_eq_true.1 rfl) | (intro u hu; simp only [List.mem_cons, List.not_mem_nil, or_false] at hu; rcases hu with rfl | rfl <;> assumption))) ?_; rintro _ _ rfl
        refine TR.nil (TQ.then (TC.ret ?_))
        refine retc tst_sealskinref03_Wide rfl rfl m0 rfl (fun w' hp => ?_)
        exact ⟨_, _, rfl, ⟨_, _, rfl, by assumption, by assumption, rfl⟩, (hp.drop5.drop4.drop3.tail.pick1)⟩
       ·refine TR.o rfl rfl wt0 (OpX.buildSlice (ps := #[]) rfl (bs_bool_0 )) (by rintro _ _ ⟨g11, rfl, rfl⟩; intro w h; exact h.drop3.drop2.drop1.tail) ?_; rintro _ _ ⟨g11, rfl, rfl⟩
        refine TR.hp (fun _ h => blk_row (k := 1) (m := 0) h rfl (by decide)) (TR.hp (fun _ h => h.pick2) ?_)
        refine TR.o rfl rfl wt0 (OpX.append (bytes := 16) tsl_string (by decide) (by decide) rfl rw2 (strs_one [[]]) (by omega) (zs := (P ++ [[]]).map sv) (by rw [List.map_append]; rfl)) (by rintro v295 _ rfl; intro w h; exact h.drop3.drop2.drop1.tail) ?_; rintro v295 _ rfl
        refine TR.know (fun _ h => row1 h) (fun o295 => (TR.hp (fun _ h => row_lenM h) (TR.hp (fun _ h => h.pick1) ?_)))
        refine TR.o rfl rfl wt0 (OpX.append (bytes := 1) tsl_bool (by decide) (by decide) rfl hr2.cons.cons.cons.cons.cons.cons (bools_one _) (by omega) (zs := D.map bv) rfl) (by rintro v296 _ rfl; intro w h; exact h.drop3.drop2.drop1.tail) ?_; rintro v296 _ rfl
        refine TR.know (fun _ h => row1 h) (fun o296 => (TR.hp (fun _ h => row_lenM h) ?_))
        refine TR.o rfl rfl wt0 (OpX.append (bytes := 1) tsl_bool (by decide) (by decide) rfl rw3 (bools_one [b]) (by omega) (zs := (D ++ [b]).map bv) (by rw [List.map_append]; rfl)) (by rintro v297 _ rfl; intro w h; exact h.drop3.drop2.drop1.tail) ?_; rintro v297 _ rfl
        refine TR.know (fun _ h => row1 h) (fun o297 => (TR.hp (fun _ h => row_lenM h) (TR.p rfl rfl wt0 (op_build (ps := #[(0, _), (1, _)]) rfl (bl_sealskinref03_Wide_01 _ _)) (TR.hp (fun _ h => h.pick4) ?_))))
        refine TR.z0 rfl wt0 (OpX.storeS tst_sealskinref03_Wide rfl rfl rfl rfl rfl (by first | exact (List.all_eq_true.1 rfl) | (intro u hu; simp only [List.mem_cons, List.not_mem_nil, or_false] at hu; rcases hu with rfl | rfl <;> assumption))) ?_; rintro _ _ rfl
        refine TR.nil (TQ.then (TC.ret ?_))
        refine retc tst_sealskinref03_Wide rfl rfl m0 rfl (fun w' hp => ?_)
        exact ⟨_, _, rfl, ⟨_, _, rfl, by assumption, by assumption, rfl⟩, (hp.drop5.drop4.drop3.tail.pick1)⟩
      ·refine TR.o rfl rfl wt0 (OpX.buildSlice (ps := #[]) rfl (bs_bool_0 )) (by rintro _ _ ⟨g11, rfl, rfl⟩; intro w h; exact h.drop2.drop1.tail) ?_; rintro _ _ ⟨g11, rfl, rfl⟩
       refine TR.hp (fun _ h => blk_row (k := 1) (m := 0) h rfl (by decide)) ?_
       refine TR.o rfl rfl wt0 (OpX.buildSlice (ps := #[(0, _)]) rfl (bs_string_1 _)) (by rintro _ _ ⟨g9, rfl, rfl⟩; intro w h; exact h.drop3.drop2.drop1.tail) ?_; rintro _ _ ⟨g9, rfl, rfl⟩
       refine TR.hp (fun _ h => blk_row (k := 1) (m := 1) h rfl (by decide)) (TR.hp (fun _ h => h.pick2) ?_)
       refine TR.o rfl rfl wt0 (OpX.append (bytes := 16) tsl_string (by decide) (by decide) rfl rw1 (strs_one [[]]) (by omega) (zs := (P ++ [[]]).map sv) (by rw [List.map_append]; rfl)) (by rintro v298 _ rfl; intro w h; exact h.drop3.drop2.drop1.tail) ?_; rintro v298 _ rfl
       refine TR.know (fun _ h => row1 h) (fun o298 => (TR.hp (fun _ h => row_lenM h) (TR.hp (fun _ h => h.pick2) ?_)))
       refine TR.o rfl rfl wt0 (OpX.append (bytes := 1) tsl_bool (by decide) (by decide) rfl hr2.cons.cons.cons.cons.cons.cons (bools_one _) (by omega) (zs := D.map bv) rfl) (by rintro v299 _ rfl; intro w h; exact h.drop3.drop2.drop1.tail) ?_; rintro v299 _ rfl
       refine TR.know (fun _ h => row1 h) (fun o299 => (TR.hp (fun _ h => row_lenM h) ?_))
       refine TR.o rfl rfl wt0 (OpX.append (bytes := 1) tsl_bool (by decide) (by decide) rfl rw3 (bools_one [b]) (by omega) (zs := (D ++ [b]).map bv) (by rw [List.map_append]; rfl)) (by rintro v300 _ rfl; intro w h; exact h.drop3.drop2.drop1.tail) ?_; rintro v300 _ rfl
       refine TR.know (fun _ h => row1 h) (fun o300 => (TR.hp (fun _ h => row_lenM h) (TR.p rfl rfl wt0 (op_build (ps := #[(0, _), (1, _)]) rfl (bl_sealskinref03_Wide_01 _ _)) (TR.hp (fun _ h => h.pick4) ?_))))
       refine TR.z0 rfl wt0 (OpX.storeS tst_sealskinref03_Wide rfl rfl rfl rfl rfl (by first | exact (List.all_eq_true.1 rfl) | (intro u hu; simp only [List.mem_cons, List.not_mem_nil, or_false] at hu; rcases hu with rfl | rfl <;> assumption))) ?_; rintro _ _ rfl
       refine TR.nil (TQ.then (TC.ret ?_))
       refine retc tst_sealskinref03_Wide rfl rfl m0 rfl (fun w' hp => ?_)
       exact ⟨_, _, rfl, ⟨_, _, rfl, by assumption, by assumption, rfl⟩, (hp.drop5.drop4.drop3.tail.pick1)⟩
     ·refine TR.alt ?_ ?_
      ·refine TR.o rfl rfl wt0 (OpX.buildSlice (ps := #[(0, _)]) rfl (bs_string_1 _)) (by rintro _ _ ⟨g9, rfl, rfl⟩; intro w h; exact h.drop2.drop1.tail) ?_; rintro _ _ ⟨g9, rfl, rfl⟩
       refine TR.hp (fun _ h => blk_row (k := 1) (m := 1) h rfl (by decide)) ?_
       refine TR.alt ?_ ?_
       ·refine TR.hp (fun _ h => h.pick1) ?_
        refine TR.o rfl rfl wt0 (OpX.append (bytes := 16) tsl_string (by decide) (by decide) rfl hr.cons.cons.cons.cons.cons (strs_one _) (by omega) (zs := P.map sv) rfl) (by rintro v301 _ rfl; intro w h; exact h.drop2.drop1.tail) ?_; rintro v301 _ rfl
        refine TR.know (fun _ h => row1 h) (fun o301 => (TR.hp (fun _ h => row_lenM h) ?_))
        refine TR.alt ?_ ?_
        ·refine TR.o rfl rfl wt0 (OpX.append (bytes := 16) tsl_string (by decide) (by decide) rfl rw1 (strs_one [[]]) (by omega) (zs := (P ++ [[]]).map sv) (by rw [List.map_append]; rfl)) (by rintro v302 _ rfl; intro w h; exact h.drop2.drop1.tail) ?_; rintro v302 _ rfl
         refine TR.know (fun _ h => row1 h) (fun o302 => (TR.hp (fun _ h => row_lenM h) ?_))
         refine TR.o rfl rfl wt0 (OpX.buildSlice (ps := #[]) rfl (bs_bool_0 )) (by rintro _ _ ⟨g11, rfl, rfl⟩; intro w h; exact h.drop3.drop2.drop1.tail) ?_; rintro _ _ ⟨g11, rfl, rfl⟩
         refine TR.hp (fun _ h => blk_row (k := 1) (m := 0) h rfl (by decide)) ?_
         refine TR.o rfl rfl wt0 (OpX.append (bytes := 1) tsl_bool (by decide) (by decide) rfl hr2.cons.cons.cons.cons.cons.cons (bools_one _) (by omega) (zs := D.map bv) rfl) (by rintro v303 _ rfl; intro w h; exact h.drop3.drop2.drop1.tail) ?_; rintro v303 _ rfl
         refine TR.know (fun _ h => row1 h) (fun o303 => (TR.hp (fun _ h => row_lenM h) ?_))
         refine TR.o rfl rfl wt0 (OpX.append (bytes := 1) tsl_bool (by decide) (by decide) rfl rw3 (bools_one [b]) (by omega) (zs := (D ++ [b]).map bv) (by rw [List.map_append]; rfl)) (by rintro v304 _ rfl; intro w h; exact h.drop3.drop2.drop1.tail) ?_; rintro v304 _ rfl
         refine TR.know (fun _ h => row1 h) (fun o304 => (TR.hp (fun _ h => row_lenM h) (TR.p rfl rfl wt0 (op_build (ps := #[(0, _), (1, _)]) rfl (bl_sealskinref03_Wide_01 _ _)) (TR.hp (fun _ h => h.pick4) ?_))))
         refine TR.z0 rfl wt0 (OpX.storeS tst_sealskinref03_Wide rfl rfl rfl rfl rfl (by first | exact (List.all_eq_true.1 rfl) | (intro u hu; simp only [List.mem_cons, List.not_mem_nil, or_false] at hu; rcases hu with rfl | rfl <;> assumption))) ?_; rintro _ _ rfl
         refine TR.nil (TQ.then (TC.ret ?_))
         refine retc tst_sealskinref03_Wide rfl rfl m0 rfl (fun w' hp => ?_)
         exact ⟨_, _, rfl, ⟨_, _, rfl, by assumption, by assumption, rfl⟩, (hp.drop5.drop4.drop3.tail.pick1)⟩
        ·refine TR.o rfl rfl wt0 (OpX.buildSlice (ps := #[]) rfl (bs_bool_0 )) (by rintro _ _ ⟨g11, rfl, rfl⟩; intro w h; exact h.drop3.drop2.drop1.tail) ?_; rintro _ _ ⟨g11, rfl, rfl⟩
         refine TR.hp (fun _ h => blk_row (k := 1) (m := 0) h rfl (by decide)) (TR.hp (fun _ h => h.pick1) ?_)
         refine TR.o rfl rfl wt0 (OpX.append (bytes := 16) tsl_string (by decide) (by decide) rfl rw2 (strs_one [[]]) (by omega) (zs := (P ++ [[]]).map sv) (by rw [List.map_append]; rfl)) (by rintro v305 _ rfl; intro w h; exact h.drop3.drop2.drop1.tail) ?_; rintro v305 _ rfl
         refine TR.know (fun _ h => row1 h) (fun o305 => (TR.hp (fun _ h => row_lenM h) (TR.hp (fun _ h => h.pick1) ?_)))
         refine TR.o rfl rfl wt0 (OpX.append (bytes := 1) tsl_bool (by decide) (by decide) rfl hr2.cons.cons.cons.cons.cons.cons (bools_one _) (by omega) (zs := D.map bv) rfl) (by rintro v306 _ rfl; intro w h; exact h.drop3.drop2.drop1.tail) ?_; rintro v306 _ rfl
         refine TR.know (fun _ h => row1 h) (fun o306 => (TR.hp (fun _ h => row_lenM h) ?_))
         refine TR.o rfl rfl wt0 (OpX.append (bytes := 1) tsl_bool (by decide) (by decide) rfl rw3 (bools_one [b]) (by omega) (zs := (D ++ [b]).map bv) (by rw [List.map_append]; rfl)) (by rintro v307 _ rfl; intro w h; exact h.drop3.drop2.drop1.tail) ?_; rintro v307 _ rfl
         refine TR.know (fun _ h => row1 h) (fun o307 => (TR.hp (fun _ h => row_lenM h) (TR.p rfl rfl wt0 (op_build (ps := #[(0, _), (1, _)]) rfl (bl_sealskinref03_Wide_01 _ _)) (TR.hp (fun _ h => h.pick4) ?_))))
         refine TR.z0 rfl wt0 (OpX.storeS tst_sealskinref03_Wide rfl rfl rfl rfl rfl (by first | exact (List.all_eq_true.1 rfl) | (intro u hu; simp only [List.mem_cons, List.not_mem_nil, or_false] at hu; rcases hu with rfl | rfl <;> assumption))) ?_; rintro _ _ rfl
         refine TR.nil (TQ.then (TC.ret ?_))
         refine retc tst_sealskinref03_Wide rfl rfl m0 rfl (fun w' hp => ?_)
         exact ⟨_, _, rfl, ⟨_, _, rfl, by assumption, by assumption, rfl⟩, (hp.drop5.drop4.drop3.tail.pick1)⟩
       ·refine TR.o rfl rfl wt0 (OpX.buildSlice (ps := #[]) rfl (bs_bool_0 )) (by rintro _ _ ⟨g11, rfl, rfl⟩; intro w h; exact h.drop3.drop2.drop1.tail) ?_; rintro _ _ ⟨g11, rfl, rfl⟩
        refine TR.hp (fun _ h => blk_row (k := 1) (m := 0) h rfl (by decide)) (TR.hp (fun _ h => h.pick2) ?_)
        refine TR.o rfl rfl wt0 (OpX.append (bytes := 16) tsl_string (by decide) (by decide) rfl hr.cons.cons.cons.cons.cons.cons (strs_one _) (by omega) (zs := P.map sv) rfl) (by rintro v308 _ rfl; intro w h; exact h.drop3.drop2.drop1.tail) ?_; rintro v308 _ rfl
        refine TR.know (fun _ h => row1 h) (fun o308 => (TR.hp (fun _ h => row_lenM h) ?_))
        refine TR.o rfl rfl wt0 (OpX.append (bytes := 16) tsl_string (by decide) (by decide) rfl rw2 (strs_one [[]]) (by omega) (zs := (P ++ [[]]).map sv) (by rw [List.map_append]; rfl)) (by rintro v309 _ rfl; intro w h; exact h.drop3.drop2.drop1.tail) ?_; rintro v309 _ rfl
        refine TR.know (fun _ h => row1 h) (fun o309 => (TR.hp (fun _ h => row_lenM h) (TR.hp (fun _ h => h.pick1) ?_)))
        refine TR.o rfl rfl wt0 (OpX.append (bytes := 1) tsl_bool (by decide) (by decide) rfl hr2.cons.cons.cons.cons.cons.cons (bools_one _) (by omega) (zs := D.map bv) rfl) (by rintro v310 _ rfl; intro w h; exact h.drop3.drop2.drop1.tail) ?_; rintro v310 _ rfl
        refine TR.know (fun _ h => row1 h) (fun o310 => (TR.hp (fun _ h => row_lenM h) ?_))
        refine TR.o rfl rfl wt0 (OpX.append (bytes := 1) tsl_bool (by decide) (by decide) rfl rw3 (bools_one [b]) (by omega) (zs := (D ++ [b]).map bv) (by rw [List.map_append]; rfl)) (by rintro v311 _ rfl; intro w h; exact h.drop3.drop2.drop1.tail) ?_; rintro v311 _ rfl
        refine TR.know (fun _ h => row1 h) (fun o311 => (TR.hp (fun _ h => row_lenM h) (TR.p rfl rfl wt0 (op_build (ps := #[(0, _), (1, _)]) rfl (bl_sealskinref03_Wide_01 _ _)) (TR.hp (fun _ h => h.pick4) ?_))))
        refine TR.z0 rfl wt0 (OpX.storeS tst_sealskinref03_Wide rfl rfl rfl rfl rfl (by first | exact (List.all_eq_true.1 rfl) | (intro u hu; simp only [List.mem_cons, List.not_mem_nil, or_false] at hu; rcases hu with rfl | rfl <;> assumption))) ?_; rintro _ _ rfl
        refine TR.nil (TQ.then (TC.ret ?_))
        refine retc tst_sealskinref03_Wide rfl rfl m0 rfl (fun w' hp => ?_)
        exact ⟨_, _, rfl, ⟨_, _, rfl, by assumption, by assumption, rfl⟩, (hp.drop5.drop4.drop3.tail.pick1)⟩
      ·refine TR.o rfl rfl wt0 (OpX.buildSlice (ps := #[]) rfl (bs_bool_0 )) (by rintro _ _ ⟨g11, rfl, rfl⟩; intro w h; exact h.drop2.drop1.tail) ?_; rintro _ _ ⟨g11, rfl, rfl⟩
       refine TR.hp (fun _ h => blk_row (k := 1) (m := 0) h rfl (by decide)) ?_
       refine TR.alt ?_ ?_
       ·refine TR.hp (fun _ h => h.pick1) ?_
        refine TR.o rfl rfl wt0 (OpX.append (bytes := 16) tsl_string (by decide) (by decide) rfl hr.cons.cons.cons.cons.cons (strs_one _) (by omega) (zs := P.map sv) rfl) (by rintro v312 _ rfl; intro w h; exact h.drop2.drop1.tail) ?_; rintro v312 _ rfl
        refine TR.know (fun _ h => row1 h) (fun o312 => (TR.hp (fun _ h => row_lenM h) ?_))
        refine TR.o rfl rfl wt0 (OpX.buildSlice (ps := #[(0, _)]) rfl (bs_string_1 _)) (by rintro _ _ ⟨g9, rfl, rfl⟩; intro w h; exact h.drop3.drop2.drop1.tail) ?_; rintro _ _ ⟨g9, rfl, rfl⟩
        refine TR.hp (fun _ h => blk_row (k := 1) (m := 1) h rfl (by decide)) (TR.hp (fun _ h => h.pick1) ?_)
        refine TR.o rfl rfl wt0 (OpX.append (bytes := 16) tsl_string (by decide) (by decide) rfl rw1 (strs_one [[]]) (by omega) (zs := (P ++ [[]]).map sv) (by rw [List.map_append]; rfl)) (by rintro v313 _ rfl; intro w h; exact h.drop3.drop2.drop1.tail) ?_; rintro v313 _ rfl
        refine TR.know (fun _ h => row1 h) (fun o313 => (TR.hp (fun _ h => row_lenM h) (TR.hp (fun _ h => h.pick2) ?_)))
        refine TR.o rfl rfl wt0 (OpX.append (bytes := 1) tsl_bool (by decide) (by decide) rfl hr2.cons.cons.cons.cons.cons.cons (bools_one _) (by omega) (zs := D.map bv) rfl) (by rintro v314 _ rfl; intro w h; exact h.drop3.drop2.drop1.tail) ?_; rintro v314 _ rfl
        refine TR.know (fun _ h => row1 h) (fun o314 => (TR.hp (fun _ h => row_lenM h) ?_))
        refine TR.o rfl rfl wt0 (OpX.append (bytes := 1) tsl_bool (by decide) (by decide) rfl rw3 (bools_one [b]) (by omega) (zs := (D ++ [b]).map bv) (by rw [List.map_append]; rfl)) (by rintro v315 _ rfl; intro w h; exact h.drop3.drop2.drop1.tail) ?_; rintro v315 _ rfl
        refine TR.know (fun _ h => row1 h) (fun o315 => (TR.hp (fun _ h => row_lenM h) (TR.p rfl rfl wt0 (op_build (ps := #[(0, _), (1, _)]) rfl (bl_sealskinref03_Wide_01 _ _)) (TR.hp (fun _ h => h.pick4) ?_))))
        refine TR.z0 rfl wt0 (OpX.storeS tst_sealskinref03_Wide rfl rfl rfl rfl rfl (by first | exact (List.all_eq_true.1 rfl) | (intro u hu; simp only [List.mem_cons, List.not_mem_nil, or_false] at hu; rcases hu with rfl | rfl <;> assumption))) ?_; rintro _ _ rfl
        refine TR.nil (TQ.then (TC.ret ?_))
        refine retc tst_sealskinref03_Wide rfl rfl m0 rfl (fun w' hp => ?_)
        exact ⟨_, _, rfl, ⟨_, _, rfl, by assumption, by assumption, rfl⟩, (hp.drop5.drop4.drop3.tail.pick1)⟩
       ·refine TR.o rfl rfl wt0 (OpX.buildSlice (ps := #[(0, _)]) rfl (bs_string_1 _)) (by rintro _ _ ⟨g9, rfl, rfl⟩; intro w h; exact h.drop3.drop2.drop1.tail) ?_; rintro _ _ ⟨g9, rfl, rfl⟩
        refine TR.hp (fun _ h => blk_row (k := 1) (m := 1) h rfl (by decide)) (TR.hp (fun _ h => h.pick2) ?_)
        refine TR.o rfl rfl wt0 (OpX.append (bytes := 16) tsl_string (by decide) (by decide) rfl hr.cons.cons.cons.cons.cons.cons (strs_one _) (by omega) (zs := P.map sv) rfl) (by rintro v316 _ rfl; intro w h; exact h.drop3.drop2.drop1.tail) ?_; rintro v316 _ rfl
        refine TR.know (fun _ h => row1 h) (fun o316 => (TR.hp (fun _ h => row_lenM h) ?_))
        refine TR.o rfl rfl wt0 (OpX.append (bytes := 16) tsl_string (by decide) (by decide) rfl rw1 (strs_one [[]]) (by omega) (zs := (P ++ [[]]).map sv) (by rw [List.map_append]; rfl)) (by rintro v317 _ rfl; intro w h; exact h.drop3.drop2.drop1.tail) ?_; rintro v317 _ rfl
        refine TR.know (fun _ h => row1 h) (fun o317 => (TR.hp (fun _ h => row_lenM h) (TR.hp (fun _ h => h.pick2) ?_)))
        refine TR.o rfl rfl wt0 (OpX.append (bytes := 1) tsl_bool (by decide) (by decide) rfl hr2.cons.cons.cons.cons.cons.cons (bools_one _) (by omega) (zs := D.map bv) rfl) (by rintro v318 _ rfl; intro w h; exact h.drop3.drop2.drop1.tail) ?_; rintro v318 _ rfl
        refine TR.know (fun _ h => row1 h) (fun o318 => (TR.hp (fun _ h => row_lenM h) ?_))
        refine TR.o rfl rfl wt0 (OpX.append (bytes := 1) tsl_bool (by decide) (by decide) rfl rw3 (bools_one [b]) (by omega) (zs := (D ++ [b]).map bv) (by rw [List.map_append]; rfl)) (by rintro v319 _ rfl; intro w h; exact h.drop3.drop2.drop1.tail) ?_; rintro v319 _ rfl
        refine TR.know (fun _ h => row1 h) (fun o319 => (TR.hp (fun _ h => row_lenM h) (TR.p rfl rfl wt0 (op_build (ps := #[(0, _), (1, _)]) rfl (bl_sealskinref03_Wide_01 _ _)) (TR.hp (fun _ h => h.pick4) ?_))))
        refine TR.z0 rfl wt0 (OpX.storeS tst_sealskinref03_Wide rfl rfl rfl rfl rfl (by first | exact (List.all_eq_true.1 rfl) | (intro u hu; simp only [List.mem_cons, List.not_mem_nil, or_false] at hu; rcases hu with rfl | rfl <;> assumption))) ?_; rintro _ _ rfl
        refine TR.nil (TQ.then (TC.ret ?_))
        refine retc tst_sealskinref03_Wide rfl rfl m0 rfl (fun w' hp => ?_)
        exact ⟨_, _, rfl, ⟨_, _, rfl, by assumption, by assumption, rfl⟩, (hp.drop5.drop4.drop3.tail.pick1)⟩
    ·refine TR.alt ?_ ?_
     ·refine TR.o rfl rfl wt0 (OpX.buildSlice (ps := #[(0, _)]) rfl (bs_string_1 _)) (by rintro _ _ ⟨g9, rfl, rfl⟩; intro w h; exact h.drop1.tail) ?_; rintro _ _ ⟨g9, rfl, rfl⟩
      refine TR.hp (fun _ h => blk_row (k := 1) (m := 1) h rfl (by decide)) ?_
      refine TR.alt ?_ ?_
      ·refine TR.o rfl rfl wt0 (OpX.buildSlice (ps := #[]) rfl (bs_string_0 )) (by rintro _ _ ⟨g5, rfl, rfl⟩; intro w h; exact h.drop2.drop1.tail) ?_; rintro _ _ ⟨g5, rfl, rfl⟩
       refine TR.hp (fun _ h => blk_row (k := 1) (m := 0) h rfl (by decide)) ?_
       refine TR.alt ?_ ?_
       ·refine TR.o rfl rfl wt0 (OpX.append (bytes := 16) tsl_string (by decide) (by decide) rfl hr.cons.cons.cons.cons.cons (strs_one _) (by omega) (zs := P.map sv) rfl) (by rintro v320 _ rfl; intro w h; exact h.drop2.drop1.tail) ?_; rintro v320 _ rfl
        refine TR.know (fun _ h => row1 h) (fun o320 => (TR.hp (fun _ h => row_lenM h) ?_))
        refine TR.alt ?_ ?_
        ·refine TR.o rfl rfl wt0 (OpX.append (bytes := 16) tsl_string (by decide) (by decide) rfl rw1 (strs_one [[]]) (by omega) (zs := (P ++ [[]]).map sv) (by rw [List.map_append]; rfl)) (by rintro v321 _ rfl; intro w h; exact h.drop2.drop1.tail) ?_; rintro v321 _ rfl
         refine TR.know (fun _ h => row1 h) (fun o321 => (TR.hp (fun _ h => row_lenM h) ?_))
         refine TR.o rfl rfl wt0 (OpX.buildSlice (ps := #[]) rfl (bs_bool_0 )) (by rintro _ _ ⟨g11, rfl, rfl⟩; intro w h; exact h.drop3.drop2.drop1.tail) ?_; rintro _ _ ⟨g11, rfl, rfl⟩
         refine TR.hp (fun _ h => blk_row (k := 1) (m := 0) h rfl (by decide)) ?_
         refine TR.o rfl rfl wt0 (OpX.append (bytes := 1) tsl_bool (by decide) (by decide) rfl hr2.cons.cons.cons.cons.cons.cons (bools_one _) (by omega) (zs := D.map bv) rfl) (by rintro v322 _ rfl; intro w h; exact h.drop3.drop2.drop1.tail) ?_; rintro v322 _ rfl
         refine TR.know (fun _ h => row1 h) (fun o322 => (TR.hp (fun _ h => row_lenM h) ?_))
         refine TR.o rfl rfl wt0 (OpX.append (bytes := 1) tsl_bool (by decide) (by decide) rfl rw3 (bools_one [b]) (by omega) (zs := (D ++ [b]).map bv) (by rw [List.map_append]; rfl)) (by rintro v323 _ rfl; intro w h; exact h.drop3.drop2.drop1.tail) ?_; rintro v323 _ rfl
         refine TR.know (fun _ h => row1 h) (fun o323 => (TR.hp (fun _ h => row_lenM h) (TR.p rfl rfl wt0 (op_build (ps := #[(0, _), (1, _)]) rfl (bl_sealskinref03_Wide_01 _ _)) (TR.hp (fun _ h => h.pick4) ?_))))
         refine TR.z0 rfl wt0 (OpX.storeS tst_sealskinref03_Wide rfl rfl rfl rfl rfl (by first | exact (List.all_eq_true.1 rfl) | (intro u hu; simp only [List.mem_cons, List.not_mem_nil, or_false] at hu; rcases hu with rfl | rfl <;> assumption))) ?_; rintro _ _ rfl
         refine TR.nil (TQ.then (TC.ret ?_))
         refine retc tst_sealskinref03_Wide rfl rfl m0 rfl (fun w' hp => ?_)
         exact ⟨_, _, rfl, ⟨_, _, rfl, by assumption, by assumption, rfl⟩, (hp.drop5.drop4.drop3.tail.pick1)⟩
        ·refine TR.o rfl rfl wt0 (OpX.buildSlice (ps := #[]) rfl (bs_bool_0 )) (by rintro _ _ ⟨g11, rfl, rfl⟩; intro w h; exact h.drop3.drop2.drop1.tail) ?_; rintro _ _ ⟨g11, rfl, rfl⟩
         refine TR.hp (fun _ h => blk_row (k := 1) (m := 0) h rfl (by decide)) (TR.hp (fun _ h => h.pick1) ?_)
         refine TR.o rfl rfl wt0 (OpX.append (bytes := 16) tsl_string (by decide) (by decide) rfl rw2 (strs_one [[]]) (by omega) (zs := (P ++ [[]]).map sv) (by rw [List.map_append]; rfl)) (by rintro v324 _ rfl; intro w h; exact h.drop3.drop2.drop1.tail) ?_; rintro v324 _ rfl
         refine TR.know (fun _ h => row1 h) (fun o324 => (TR.hp (fun _ h => row_lenM h) (TR.hp (fun _ h => h.pick1) ?_)))
         refine TR.o rfl rfl wt0 (OpX.append (bytes := 1) tsl_bool (by decide) (by decide) rfl hr2.cons.cons.cons.cons.cons.cons (bools_one _) (by omega) (zs := D.map bv) rfl) (by rintro v325 _ rfl; intro w h; exact h.drop3.drop2.drop1.tail) ?_; rintro v325 _ rfl
         refine TR.know (fun _ h => row1 h) (fun o325 => (TR.hp (fun _ h => row_lenM h) ?_))
         refine TR.o rfl rfl wt0 (OpX.append (bytes := 1) tsl_bool (by decide) (by decide) rfl rw3 (bools_one [b]) (by omega) (zs := (D ++ [b]).map bv) (by rw [List.map_append]; rfl)) (by rintro v326 _ rfl; intro w h; exact h.drop3.drop2.drop1.tail) ?_; rintro v326 _ rfl
         refine TR.know (fun _ h => row1 h) (fun o326 => (TR.hp (fun _ h => row_lenM h) (TR.p rfl rfl wt0 (op_build (ps := #[(0, _), (1, _)]) rfl (bl_sealskinref03_Wide_01 _ _)) (TR.hp (fun _ h => h.pick4) ?_))))
         refine TR.z0 rfl wt0 (OpX.storeS tst_sealskinref03_Wide rfl rfl rfl rfl rfl (by first | exact (List.all_eq_true.1 rfl) | (intro u hu; simp only [List.mem_cons, List.not_mem_nil, or_false] at hu; rcases hu with rfl | rfl <;> assumption))) ?_; rintro _ _ rfl
         refine TR.nil (TQ.then (TC.ret ?_))
         refine retc tst_sealskinref03_Wide rfl rfl m0 rfl (fun w' hp => ?_)
         exact ⟨_, _, rfl, ⟨_, _, rfl, by assumption, by assumption, rfl⟩, (hp.drop5.drop4.drop3.tail.pick1)⟩
       ·refine TR.o rfl rfl wt0 (OpX.buildSlice (ps := #[]) rfl (bs_bool_0 )) (by rintro _ _ ⟨g11, rfl, rfl⟩; intro w h; exact h.drop3.drop2.drop1.tail) ?_; rintro _ _ ⟨g11, rfl, rfl⟩
        refine TR.hp (fun _ h => blk_row (k := 1) (m := 0) h rfl (by decide)) (TR.hp (fun _ h => h.pick1) ?_)
        refine TR.o rfl rfl wt0 (OpX.append (bytes := 16) tsl_string (by decide) (by decide) rfl hr.cons.cons.cons.cons.cons.cons (strs_one _) (by omega) (zs := P.map sv) rfl) (by rintro v327 _ rfl; intro w h; exact h.drop3.drop2.drop1.tail) ?_; rintro v327 _ rfl
        refine TR.know (fun _ h => row1 h) (fun o327 => (TR.hp (fun _ h => row_lenM h) ?_))
        refine TR.o rfl rfl wt0 (OpX.append (bytes := 16) tsl_string (by decide) (by decide) rfl rw2 (strs_one [[]]) (by omega) (zs := (P ++ [[]]).map sv) (by rw [List.map_append]; rfl)) (by rintro v328 _ rfl; intro w h; exact h.drop3.drop2.drop1.tail) ?_; rintro v328 _ rfl
        refine TR.know (fun _ h => row1 h) (fun o328 => (TR.hp (fun _ h => row_lenM h) (TR.hp (fun _ h => h.pick1) ?_)))
        refine TR.o rfl rfl wt0 (OpX.append (bytes := 1) tsl_bool (by decide) (by decide) rfl hr2.cons.cons.cons.cons.cons.cons (bools_one _) (by omega) (zs := D.map bv) rfl) (by rintro v329 _ rfl; intro w h; exact h.drop3.drop2.drop1.tail) ?_; rintro v329 _ rfl
        refine TR.know (fun _ h => row1 h) (fun o329 => (TR.hp (fun _ h => row_lenM h) ?_))
        refine TR.o rfl rfl wt0 (OpX.append (bytes := 1) tsl_bool (by decide) (by decide) rfl rw3 (bools_one [b]) (by omega) (zs := (D ++ [b]).map bv) (by rw [List.map_append]; rfl)) (by rintro v330 _ rfl; intro w h; exact h.drop3.drop2.drop1.tail) ?_; rintro v330 _ rfl
        refine TR.know (fun _ h => row1 h) (fun o330 => (TR.hp (fun _ h => row_lenM h) (TR.p rfl rfl wt0 (op_build (ps := #[(0, _), (1, _)]) rfl (bl_sealskinref03_Wide_01 _ _)) (TR.hp (fun _ h => h.pick4) ?_))))
        refine TR.z0 rfl wt0 (OpX.storeS tst_sealskinref03_Wide rfl rfl rfl rfl rfl (by first | exact (List.all_eq_true.1 rfl) | (intro u hu; simp only [List.mem_cons, List.not_mem_nil, or_false] at hu; rcases hu with rfl | rfl <;> assumption))) ?_; rintro _ _ rfl
        refine TR.nil (TQ.then (TC.ret ?_))
        refine retc tst_sealskinref03_Wide rfl rfl m0 rfl (fun w' hp => ?_)
        exact ⟨_, _, rfl, ⟨_, _, rfl, by assumption, by assumption, rfl⟩, (hp.drop5.drop4.drop3.tail.pick1)⟩
      ·refine TR.o rfl rfl wt0 (OpX.buildSlice (ps := #[]) rfl (bs_bool_0 )) (by rintro _ _ ⟨g11, rfl, rfl⟩; intro w h; exact h.drop2.drop1.tail) ?_; rintro _ _ ⟨g11, rfl, rfl⟩
       refine TR.hp (fun _ h => blk_row (k := 1) (m := 0) h rfl (by decide)) ?_
       refine TR.o rfl rfl wt0 (OpX.buildSlice (ps := #[]) rfl (bs_string_0 )) (by rintro _ _ ⟨g5, rfl, rfl⟩; intro w h; exact h.drop3.drop2.drop1.tail) ?_; rintro _ _ ⟨g5, rfl, rfl⟩
       refine TR.hp (fun _ h => blk_row (k := 1) (m := 0) h rfl (by decide)) ?_
       refine TR.o rfl rfl wt0 (OpX.append (bytes := 16) tsl_string (by decide) (by decide) rfl hr.cons.cons.cons.cons.cons.cons (strs_one _) (by omega) (zs := P.map sv) rfl) (by rintro v331 _ rfl; intro w h; exact h.drop3.drop2.drop1.tail) ?_; rintro v331 _ rfl
       refine TR.know (fun _ h => row1 h) (fun o331 => (TR.hp (fun _ h => row_lenM h) ?_))
       refine TR.o rfl rfl wt0 (OpX.append (bytes := 16) tsl_string (by decide) (by decide) rfl rw2 (strs_one [[]]) (by omega) (zs := (P ++ [[]]).map sv) (by rw [List.map_append]; rfl)) (by rintro v332 _ rfl; intro w h; exact h.drop3.drop2.drop1.tail) ?_; rintro v332 _ rfl
       refine TR.know (fun _ h => row1 h) (fun o332 => (TR.hp (fun _ h => row_lenM h) (TR.hp (fun _ h => h.pick1) ?_)))
       refine TR.o rfl rfl wt0 (OpX.append (bytes := 1) tsl_bool (by decide) (by decide) rfl hr2.cons.cons.cons.cons.cons.cons (bools_one _) (by omega) (zs := D.map bv) rfl) (by rintro v333 _ rfl; intro w h; exact h.drop3.drop2.drop1.tail) ?_; rintro v333 _ rfl
       refine TR.know (fun _ h => row1 h) (fun o333 => (TR.hp (fun _ h => row_lenM h) ?_))
       refine TR.o rfl rfl wt0 (OpX.append (bytes := 1) tsl_bool (by decide) (by decide) rfl rw3 (bools_one [b]) (by omega) (zs := (D ++ [b]).map bv) (by rw [List.map_append]; rfl)) (by rintro v334 _ rfl; intro w h; exact h.drop3.drop2.drop1.tail) ?_; rintro v334 _ rfl
       refine TR.know (fun _ h => row1 h) (fun o334 => (TR.hp (fun _ h => row_lenM h) (TR.p rfl rfl wt0 (op_build (ps := #[(0, _), (1, _)]) rfl (bl_sealskinref03_Wide_01 _ _)) (TR.hp (fun _ h => h.pick4) ?_))))
       refine TR.z0 rfl wt0 (OpX.storeS tst_sealskinref03_Wide rfl rfl rfl rfl rfl (by first | exact (List.all_eq_true.1 rfl) | (intro u hu; simp only [List.mem_cons, List.not_mem_nil, or_false] at hu; rcases hu with rfl | rfl <;> assumption))) ?_; rintro _ _ rfl
       refine TR.nil (TQ.then (TC.ret ?_))
       refine retc tst_sealskinref03_Wide rfl rfl m0 rfl (fun w' hp => ?_)
       exact ⟨_, _, rfl, ⟨_, _, rfl, by assumption, by assumption, rfl⟩, (hp.drop5.drop4.drop3.tail.pick1)⟩
     ·refine TR.o rfl rfl wt0 (OpX.buildSlice (ps := #[]) rfl (bs_bool_0 )) (by rintro _ _ ⟨g11, rfl, rfl⟩; intro w h; exact h.drop1.tail) ?_; rintro _ _ ⟨g11, rfl, rfl⟩
      refine TR.hp (fun _ h => blk_row (k := 1) (m := 0) h rfl (by decide)) ?_
      refine TR.alt ?_ ?_
      ·refine TR.o rfl rfl wt0 (OpX.buildSlice (ps := #[]) rfl (bs_string_0 )) (by rintro _ _ ⟨g5, rfl, rfl⟩; intro w h; exact h.drop2.drop1.tail) ?_; rintro _ _ ⟨g5, rfl, rfl⟩
       refine TR.hp (fun _ h => blk_row (k := 1) (m := 0) h rfl (by decide)) ?_
       refine TR.alt ?_ ?_
       ·refine TR.o rfl rfl wt0 (OpX.append (bytes := 16) tsl_string (by decide) (by decide) rfl hr.cons.cons.cons.cons.cons (strs_one _) (by omega) (zs := P.map sv) rfl) (by rintro v335 _ rfl; intro w h; exact h.drop2.drop1.tail) ?_; rintro v335 _ rfl
        refine TR.know (fun _ h => row1 h) (fun o335 => (TR.hp (fun _ h => row_lenM h) ?_))
        refine TR.o rfl rfl wt0 (OpX.buildSlice (ps := #[(0, _)]) rfl (bs_string_1 _)) (by rintro _ _ ⟨g9, rfl, rfl⟩; intro w h; exact h.drop3.drop2.drop1.tail) ?_; rintro _ _ ⟨g9, rfl, rfl⟩
        refine TR.hp (fun _ h => blk_row (k := 1) (m := 1) h rfl (by decide)) (TR.hp (fun _ h => h.pick1) ?_)
        refine TR.o rfl rfl wt0 (OpX.append (bytes := 16) tsl_string (by decide) (by decide) rfl rw1 (strs_one [[]]) (by omega) (zs := (P ++ [[]]).map sv) (by rw [List.map_append]; rfl)) (by rintro v336 _ rfl; intro w h; exact h.drop3.drop2.drop1.tail) ?_; rintro v336 _ rfl
        refine TR.know (fun _ h => row1 h) (fun o336 => (TR.hp (fun _ h => row_lenM h) (TR.hp (fun _ h => h.pick2) ?_)))
        refine TR.o rfl rfl wt0 (OpX.append (bytes := 1) tsl_bool (by decide) (by decide) rfl hr2.cons.cons.cons.cons.cons.cons (bools_one _) (by omega) (zs := D.map bv) rfl) (by rintro v337 _ rfl; intro w h; exact h.drop3.drop2.drop1.tail) ?_; rintro v337 _ rfl
        refine TR.know (fun _ h => row1 h) (fun o337 => (TR.hp (fun _ h => row_lenM h) ?_))
        refine TR.o rfl rfl wt0 (OpX.append (bytes := 1) tsl_bool (by decide) (by decide) rfl rw3 (bools_one [b]) (by omega) (zs := (D ++ [b]).map bv) (by rw [List.map_append]; rfl)) (by rintro v338 _ rfl; intro w h; exact h.drop3.drop2.drop1.tail) ?_; rintro v338 _ rfl
        refine TR.know (fun _ h => row1 h) (fun o338 => (TR.hp (fun _ h => row_lenM h) (TR.p rfl rfl wt0 (op_build (ps := #[(0, _), (1, _)]) rfl (bl_sealskinref03_Wide_01 _ _)) (TR.hp (fun _ h => h.pick4) ?_))))
        refine TR.z0 rfl wt0 (OpX.storeS tst_sealskinref03_Wide rfl rfl rfl rfl rfl (by first | exact (List.all_eq_true.1 rfl) | (intro u hu; simp only [List.mem_cons, List.not_mem_nil, or_false] at hu; rcases hu with rfl | rfl <;> assumption))) ?_; rintro _ _ rfl
        refine TR.nil (TQ.then (TC.ret ?_))
        refine retc tst_sealskinref03_Wide rfl rfl m0 rfl (fun w' hp => ?_)
        exact ⟨_, _, rfl, ⟨_, _, rfl, by assumption, by assumption, rfl⟩, (hp.drop5.drop4.drop3.tail.pick1)⟩
       ·refine TR.o rfl rfl wt0 (OpX.buildSlice (ps := #[(0, _)]) rfl (bs_string_1 _)) (by rintro _ _ ⟨g9, rfl, rfl⟩; intro w h; exact h.drop3.drop2.drop1.tail) ?_; rintro _ _ ⟨g9, rfl, rfl⟩
        refine TR.hp (fun _ h => blk_row (k := 1) (m := 1) h rfl (by decide)) (TR.hp (fun _ h => h.pick1) ?_)
        refine TR.o rfl rfl wt0 (OpX.append (bytes := 16) tsl_string (by decide) (by decide) rfl hr.cons.cons.cons.cons.cons.cons (strs_one _) (by omega) (zs := P.map sv) rfl) (by rintro v339 _ rfl; intro w h; exact h.drop3.drop2.drop1.tail) ?_; rintro v339 _ rfl
        refine TR.know (fun _ h => row1 h) (fun o339 => (TR.hp (fun _ h => row_lenM h) ?_))
        refine TR.o rfl rfl wt0 (OpX.append (bytes := 16) tsl_string (by decide) (by decide) rfl rw1 (strs_one [[]]) (by omega) (zs := (P ++ [[]]).map sv) (by rw [List.map_append]; rfl)) (by rintro v340 _ rfl; intro w h; exact h.drop3.drop2.drop1.tail) ?_; rintro v340 _ rfl
        refine TR.know (fun _ h => row1 h) (fun o340 => (TR.hp (fun _ h => row_lenM h) (TR.hp (fun _ h => h.pick2) ?_)))
        refine TR.o rfl rfl wt0 (OpX.append (bytes := 1) tsl_bool (by decide) (by decide) rfl hr2.cons.cons.cons.cons.cons.cons (bools_one _) (by omega) (zs := D.map bv) rfl) (by rintro v341 _ rfl; intro w h; exact h.drop3.drop2.drop1.tail) ?_; rintro v341 _ rfl
        refine TR.know (fun _ h => row1 h) (fun o341 => (TR.hp (fun _ h => row_lenM h) ?_))
        refine TR.o rfl rfl wt0 (OpX.append (bytes := 1) tsl_bool (by decide) (by decide) rfl rw3 (bools_one [b]) (by omega) (zs := (D ++ [b]).map bv) (by rw [List.map_append]; rfl)) (by rintro v342 _ rfl; intro w h; exact h.drop3.drop2.drop1.tail) ?_; rintro v342 _ rfl
        refine TR.know (fun _ h => row1 h) (fun o342 => (TR.hp (fun _ h => row_lenM h) (TR.p rfl rfl wt0 (op_build (ps := #[(0, _), (1, _)]) rfl (bl_sealskinref03_Wide_01 _ _)) (TR.hp (fun _ h => h.pick4) ?_))))
        refine TR.z0 rfl wt0 (OpX.storeS tst_sealskinref03_Wide rfl rfl rfl rfl rfl (by first | exact (List.all_eq_true.1 rfl) | (intro u hu; simp only [List.mem_cons, List.not_mem_nil, or_false] at hu; rcases hu with rfl | rfl <;> assumption))) ?_; rintro _ _ rfl
        refine TR.nil (TQ.then (TC.ret ?_))
        refine retc tst_sealskinref03_Wide rfl rfl m0 rfl (fun w' hp => ?_)
        exact ⟨_, _, rfl, ⟨_, _, rfl, by assumption, by assumption, rfl⟩, (hp.drop5.drop4.drop3.tail.pick1)⟩
      ·refine TR.o rfl rfl wt0 (OpX.buildSlice (ps := #[(0, _)]) rfl (bs_string_1 _)) (by rintro _ _ ⟨g9, rfl, rfl⟩; intro w h; exact h.drop2.drop1.tail) ?_; rintro _ _ ⟨g9, rfl, rfl⟩
       refine TR.hp (fun _ h => blk_row (k := 1) (m := 1) h rfl (by decide)) ?_
       refine TR.o rfl rfl wt0 (OpX.buildSlice (ps := #[]) rfl (bs_string_0 )) (by rintro _ _ ⟨g5, rfl, rfl⟩; intro w h; exact h.drop3.drop2.drop1.tail) ?_; rintro _ _ ⟨g5, rfl, rfl⟩
       refine TR.hp (fun _ h => blk_row (k := 1) (m := 0) h rfl (by decide)) ?_
       refine TR.o rfl rfl wt0 (OpX.append (bytes := 16) tsl_string (by decide) (by decide) rfl hr.cons.cons.cons.cons.cons.cons (strs_one _) (by omega) (zs := P.map sv) rfl) (by rintro v343 _ rfl; intro w h; exact h.drop3.drop2.drop1.tail) ?_; rintro v343 _ rfl
       refine TR.know (fun _ h => row1 h) (fun o343 => (TR.hp (fun _ h => row_lenM h) ?_))
       refine TR.o rfl rfl wt0 (OpX.append (bytes := 16) tsl_string (by decide) (by decide) rfl rw1 (strs_one [[]]) (by omega) (zs := (P ++ [[]]).map sv) (by rw [List.map_append]; rfl)) (by rintro v344 _ rfl; intro w h; exact h.drop3.drop2.drop1.tail) ?_; rintro v344 _ rfl
       refine TR.know (fun _ h => row1 h) (fun o344 => (TR.hp (fun _ h => row_lenM h) (TR.hp (fun _ h => h.pick2) ?_)))
       refine TR.o rfl rfl wt0 (OpX.append (bytes := 1) tsl_bool (by decide) (by decide) rfl hr2.cons.cons.cons.cons.cons.cons (bools_one _) (by omega) (zs := D.map bv) rfl) (by rintro v345 _ rfl; intro w h; exact h.drop3.drop2.drop1.tail) ?_; rintro v345 _ rfl
       refine TR.know (fun _ h => row1 h) (fun o345 => (TR.hp (fun _ h => row_lenM h) ?_))
       refine TR.o rfl rfl wt0 (OpX.append (bytes := 1) tsl_bool (by decide) (by decide) rfl rw3 (bools_one [b]) (by omega) (zs := (D ++ [b]).map bv) (by rw [List.map_append]; rfl)) (by rintro v346 _ rfl; intro w h; exact h.drop3.drop2.drop1.tail) ?_; rintro v346 _ rfl
       refine TR.know (fun _ h => row1 h) (fun o346 => (TR.hp (fun _ h => row_lenM h) (TR.p rfl rfl wt0 (op_build (ps := #[(0, _), (1, _)]) rfl (bl_sealskinref03_Wide_01 _ _)) (TR.hp (fun _ h => h.pick4) ?_))))
       refine TR.z0 rfl wt0 (OpX.storeS tst_sealskinref03_Wide rfl rfl rfl rfl rfl (by first | exact (List.all_eq_true.1 rfl) | (intro u hu; simp only [List.mem_cons, List.not_mem_nil, or_false] at hu; rcases hu with rfl | rfl <;> assumption))) ?_; rintro _ _ rfl
       refine TR.nil (TQ.then (TC.ret ?_))
       refine retc tst_sealskinref03_Wide rfl rfl m0 rfl (fun w' hp => ?_)
       exact ⟨_, _, rfl, ⟨_, _, rfl, by assumption, by assumption, rfl⟩, (hp.drop5.drop4.drop3.tail.pick1)⟩

end Go.SK
