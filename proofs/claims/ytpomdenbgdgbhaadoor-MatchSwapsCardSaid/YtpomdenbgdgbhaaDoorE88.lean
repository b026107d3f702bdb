/- Layer 12: the document's Compile. -/
import Derived.Test.YtpomdenbgdgbhaaDoorE87
set_option linter.unusedVariables false
set_option linter.unusedSimpArgs false
set_option maxRecDepth 100000
namespace Go.SK
open Go Go.RowKit Go.Proofs
variable {S : Nat → Prop} {w0 : World} {F L : List Res}
def XPgIn (rs : List Res) (v : Value) (pg : List StP) (g : Nat) : Prop := ∃ a lv, ∃ ms : List RM, v = ptrV a ∧ Res.blk a (.cells [lv, .int .i64 (g : Int)].toArray 78 (0, 0)) ∈ rs ∧ Res.rd lv 12 ms.length (encs ms) ∈ rs ∧ ms.map Prod.fst = pg ∧ ∀ m ∈ ms, RmOk rs m
def XCmpRes (s : ByteArray) (rs : List Res) (v : Value) (i e : Int) : Prop := match cmpF s with
  | .ok t _ g => e = 0 ∧ i = 0 ∧ XPgIn rs v (progF t) g
  | .err e' j => e = e' ∧ e' ≠ 0 ∧ i = j ∧ v = .pointer none
theorem XCmpRes.err {s : ByteArray} {rs : List Res} {e : Int} {j : Nat} (h : cmpF s = .err e j) (he : e ≠ 0) : XCmpRes s rs (.pointer none) j e := by
  unfold XCmpRes; rw [h]; exact ⟨rfl, he, rfl, rfl⟩
theorem XCmpRes.ok {s : ByteArray} {rs : List Res} {t : Nd} {j g ga : Nat} {v : Value} {ks : List RM} {d : Pc} {w : Value} (h : cmpF s = .ok t j g) (hP : PGR rs (pcN t 0) ks w) :
    XCmpRes s (.blk ga (.cells [v, .int .i64 (g : Int)].toArray 78 (0, 0)) :: .rd v 12 (ks ++ [((⟨5, false, [], 0, 0⟩, d) : RM)]).length (encs (ks ++ [((⟨5, false, [], 0, 0⟩, d) : RM)])) :: rs) (ptrV ga) 0 0 := by
  unfold XCmpRes; rw [h]
  refine ⟨rfl, rfl, ga, v, _, rfl, .head _, .tail _ (.head _), by rw [List.map_append, hP.eq]; rfl, fun m hm => ?_⟩
  rcases List.mem_append.1 hm with hm | hm
  · intro h0
    obtain ⟨a, s', b, c⟩ := hP.ok m hm h0
    exact ⟨a, s', .tail _ (.tail _ b), c⟩
  · rw [List.mem_singleton.1 hm]; exact fun h0 => absurd (show (5 : Int) = 0 from h0) (show ¬ (5 : Int) = 0 by decide)
theorem xcompile_x (s : ByteArray) (hs : s.size ≤ 1048576) :
    CallX Tryd.prog 49 [.string s] S w0 (L) (fun u L' => ∃ rs v i e, u = .tuple #[v, .int .i64 i, .int .i64 e] ∧ XCmpRes s rs v i e ∧ L' = fz rs :: L) := by
 intro w hp
 have hdl := dec_len s
 refine calls_start Tryd.func49 rfl rfl rfl (hp) ?_
 refine TC.seq (TC.region (TL.as rfl rfl (TL.as rfl rfl (TL.as rfl rfl (TL.nil (TQ.then (TC.seq (TC.region (TL.opP rfl (op_move rfl) ?_)))))))))
 refine TL.opX rfl (OpX.callX en_83 rfl (xrunes_x s (by omega))) ?_; rintro _ _ ⟨w1, rfl, rfl⟩
 refine TL.know (fun _ h => row1 h) (fun ob => (TL.mv rfl rfl (TL.hp (fun _ h => row_rd h) (TL.opP rfl (op_extract rfl rfl) (TL.opP rfl (op_extract rfl rfl) (TL.as rfl rfl (TL.as rfl rfl (TL.nil (TQ.then (TC.seq (TC.seq (TC.region (TL.mv rfl rfl (TL.opP rfl (op_not rfl rfl) (TL.nil (TQ.then ?_))))))))))))))))
 refine TC.sp rfl (fun c1 => ?_) (fun c1 => ?_)
 ·have hv : valid s = false := by simpa using c1
  refine TC.seq (TC.region (TL.as rfl rfl (TL.as rfl rfl (TL.as rfl rfl (TL.nil (TQ.then (TC.ret (TQ.then_ret ?_))))))))
  refine ret3 rfl rfl rfl rfl (fun w' hp => ?_)
  exact ⟨_, _, rfl, ⟨_, _, _, _, rfl, .err (cmpF_a (readF_a hv)) (by decide), rfl⟩, fz_nil (hp.tail)⟩
 ·have hv : valid s = true := by simpa using c1
  refine TC.skip (TQ.then (TC.seq (TC.seq (TC.region (TL.mv rfl rfl (TL.opV rfl (op_lenV rfl un_sl_int32 rfl rd0) (TL.opP rfl (op_gtr rfl rfl) (TL.nil (TQ.then ?_)))))))))
  refine TC.sp rfl (fun c2 => ?_) (fun c2 => ?_)
  ·refine TC.seq (TC.region (TL.as rfl rfl (TL.as rfl rfl (TL.as rfl rfl (TL.nil (TQ.then (TC.ret (TQ.then_ret ?_))))))))
   refine ret3 rfl rfl rfl rfl (fun w' hp => ?_)
   exact ⟨_, _, rfl, ⟨_, _, _, _, rfl, .err (cmpF_a (readF_b hv (by omega))) (by decide), rfl⟩, fz_nil (hp.tail)⟩
  ·have hln : (dec s).length ≤ 200 := by omega
   have hps : ∀ x ∈ dec s, 0 ≤ x := fun x hx => by have := dec_scalar hv x hx; rcases this with h | h <;> omega
   refine TC.skip (TQ.then (TC.seq (TC.region (TL.mv rfl rfl (TL.opP rfl (op_build (ps := #[(0, _)]) rfl (bl_sealskinref12_reader_0 _)) ?_)))))
   refine TL.opX rfl (OpX.box (cs := [w1, .int .i64 0, .int .i64 0, .int .i64 0]) rfl rfl) ?_; rintro _ _ ⟨g21, rfl, rfl⟩
   refine TL.hp (fun _ h => fz_nil h) (TL.as rfl rfl (TL.nil (TQ.then (TC.seq (TC.region (TL.opP rfl (op_move rfl) ?_))))))
   refine TL.opX rfl (OpX.callX en_84 rfl (xrows_x (dec s) _ _ 0 0 rd0 hln hps [] ((dec s).length + 1) 0 (hxpart hln hps _) (by decide) (Nat.zero_le _) (by omega) (Nat.zero_le _))) ?_; rintro _ _ ⟨rz2, iz2, gz2, ez2, pz2, rfl, hR2, rfl⟩
   refine TL.opX rfl (OpX.alloc tz_sealskinref12_Part rfl) ?_; rintro _ _ ⟨g8, rfl, rfl⟩
   refine TL.opX0 (OpX.storeS tst_sealskinref12_Part rfl rfl rfl rfl rfl (nc_one (Pc.hs _) (Pc.hk _))) ?_; rintro _ _ rfl
   refine TL.nil (TQ.then (TC.seq (TC.seq (TC.region (TL.mv rfl rfl (TL.opP rfl (op_nilCheck rfl) (TL.opP rfl (op_field fld_sealskinref12_reader_e rfl) (TL.opV rfl (op_load ts_api_Errno rfl m2 rfl) (TL.opP rfl (op_eql rfl rfl) (TL.opP rfl (op_move rfl) ?_))))))))))
   refine TL.sp (fun c3 => ?_) (fun c3 => ?_)
   ·subst c3
    obtain ⟨t, hE, hPN⟩ := hR2.good rfl
    refine TL.gT rfl rfl (TL.mv rfl rfl (TL.gT rfl rfl (TL.opP rfl (op_nilCheck rfl) (TL.gT rfl rfl (TL.opP rfl (op_field fld_sealskinref12_reader_at rfl) (TL.gT rfl rfl (TL.opV rfl (op_load ts_int rfl m2 rfl) (TL.gT rfl rfl (TL.mv rfl rfl (TL.gT rfl rfl (TL.opV rfl (op_lenV rfl un_sl_int32 rfl rd3) (TL.gT rfl rfl (TL.opP rfl (op_lss rfl rfl) (TL.opP rfl (op_pickT rfl rfl) (TL.nil (TQ.then ?_))))))))))))))))
    refine TC.sp rfl (fun c4 => ?_) (fun c4 => ?_)
    ·refine TC.region (TL.mv rfl rfl (TL.hp (fun _ h => h.pick2) ?_))
     refine TL.opX rfl (OpX.callX en_85 rfl (xfail0_x (dec s) _ _ iz2 gz2 rd2 hln 90)) ?_; rintro _ _ ⟨rfl, rfl⟩
     refine TL.nil (TQ.then (TC.seq (TC.seq (TC.region (TL.mv rfl rfl (TL.opP rfl (op_nilCheck rfl) (TL.opP rfl (op_field fld_sealskinref12_reader_e rfl) (TL.opV rfl (op_load ts_api_Errno rfl m0 rfl) (TL.opP rfl (op_neq rfl rfl) (TL.nil (TQ.then ?_)))))))))))
     refine TC.sp rfl (fun c5 => ?_) (fun c5 => ?_)
     ·refine TC.seq (TC.draw [] (.cons (.p, 0) (.cons (.p, 1) (.cons (.p, 2) (.cons (.p, 4) (.cons (.p, 5) (.cons (.p, 6) (.cons (.p, 8) (.cons (.t, 3) (.cons (.p, 9) (.cons (.t, 7) (.cons (.p, 10) (.nil)))))))))))) mo (by kernel_rfl) (TR.p rfl rfl wt0 (op_move rfl) (TR.p rfl rfl wt0 (op_nilCheck rfl) (TR.p rfl rfl wt0 (op_field fld_sealskinref12_reader_at rfl) (TR.p rfl rfl wt0 (op_move rfl) (TR.p rfl rfl wt0 (op_nilCheck rfl) (TR.p rfl rfl wt0 (op_field fld_sealskinref12_reader_e rfl) (TR.p rfl rfl wt0 (op_assign rfl) (TR.t rfl rfl wt0 (op_load ts_int rfl m0 rfl) (fun _ h => h) (TR.p rfl rfl wt0 (op_assign rfl) (TR.t rfl rfl wt0 (op_load ts_api_Errno rfl m0 rfl) (fun _ h => h) (TR.p rfl rfl wt0 (op_assign rfl) ?_))))))))))))
      refine TR.nil (TQ.then (TC.ret (TQ.then_ret ?_)))
      refine ret3 rfl rfl rfl rfl (fun w' hp => ?_)
      exact ⟨_, _, rfl, ⟨_, _, _, _, rfl, .err (cmpF_a ((readF_c hv hln).trans (parse_more hE (by omega)))) (by decide), rfl⟩, (hp.drop3.drop1.tail)⟩
     ·exact absurd (show (90 : Int) ≠ 0 by decide) c5
    ·have hpo := parse_ok hE (by omega)
     obtain ⟨_, hts, htg, hok0⟩ := parseF_ok hpo
     have hok := hok0.mono (show gz2 ≤ 200 by omega)
     have hrf := (readF_c hv hln).trans hpo
     have hsl := steps_long hok
     refine TC.skip (TQ.then (TC.seq (TC.seq (TC.region (TL.mv rfl rfl (TL.opP rfl (op_nilCheck rfl) (TL.opP rfl (op_field fld_sealskinref12_reader_e rfl) (TL.opV rfl (op_load ts_api_Errno rfl m2 rfl) (TL.opP rfl (op_neq rfl rfl) (TL.nil (TQ.then ?_)))))))))))
     refine TC.sp rfl (fun c6 => ?_) (fun c6 => ?_)
     ·exact absurd rfl c6
     ·refine TC.skip (TQ.then (TC.seq (TC.seq (TC.region (TL.opV rfl (op_loadS tst_sealskinref12_Part rfl m0 rfl) ?_)))))
      refine TL.opX rfl (OpX.callX en_86 rfl (hstep 1000 rz2 t pz2 (by omega) (by decide) hPN hok _ _ _ m1)) ?_; rintro _ _ ⟨rfl, rfl⟩
      refine TL.opP rfl (op_gtr rfl rfl) (TL.nil (TQ.then ?_))
      refine TC.sp rfl (fun c7 => ?_) (fun c7 => ?_)
      ·refine TC.seq (TC.region (TL.as rfl rfl (TL.as rfl rfl (TL.as rfl rfl (TL.nil (TQ.then (TC.ret (TQ.then_ret ?_))))))))
       refine ret3 rfl rfl rfl rfl (fun w' hp => ?_)
       exact ⟨_, _, rfl, ⟨_, _, _, _, rfl, .err (cmpF_b hrf (hsl.1 c7)) (by decide), rfl⟩, (hp.drop3.drop2.tail)⟩
      ·refine TC.skip (TQ.then (TC.seq (TC.draw [] (.cons (.p, 2) (.cons (.p, 5) (.cons (.p, 6) (.cons (.p, 7) (.cons (.t, 0) (.cons (.t, 8) (.alt (.cons (.o, 1) (.cons (.o, 3) (.cons (.o, 4) (.cons (.p, 9) (.cons (.o, 10) (.cons (.p, 11) (.cons (.p, 12) (.cons (.p, 13) (.nil))))))))) (.cons (.o, 3) (.cons (.o, 1) (.cons (.o, 4) (.cons (.p, 9) (.cons (.o, 10) (.cons (.p, 11) (.cons (.p, 12) (.cons (.p, 13) (.nil)))))))))))))))) mo (by kernel_rfl) (TR.p rfl rfl wt0 (op_build (ps := #[]) rfl (bl_sealskinref12_Step_ )) (TR.p rfl rfl wt0 (op_move rfl) (TR.p rfl rfl wt0 (op_nilCheck rfl) (TR.p rfl rfl wt0 (op_field fld_sealskinref12_reader_groups rfl) (TR.hp (fun _ h => new_nil 135 12 h) (TR.t rfl rfl wt0 (op_loadS tst_sealskinref12_Part rfl m0 rfl) (fun _ h => h.tail) ?_)))))))))
       refine TR.t rfl rfl wt0 (op_load ts_int rfl m2 rfl) (fun _ h => h.tail) ?_
       refine TR.alt ?_ ?_
       ·refine TR.o rfl rfl wt0 (OpX.callX en_87 rfl (hprog 1000 rz2 t pz2 (by omega) (by decide) hPN hok _ _ _ nilS [] m1 rfl (by show 0 + clen t ≤ 5000; omega))) (by rintro vP5 _ ⟨_, kP5, rfl, hP5, rfl⟩; intro w h; exact h.tail) ?_; rintro vP5 _ ⟨_, kP5, rfl, hP5, rfl⟩
        refine TR.o rfl rfl wt0 (OpX.buildSlice (ps := #[(0, _)]) rfl (bs_sealskinref12_Step_1 ((⟨5, false, [], 0, 0⟩, default) : RM) _ (by kernel_rfl))) (by rintro _ _ ⟨g59, rfl, rfl⟩; intro w h; exact h.drop1.tail) ?_; rintro _ _ ⟨g59, rfl, rfl⟩
        refine TR.hp (fun _ h => blk_row (k := 12) (m := 1) h rfl (by decide)) (TR.hp (fun _ h => h.pick1) ?_)
        refine TR.o rfl rfl wt0 (OpX.append (bytes := 128) tsl_sealskinref12_Step (by decide) (by decide) rfl rw1 (encs_one _) (by have := hP5.len; rw [pcN_len] at this; rw [List.nil_append]; omega) (zs := encs (kP5 ++ [((⟨5, false, [], 0, 0⟩, default) : RM)])) (encs_append _ _).symm) (by rintro v6 _ rfl; intro w h; exact h.drop1.tail) ?_; rintro v6 _ rfl
        refine TR.know (fun _ h => row1 h) (fun o6 => (TR.hp (fun _ h => row_len12 h) (TR.p rfl rfl wt0 (op_build (ps := #[(0, _), (1, _)]) rfl (bl_sealskinref12_Pattern_01 _ _)) ?_)))
        refine TR.o rfl rfl wt0 (OpX.box (cs := [v6, .int .i64 ((gz2 : Nat) : Int)]) rfl rfl) (by rintro _ _ ⟨g66, rfl, rfl⟩; intro w h; exact h.drop2.drop1.tail) ?_; rintro _ _ ⟨g66, rfl, rfl⟩
        refine TR.p rfl rfl wt0 (op_assign rfl) (TR.p rfl rfl wt0 (op_assign rfl) (TR.p rfl rfl wt0 (op_assign rfl) (TR.nil (TQ.then (TC.ret ?_)))))
        refine ret3 rfl rfl rfl rfl (fun w' hp => ?_)
        exact ⟨_, _, rfl, ⟨_, _, _, _, rfl, .ok (d := default) (cmpF_c hrf (fun h => c7 (hsl.2 h))) hP5, rfl⟩, fz_blk (Hp.pick1 (fz_row (hp.drop6.drop5.drop3.drop2.pick2.pick2)))⟩
       ·refine TR.o rfl rfl wt0 (OpX.buildSlice (ps := #[(0, _)]) rfl (bs_sealskinref12_Step_1 ((⟨5, false, [], 0, 0⟩, default) : RM) _ (by kernel_rfl))) (by rintro _ _ ⟨g59, rfl, rfl⟩; intro w h; exact h.drop1.tail) ?_; rintro _ _ ⟨g59, rfl, rfl⟩
        refine TR.hp (fun _ h => blk_row (k := 12) (m := 1) h rfl (by decide)) (TR.hp (fun _ h => h.pick1) ?_)
        refine TR.o rfl rfl wt0 (OpX.callX en_87 rfl (hprog 1000 rz2 t pz2 (by omega) (by decide) hPN hok _ _ _ nilS [] m2 rfl (by show 0 + clen t ≤ 5000; omega))) (by rintro vP7 _ ⟨_, kP7, rfl, hP7, rfl⟩; intro w h; exact h.drop1.tail) ?_; rintro vP7 _ ⟨_, kP7, rfl, hP7, rfl⟩
        refine TR.o rfl rfl wt0 (OpX.append (bytes := 128) tsl_sealskinref12_Step (by decide) (by decide) rfl rw1 (encs_one _) (by have := hP7.len; rw [pcN_len] at this; rw [List.nil_append]; omega) (zs := encs (kP7 ++ [((⟨5, false, [], 0, 0⟩, default) : RM)])) (encs_append _ _).symm) (by rintro v8 _ rfl; intro w h; exact h.drop1.tail) ?_; rintro v8 _ rfl
        refine TR.know (fun _ h => row1 h) (fun o8 => (TR.hp (fun _ h => row_len12 h) (TR.p rfl rfl wt0 (op_build (ps := #[(0, _), (1, _)]) rfl (bl_sealskinref12_Pattern_01 _ _)) ?_)))
        refine TR.o rfl rfl wt0 (OpX.box (cs := [v8, .int .i64 ((gz2 : Nat) : Int)]) rfl rfl) (by rintro _ _ ⟨g66, rfl, rfl⟩; intro w h; exact h.drop2.drop1.tail) ?_; rintro _ _ ⟨g66, rfl, rfl⟩
        refine TR.p rfl rfl wt0 (op_assign rfl) (TR.p rfl rfl wt0 (op_assign rfl) (TR.p rfl rfl wt0 (op_assign rfl) (TR.nil (TQ.then (TC.ret ?_)))))
        refine ret3 rfl rfl rfl rfl (fun w' hp => ?_)
        exact ⟨_, _, rfl, ⟨_, _, _, _, rfl, .ok (d := default) (cmpF_c hrf (fun h => c7 (hsl.2 h))) hP7, rfl⟩, fz_blk (Hp.pick1 (fz_row (hp.drop6.drop5.drop3.drop2.pick2.pick2)))⟩
   ·refine TL.gFf rfl rfl rfl (TL.gFf rfl rfl rfl (TL.gFf rfl rfl rfl (TL.gFf rfl rfl rfl (TL.gFf rfl rfl rfl (TL.gFf rfl rfl rfl (TL.gFf rfl rfl rfl (TL.opP rfl (op_pickF rfl rfl) (TL.nil (TQ.then (TC.condF rfl (TC.skip (TQ.then (TC.seq (TC.seq (TC.region (TL.mv rfl rfl (TL.opP rfl (op_nilCheck rfl) (TL.opP rfl (op_field fld_sealskinref12_reader_e rfl) (TL.opV rfl (op_load ts_api_Errno rfl m2 rfl) (TL.opP rfl (op_neq rfl rfl) (TL.nil (TQ.then ?_))))))))))))))))))))))
    refine TC.sp rfl (fun c8 => ?_) (fun c8 => ?_)
    ·refine TC.seq (TC.draw [] (.cons (.p, 0) (.cons (.p, 1) (.cons (.p, 2) (.cons (.p, 4) (.cons (.p, 5) (.cons (.p, 6) (.cons (.p, 8) (.cons (.t, 3) (.cons (.p, 9) (.cons (.t, 7) (.cons (.p, 10) (.nil)))))))))))) mo (by kernel_rfl) (TR.p rfl rfl wt0 (op_move rfl) (TR.p rfl rfl wt0 (op_nilCheck rfl) (TR.p rfl rfl wt0 (op_field fld_sealskinref12_reader_at rfl) (TR.p rfl rfl wt0 (op_move rfl) (TR.p rfl rfl wt0 (op_nilCheck rfl) (TR.p rfl rfl wt0 (op_field fld_sealskinref12_reader_e rfl) (TR.p rfl rfl wt0 (op_assign rfl) (TR.t rfl rfl wt0 (op_load ts_int rfl m2 rfl) (fun _ h => h) (TR.p rfl rfl wt0 (op_assign rfl) (TR.t rfl rfl wt0 (op_load ts_api_Errno rfl m2 rfl) (fun _ h => h) (TR.p rfl rfl wt0 (op_assign rfl) ?_))))))))))))
     refine TR.nil (TQ.then (TC.ret (TQ.then_ret ?_)))
     refine ret3 rfl rfl rfl rfl (fun w' hp => ?_)
     exact ⟨_, _, rfl, ⟨_, _, _, _, rfl, .err (cmpF_a ((readF_c hv hln).trans (parse_err (hR2.bad c3)))) c3, rfl⟩, (hp.drop3.drop2.tail)⟩
    ·exact absurd c3 c8

end Go.SK
