/- Walks: the document's Transform. -/
import Derived.Test.YtlbaebaimhbbfaaDoorE46
import Derived.Test.YtlbaebaimhbbfaaDoorMP
set_option linter.unusedVariables false
set_option linter.unusedSimpArgs false
set_option maxRecDepth 100000
namespace Go.SK
open Go Go.RowKit Go.Proofs
variable {S : Nat → Prop} {w0 : World} {F L : List Res}
set_option maxHeartbeats 2000000
theorem rtr_x (a b : List Part) (va vb : Value) (hsa : ∀ p ∈ a, p.text.size < 9223372036854775807) (hsb : ∀ p ∈ b, p.text.size < 9223372036854775807) (hla : a.length ≤ 4398046511104) (hlb : b.length ≤ 4398046511104) (hz : sizeE a = 0 → sizeE b = 0 → fromS a = fromS b → fromS a ≤ 1000000000 ∧ toS a ≤ 1073741824 ∧ toS b ≤ 1073741824) (ra : Rdb L va 3 a.length (encs a)) (rb : Rdb L vb 3 b.length (encs b)) :
    CallX Tryd.prog 53 [va, vb] S w0 (L) (fun u L' => ∃ v1 v2, u = .tuple #[v1, v2, .int .i64 (trE a b)] ∧ L' = .row v1 38 3 (trF1 a b).length (encs (trF1 a b)) :: .row v2 38 3 (trF2 a b).length (encs (trF2 a b)) :: L) := by
 intro w hp
 refine calls_start Tryd.func53 rfl rfl rfl (hp) ?_
 refine TC.seq (TC.region (TL.opP rfl (op_assign rfl) (TL.opP rfl (op_assign rfl) (TL.opP rfl (op_assign rfl) (TL.nil (TQ.then (TC.seq (TC.region (TL.opP rfl (op_move rfl) (TL.callq rfl en_46 rfl (fun w2 hp => rsize_calls a va w2 hsa (ra _ _ _ hp)) (TL.opP rfl (op_move rfl) (TL.opP rfl (op_extract rfl rfl) (TL.opP rfl (op_extract rfl rfl) (TL.opP rfl (op_extract rfl rfl) (TL.opP rfl (op_assign rfl) (TL.opP rfl (op_assign rfl) (TL.opP rfl (op_assign rfl) (TL.nil (TQ.then (TC.seq (TC.region (TL.opP rfl (op_move rfl) (TL.callq rfl en_46 rfl (fun w2 hp => rsize_calls b vb w2 hsb (rb _ _ _ hp)) (TL.opP rfl (op_move rfl) (TL.opP rfl (op_extract rfl rfl) (TL.opP rfl (op_extract rfl rfl) (TL.opP rfl (op_extract rfl rfl) ?_)))))))))))))))))))))))))))
 refine TL.opP rfl (op_assign rfl) (TL.opP rfl (op_assign rfl) (TL.opP rfl (op_assign rfl) (TL.nil (TQ.then (TC.seq (TC.seq (TC.region (TL.opP rfl (op_move rfl) (TL.opP rfl (op_neq rfl rfl) (TL.opP rfl (op_move rfl) ?_))))))))))
 refine TL.sp (fun c1 => ?_) (fun c1 => ?_)
 ·refine TL.gFt rfl rfl rfl (TL.gFt rfl rfl rfl (TL.opP rfl (op_pickT rfl rfl) (TL.opP rfl (op_move rfl) (TL.gFt rfl rfl rfl (TL.gFt rfl rfl rfl (TL.gFt rfl rfl rfl (TL.opP rfl (op_pickT rfl rfl) (TL.nil (TQ.then (TC.condT rfl (TC.seq (TC.region (TL.opP rfl (op_assign rfl) (TL.opP rfl (op_assign rfl) (TL.opP rfl (op_assign rfl) (TL.nil (TQ.then (TC.ret (TQ.then_ret ?_)))))))))))))))))))
  refine ret3 rfl rfl rfl rfl (fun w' hp => ?_)
  first
    | (have hbad := tr_bad (trBad_ofE (a := a) (b := b) (by omega))
       exact ⟨_, _, rfl, ⟨.slice none 0 0, .slice none 0 0, by rw [hbad.1], by rw [hbad.2.1, hbad.2.2]; rfl⟩, new_nil _ 3 (new_nil _ 3 (hp))⟩)
    | exact ⟨_, _, rfl, ⟨_, _, by rw [hE], by rw [← e1, ← e2]⟩, (hp)⟩
 ·refine TL.gT rfl rfl (TL.opP rfl (op_move rfl) (TL.gT rfl rfl (TL.opP rfl (op_neq rfl rfl) (TL.opP rfl (op_pickF rfl rfl) (TL.opP rfl (op_move rfl) ?_)))))
  refine TL.sp (fun c2 => ?_) (fun c2 => ?_)
  ·refine TL.gFt rfl rfl rfl (TL.gFt rfl rfl rfl (TL.gFt rfl rfl rfl (TL.opP rfl (op_pickT rfl rfl) (TL.nil (TQ.then (TC.condT rfl (TC.seq (TC.region (TL.opP rfl (op_assign rfl) (TL.opP rfl (op_assign rfl) (TL.opP rfl (op_assign rfl) (TL.nil (TQ.then (TC.ret (TQ.then_ret ?_)))))))))))))))
   refine ret3 rfl rfl rfl rfl (fun w' hp => ?_)
   first
     | (have hbad := tr_bad (trBad_ofE (a := a) (b := b) (by omega))
        exact ⟨_, _, rfl, ⟨.slice none 0 0, .slice none 0 0, by rw [hbad.1], by rw [hbad.2.1, hbad.2.2]; rfl⟩, new_nil _ 3 (new_nil _ 3 (hp))⟩)
     | exact ⟨_, _, rfl, ⟨_, _, by rw [hE], by rw [← e1, ← e2]⟩, (hp)⟩
  ·refine TL.gT rfl rfl (TL.opP rfl (op_move rfl) (TL.gT rfl rfl (TL.opP rfl (op_move rfl) (TL.gT rfl rfl (TL.opP rfl (op_neq rfl rfl) (TL.opP rfl (op_pickF rfl rfl) (TL.nil (TQ.then ?_))))))))
   refine TC.sp rfl (fun c3 => ?_) (fun c3 => ?_)
   ·refine TC.seq (TC.region (TL.opP rfl (op_assign rfl) (TL.opP rfl (op_assign rfl) (TL.opP rfl (op_assign rfl) (TL.nil (TQ.then (TC.ret (TQ.then_ret ?_))))))))
    refine ret3 rfl rfl rfl rfl (fun w' hp => ?_)
    first
      | (have hbad := tr_bad (trBad_ofE (a := a) (b := b) (by omega))
         exact ⟨_, _, rfl, ⟨.slice none 0 0, .slice none 0 0, by rw [hbad.1], by rw [hbad.2.1, hbad.2.2]; rfl⟩, new_nil _ 3 (new_nil _ 3 (hp))⟩)
      | exact ⟨_, _, rfl, ⟨_, _, by rw [hE], by rw [← e1, ← e2]⟩, (hp)⟩
   ·obtain ⟨oa, hs1, hs2⟩ := sizeE_ok (e := a) (by omega)
    obtain ⟨ob, hs3, hs4⟩ := sizeE_ok (e := b) (by omega)
    have hpf := fromS_posU oa.1
    obtain ⟨n, hn⟩ : ∃ n : Nat, fromS a = n := ⟨(fromS a).toNat, by omega⟩
    have hn2 : fromS b = n := by omega
    obtain ⟨z1, z2, z3⟩ := hz (by omega) (by omega) (by omega)
    obtain ⟨hc1, hc2, hE, e1, e2⟩ := mt_small oa ob (by omega) z2 z3
    have xl := spP_len oa.1
    have yl := spP_len ob.1
    have xd := dv_len oa.1
    have yd := dv_len ob.1
    have xs := psum_sp oa.1
    have ys := psum_sp ob.1
    have xt := puts_le oa.1
    have yt := puts_le ob.1
    rw [show (sizeF a).1 = (n : Int) by omega]
    refine TC.skip (TQ.then (TC.seq (TC.region (TL.opP rfl (op_move rfl) (TL.opP rfl (op_move rfl) ?_)))))
    refine TL.opX rfl (OpX.callX en_49 rfl (spread_x a (n) va oa hn (by omega) ra)) ?_; rintro _ _ ⟨vp1, vd1, rfl, rfl⟩
    refine TL.know (fun _ h => row1 h) (fun op1 => ?_)
    refine TL.know (fun _ h => row1 h.pick1) (fun op2 => (TL.opP rfl (op_move rfl) (TL.opP rfl (op_move rfl) ?_)))
    refine TL.opX rfl (OpX.callX en_49 rfl (spread_x b (n) vb ob hn2 (by omega) rb.cons.cons)) ?_; rintro _ _ ⟨vp2, vd2, rfl, rfl⟩
    refine TL.know (fun _ h => row1 h) (fun op3 => ?_)
    refine TL.know (fun _ h => row1 h.pick1) (fun op4 => ?_)
    refine TL.opX rfl (OpX.alloc tz_sealskinref03_Wide rfl) ?_; rintro _ _ ⟨g13, rfl, rfl⟩
    refine TL.opX rfl (OpX.alloc tz_sealskinref03_Wide rfl) ?_; rintro _ _ ⟨g14, rfl, rfl⟩
    refine TL.hp (fun _ h => h.pick1) ?_
    refine TL.opX0 (OpX.storeS tst_sealskinref03_Wide rfl rfl rfl rfl rfl (by first | exact (List.all_eq_true.1 rfl) | (intro u hu; simp only [List.mem_cons, List.not_mem_nil, or_false] at hu; rcases hu with rfl | rfl <;> assumption))) ?_; rintro _ _ rfl
    refine TL.hp (fun _ h => h.pick1) ?_
    refine TL.opX0 (OpX.storeS tst_sealskinref03_Wide rfl rfl rfl rfl rfl (by first | exact (List.all_eq_true.1 rfl) | (intro u hu; simp only [List.mem_cons, List.not_mem_nil, or_false] at hu; rcases hu with rfl | rfl <;> assumption))) ?_; rintro _ _ rfl
    refine TL.nil (TQ.then (TC.seq (TC.draw [] (.cons (.t, 0) (.cons (.t, 1) (.cons (.t, 4) (.cons (.t, 5) (.cons (.o, 2) (.cons (.o, 3) (.cons (.o, 6) (.cons (.o, 7) (.cons (.p, 8) (.cons (.p, 9) (.cons (.p, 10) (.nil)))))))))))) mo (by kernel_rfl) (TR.t rfl rfl wt0 (op_loadS tst_sealskinref03_Wide rfl m1 rfl) (fun _ h => h) (TR.t rfl rfl wt0 (op_loadS tst_sealskinref03_Wide rfl m0 rfl) (fun _ h => h) (TR.t rfl rfl wt0 (op_loadS tst_sealskinref03_Wide rfl m0 rfl) (fun _ h => h) (TR.t rfl rfl wt0 (op_loadS tst_sealskinref03_Wide rfl m1 rfl) (fun _ h => h) ?_)))))))
    refine TR.o rfl rfl wt0 (OpX.callX en_65 rfl (wmeet_x true (spP a) (spP b) (dv a) (dv b) _ _ _ _ (spP_len oa.1) (by omega) (by omega) (spP_sc ob.1) (by omega) (by omega) (by omega) rw4 rw5 rw2 rw3)) (by rintro _ _ ⟨mv13, mw13, rfl, rfl⟩; intro w h; exact h.drop1.tail) ?_; rintro _ _ ⟨mv13, mw13, rfl, rfl⟩
    refine TR.o rfl rfl wt0 (OpX.callX en_51 rfl (close_x _ _ _ _ hc1 rw0 rw1)) (by rintro _ _ ⟨w14, rfl, rfl⟩; intro w h; exact h.drop2.drop1.tail) ?_; rintro _ _ ⟨w14, rfl, rfl⟩
    refine TR.o rfl rfl wt0 (OpX.callX en_65 rfl (wmeet_x false (spP b) (spP a) (dv b) (dv a) _ _ _ _ (spP_len ob.1) (by omega) (by omega) (spP_sc oa.1) (by omega) (by omega) (by omega) rw5 rw6 rw7 rw8)) (by rintro _ _ ⟨mv25, mw25, rfl, rfl⟩; intro w h; exact h.drop4.drop3.drop2.drop1.tail) ?_; rintro _ _ ⟨mv25, mw25, rfl, rfl⟩
    refine TR.o rfl rfl wt0 (OpX.callX en_51 rfl (close_x _ _ _ _ hc2 rw0 rw1)) (by rintro _ _ ⟨w26, rfl, rfl⟩; intro w h; exact h.drop5.drop4.drop3.drop2.drop1.tail) ?_; rintro _ _ ⟨w26, rfl, rfl⟩
    refine TR.p rfl rfl wt0 (op_assign rfl) (TR.p rfl rfl wt0 (op_assign rfl) (TR.p rfl rfl wt0 (op_assign rfl) (TR.nil (TQ.then (TC.ret ?_)))))
    refine ret3 rfl rfl rfl rfl (fun w' hp => ?_)
    first
      | (have hbad := tr_bad (trBad_ofE (a := a) (b := b) (by omega))
         exact ⟨_, _, rfl, ⟨.slice none 0 0, .slice none 0 0, by rw [hbad.1], by rw [hbad.2.1, hbad.2.2]; rfl⟩, new_nil _ 3 (new_nil _ 3 (hp.drop11.drop10.drop9.drop8.drop7.drop6.drop5.drop4.drop2.drop1.pick1))⟩)
      | exact ⟨_, _, rfl, ⟨_, _, by rw [hE], by rw [← e1, ← e2]⟩, (hp.drop11.drop10.drop9.drop8.drop7.drop6.drop5.drop4.drop2.drop1.pick1)⟩

end Go.SK
