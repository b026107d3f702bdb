/- Walks: layer 17, the document's Undo and Redo. -/
import Derived.Test.YtlbaebaimhbbfaaDoorE96
set_option linter.unusedVariables false
set_option linter.unusedSimpArgs false
set_option maxRecDepth 100000
namespace Go.SK
open Go Go.RowKit Go.Proofs
variable {S : Nat → Prop} {w0 : World} {F L : List Res}
theorem pile_tail {w : World} {v : Value} {x : PE} {r : List PE} (h : Hp S w0 w (pileR v (x :: r) :: L)) : Hp S w0 w (pileR (Value.cut v 1 (r.length + 1) 1) r :: L) := by
  obtain ⟨h1, h2⟩ := (h.at_ _ (.head _) : (pileR v (x :: r)).holds w)
  have h1' : RdRow w v 1 (x :: r).length (pv (x :: r)) := h1
  refine h.as ⟨?_, fun y hy => h2 y (.tail _ hy)⟩ (fun x => x) (fun g hg => ?_)
  · have h3 := h1'.cut 1 (r.length + 1) (by omega) (Nat.le_refl _)
    have e : ((pv (x :: r)).drop (1 * 1)).take ((r.length + 1 - 1) * 1) = pv r := by
      show (pv r).take ((r.length + 1 - 1) * 1) = pv r
      exact List.take_of_length_le (by simp)
    rw [e] at h3; exact h3
  · rcases hg with hg | ⟨y, hy, hg⟩
    · refine .inl ?_
      obtain ⟨hl, A, c, rfl, _⟩ := h1'
      refine ⟨?_, by simp⟩
      have := hg.1
      simp only [Value.cut] at this
      split at this
      · cases A <;> exact this
      · cases A with
        | none => simp [Value.ownBlock] at this
        | some ad => simp only [Option.map_some, Value.ownBlock] at this ⊢; rw [← this]; unfold Addr.add; split <;> rfl
    · exact .inr ⟨y, .tail _ hy, hg⟩
theorem pile_head {w : World} {v : Value} {x : PE} {r : List PE} (h : Hp S w0 w (pileR v (x :: r) :: L)) : Hp S w0 w (.rd x.1 3 x.2.length (encs x.2) :: pileR v (x :: r) :: L) := by
  obtain ⟨s, h1, h2, h3, h4⟩ := Src.pileE (L := pileR v (x :: r) :: L) (.head _) (.head _)
  exact h.derive (h3 w (h.at_ s h1)) (fun x => x) (fun g hg => ⟨s, h1, h2, h4 g hg⟩)
theorem pile_pop {w : World} {v : Value} {x : PE} {r : List PE} (h : Hp S w0 w (pileR v (x :: r) :: L)) : Hp S w0 w (.rd x.1 3 x.2.length (encs x.2) :: pileR (Value.cut v 1 (r.length + 1) 1) r :: L) := (pile_tail (pile_head h).pick1).pick1
theorem cutOne {w : World} {v : Value} {x : PE} {r : List PE} (h : Hp S w0 w (pileR v (x :: r) :: L)) : (Value.cut v 1 (r.length + 1) 1).oneCell' = true := (Src.pile (.head _)).rdb.one (pile_tail h)
theorem ktake_x (ps : List PE) (s : ByteArray) (v bv av : Value) (n : Int) (g : Nat) (hm : pileR v ps ∈ F) (hn : 0 ≤ n) (hsm : ∀ x ∈ ps, Sm x.2) (hss : s.size ≤ 1073741824) :
    CallX Tryd.prog 36 [.pointer (some ⟨g, 0, none⟩), v, .string s] S w0 (.blk g (.cells [bv, av, .int .i64 (n)].toArray 31 (0, 0)) :: F) (fun u L' => ∃ (yv iv : Value) (ie : List Part) (n' : Int), u = .tuple #[yv, iv, .int .i64 (moveE (rn ps) n s)] ∧ (moveE (rn ps) n s ≠ 0 → yv = .slice none 0 0 ∧ n' = n) ∧ (∀ x r, moveE (rn ps) n s = 0 → ps = x :: r → yv = x.1 ∧ ie = invF x.2 s ∧ n' = (sizeF x.2).2) ∧ L' = .rd iv 3 ie.length (encs ie) :: .blk g (.cells [bv, av, .int .i64 (n')].toArray 31 (0, 0)) :: F) := by
 intro w hp
 refine calls_start Tryd.func36 rfl rfl rfl (hp) ?_
 refine TC.seq (TC.region (TL.opP rfl (op_assign rfl) (TL.opP rfl (op_assign rfl) (TL.opP rfl (op_assign rfl) (TL.nil (TQ.then (TC.seq (TC.seq (TC.region (TL.opP rfl (op_move rfl) (TL.opV rfl (op_lenV rfl un_sl_sl_api_Part rfl (Src.pile hm).rdb.cons) (TL.opP rfl (op_eql rfl rfl) (TL.nil (TQ.then ?_))))))))))))))
 refine TC.sp rfl (fun c1 => ?_) (fun c1 => ?_)
 ·obtain rfl : ps = [] := List.length_eq_zero_iff.1 (by omega)
  refine TC.seq (TC.region (TL.opP rfl (op_assign rfl) (TL.opP rfl (op_assign rfl) (TL.opP rfl (op_assign rfl) (TL.nil (TQ.then (TC.ret (TQ.then_ret ?_))))))))
  refine ret3 rfl rfl rfl rfl (fun w' hp => ?_)
  first
    | exact ⟨_, _, rfl, ⟨.slice none 0 0, .slice none 0 0, [], n, rfl, fun _ => ⟨rfl, rfl⟩, fun x r h => absurd (show (160 : Int) = 0 from h) (by decide), rfl⟩, rd_nil 0 3 (hp)⟩
    | exact ⟨_, _, rfl, ⟨.slice none 0 0, .slice none 0 0, [], n, by (rw [hz]; first | done | rfl), fun _ => ⟨rfl, rfl⟩, fun _ _ h => absurd (hz.symm.trans h) (by decide), rfl⟩, rd_nil 0 3 (hp)⟩
    | exact ⟨_, _, rfl, ⟨.slice none 0 0, .slice none 0 0, [], n, by (rw [hz1]; first | done | rfl), fun _ => ⟨rfl, rfl⟩, fun _ _ h => absurd (hz1.symm.trans h) c3, rfl⟩, rd_nil 0 3 (hp)⟩
    | (have hz2 := hz1.trans (Classical.not_not.1 c3)
       exact ⟨_, _, rfl, ⟨x.1, _, invF x.2 s, (sizeF x.2).2, by (rw [hz2]; first | done | rfl), fun h => absurd hz2 h, fun y r' _ e => by cases e; exact ⟨rfl, rfl, rfl⟩, rfl⟩, (hp)⟩)
 ·obtain ⟨x, r, rfl⟩ : ∃ x r, ps = x :: r := by
    cases ps with
    | nil => exact absurd rfl c1
    | cons x r => exact ⟨x, r, rfl⟩
  have hxr := (Src.pileE (x := x) hm (.head _)).rdb
  have hsx := hsm x (.head _)
  have hlx := hsx.2
  refine TC.skip (TQ.then (TC.seq (TC.seq (TC.draw [] (.cons (.p, 0) (.cons (.p, 3) (.cons (.p, 4) (.cons (.p, 5) (.cons (.t, 6) (.cons (.o, 1) (.cons (.o, 2) (.cons (.p, 7) (.nil))))))))) mo (by kernel_rfl) (TR.p rfl rfl wt0 (op_move rfl) (TR.p rfl rfl wt0 (op_move rfl) (TR.p rfl rfl wt0 (op_nilCheck rfl) (TR.p rfl rfl wt0 (op_field fld_sealskinref17_History_N rfl) (TR.t rfl rfl wt0 (op_load ts_int rfl m0 rfl) (fun _ h => h) ?_)))))))))
  refine TR.o rfl rfl wt0 (OpX.bytes un_string tsl_uint8 un_uint8 rfl (by simp only [maxLen]; omega)) (by rintro v1 _ rfl; intro w h; exact h.tail) ?_; rintro v1 _ rfl
  refine TR.know (fun _ h => rd1' h) (fun o1 => ?_)
  refine TR.o rfl rfl wt0 (OpX.callq en_47 rfl (fun w2 hp => runes_calls s.data.toList _ w2 (by rw [size_len]; exact rd0 _ _ _ hp))) (by rintro _ _ ⟨rfl, rfl⟩; intro w h; exact h.tail) ?_; rintro _ _ ⟨rfl, rfl⟩
  refine TR.p rfl rfl wt0 (op_neq rfl rfl) (TR.nil (TQ.then ?_))
  refine TC.sp rfl (fun c2 => ?_) (fun c2 => ?_)
  ·have hbad : valid s = false ∨ (rcount s : Int) ≠ n := by
     rcases runesF_cases s with ⟨q, e⟩ | ⟨q, e⟩
     · exact .inr (fun h => c2 (e.trans h))
     · exact .inl q
   have hz : moveE (rn (x :: r)) n s = 30 := if_pos hbad
   refine TC.seq (TC.region (TL.opP rfl (op_assign rfl) (TL.opP rfl (op_assign rfl) (TL.opP rfl (op_assign rfl) (TL.nil (TQ.then (TC.ret (TQ.then_ret ?_))))))))
   refine ret3 rfl rfl rfl rfl (fun w' hp => ?_)
   first
     | exact ⟨_, _, rfl, ⟨.slice none 0 0, .slice none 0 0, [], n, rfl, fun _ => ⟨rfl, rfl⟩, fun x r h => absurd (show (160 : Int) = 0 from h) (by decide), rfl⟩, rd_nil 0 3 (hp.tail)⟩
     | exact ⟨_, _, rfl, ⟨.slice none 0 0, .slice none 0 0, [], n, by (rw [hz]; first | done | rfl), fun _ => ⟨rfl, rfl⟩, fun _ _ h => absurd (hz.symm.trans h) (by decide), rfl⟩, rd_nil 0 3 (hp.tail)⟩
     | exact ⟨_, _, rfl, ⟨.slice none 0 0, .slice none 0 0, [], n, by (rw [hz1]; first | done | rfl), fun _ => ⟨rfl, rfl⟩, fun _ _ h => absurd (hz1.symm.trans h) c3, rfl⟩, rd_nil 0 3 (hp.tail)⟩
     | (have hz2 := hz1.trans (Classical.not_not.1 c3)
        exact ⟨_, _, rfl, ⟨x.1, _, invF x.2 s, (sizeF x.2).2, by (rw [hz2]; first | done | rfl), fun h => absurd hz2 h, fun y r' _ e => by cases e; exact ⟨rfl, rfl, rfl⟩, rfl⟩, (hp.tail)⟩)
  ·have hok : ¬ (valid s = false ∨ (rcount s : Int) ≠ n) := by
     rcases runesF_cases s with ⟨q, e⟩ | ⟨q, e⟩
     · rintro (h | h)
       · rw [q] at h; cases h
       · exact h (e.symm.trans (Classical.not_not.1 c2))
     · exfalso; omega
   have hz1 : moveE (rn (x :: r)) n s = invE x.2 s := if_neg hok
   refine TC.skip (TQ.then (TC.seq (TC.region (TL.opP rfl (op_move rfl) (TL.opV rfl (op_index tsl_sl_api_Part rfl (Src.pile hm).rdb.cons.cons rfl (by omega) (by omega)) (TL.opV rfl (op_loadR ts_sl_api_Part rfl (Src.pile hm).rdb.cons.cons (show (pv (x :: r))[0]? = some x.1 from rfl)) (TL.opP rfl (op_move rfl) ?_)))))))
   refine TL.opX rfl (OpX.callX en_31 rfl (rinvert_x x.2 s _ hss hsx.1 (by omega) hxr.cons.cons)) ?_; rintro _ _ ⟨w3, rfl, rfl⟩
   refine TL.opP rfl (op_move rfl) (TL.hp (fun _ h => row_rd h) (TL.opP rfl (op_extract rfl rfl) (TL.opP rfl (op_extract rfl rfl) (TL.opP rfl (op_assign rfl) (TL.opP rfl (op_assign rfl) (TL.nil (TQ.then (TC.seq (TC.seq (TC.region (TL.opP rfl (op_move rfl) (TL.opP rfl (op_neq rfl rfl) (TL.nil (TQ.then ?_))))))))))))))
   refine TC.sp rfl (fun c3 => ?_) (fun c3 => ?_)
   ·refine TC.seq (TC.region (TL.opP rfl (op_move rfl) (TL.opP rfl (op_assign rfl) (TL.opP rfl (op_assign rfl) (TL.opP rfl (op_assign rfl) (TL.nil (TQ.then (TC.ret (TQ.then_ret ?_)))))))))
    refine ret3 rfl rfl rfl rfl (fun w' hp => ?_)
    first
      | exact ⟨_, _, rfl, ⟨.slice none 0 0, .slice none 0 0, [], n, rfl, fun _ => ⟨rfl, rfl⟩, fun x r h => absurd (show (160 : Int) = 0 from h) (by decide), rfl⟩, rd_nil 0 3 (hp.drop1.tail)⟩
      | exact ⟨_, _, rfl, ⟨.slice none 0 0, .slice none 0 0, [], n, by (rw [hz]; first | done | rfl), fun _ => ⟨rfl, rfl⟩, fun _ _ h => absurd (hz.symm.trans h) (by decide), rfl⟩, rd_nil 0 3 (hp.drop1.tail)⟩
      | exact ⟨_, _, rfl, ⟨.slice none 0 0, .slice none 0 0, [], n, by (rw [hz1]; first | done | rfl), fun _ => ⟨rfl, rfl⟩, fun _ _ h => absurd (hz1.symm.trans h) c3, rfl⟩, rd_nil 0 3 (hp.drop1.tail)⟩
      | (have hz2 := hz1.trans (Classical.not_not.1 c3)
         exact ⟨_, _, rfl, ⟨x.1, _, invF x.2 s, (sizeF x.2).2, by (rw [hz2]; first | done | rfl), fun h => absurd hz2 h, fun y r' _ e => by cases e; exact ⟨rfl, rfl, rfl⟩, rfl⟩, (hp.drop1.tail)⟩)
   ·refine TC.skip (TQ.then (TC.seq (TC.region (TL.opP rfl (op_move rfl) (TL.opP rfl (op_move rfl) (TL.opV rfl (op_index tsl_sl_api_Part rfl (Src.pile hm).rdb.cons.cons.cons rfl (by omega) (by omega)) (TL.opV rfl (op_loadR ts_sl_api_Part rfl (Src.pile hm).rdb.cons.cons.cons (show (pv (x :: r))[0]? = some x.1 from rfl)) (TL.callq rfl en_46 rfl (fun w2 hp => rsize_calls x.2 x.1 w2 hsx.1 (hxr.cons.cons.cons _ _ _ hp)) (TL.opP rfl (op_move rfl) (TL.opP rfl (op_extract rfl rfl) (TL.opP rfl (op_extract rfl rfl) (TL.opP rfl (op_extract rfl rfl) (TL.opP rfl (op_nilCheck rfl) (TL.opP rfl (op_field fld_sealskinref17_History_N rfl) (TL.hp (fun _ h => h.pick2) ?_)))))))))))))))
    refine TL.opX0 (OpX.store1 ts_int rfl rfl (by first | rfl | assumption) rfl rfl) ?_; rintro _ _ rfl
    refine TL.nil (TQ.then (TC.seq (TC.region (TL.opP rfl (op_move rfl) (TL.opV rfl (op_index tsl_sl_api_Part rfl (Src.pile hm).rdb.cons.cons.cons rfl (by omega) (by omega)) (TL.opV rfl (op_loadR ts_sl_api_Part rfl (Src.pile hm).rdb.cons.cons.cons (show (pv (x :: r))[0]? = some x.1 from rfl)) (TL.opP rfl (op_move rfl) (TL.opP rfl (op_assign rfl) (TL.opP rfl (op_assign rfl) (TL.opP rfl (op_assign rfl) (TL.nil (TQ.then (TC.ret ?_)))))))))))))
    refine ret3 rfl rfl rfl rfl (fun w' hp => ?_)
    first
      | exact ⟨_, _, rfl, ⟨.slice none 0 0, .slice none 0 0, [], n, rfl, fun _ => ⟨rfl, rfl⟩, fun x r h => absurd (show (160 : Int) = 0 from h) (by decide), rfl⟩, rd_nil 0 3 (hp.drop2.pick1)⟩
      | exact ⟨_, _, rfl, ⟨.slice none 0 0, .slice none 0 0, [], n, by (rw [hz]; first | done | rfl), fun _ => ⟨rfl, rfl⟩, fun _ _ h => absurd (hz.symm.trans h) (by decide), rfl⟩, rd_nil 0 3 (hp.drop2.pick1)⟩
      | exact ⟨_, _, rfl, ⟨.slice none 0 0, .slice none 0 0, [], n, by (rw [hz1]; first | done | rfl), fun _ => ⟨rfl, rfl⟩, fun _ _ h => absurd (hz1.symm.trans h) c3, rfl⟩, rd_nil 0 3 (hp.drop2.pick1)⟩
      | (have hz2 := hz1.trans (Classical.not_not.1 c3)
         exact ⟨_, _, rfl, ⟨x.1, _, invF x.2 s, (sizeF x.2).2, by (rw [hz2]; first | done | rfl), fun h => absurd hz2 h, fun y r' _ e => by cases e; exact ⟨rfl, rfl, rfl⟩, rfl⟩, (hp.drop2.pick1)⟩)

section
variable {pb pa r : List PE} {x : PE} {n : Int} {s : ByteArray} {iv : Value}
theorem k_un_no (c : moveE (rn pb) n s ≠ 0) : hrOf pb pa n = (hrOf pb pa n).undo s ∧ (hrOf pb pa n).undoF s = [] := ⟨(if_neg c).symm, if_neg c⟩
theorem k_un_ok (c : moveE (rn (x :: r)) n s = 0) : hrOf r (onR pa (iv, invF x.2 s)) (sizeF x.2).2 = (hrOf (x :: r) pa n).undo s ∧ (hrOf (x :: r) pa n).undoF s = x.2 := by
  refine ⟨?_, if_pos c⟩
  unfold hrOf
  rw [rn_onR]
  exact (if_pos c).symm
theorem k_re_no (c : moveE (rn pa) n s ≠ 0) : hrOf pb pa n = (hrOf pb pa n).redo s ∧ (hrOf pb pa n).redoF s = [] := ⟨(if_neg c).symm, if_neg c⟩
theorem k_re_ok (c : moveE (rn (x :: r)) n s = 0) : hrOf (onR pb (iv, invF x.2 s)) r (sizeF x.2).2 = (hrOf pb (x :: r) n).redo s ∧ (hrOf pb (x :: r) n).redoF s = x.2 := by
  refine ⟨?_, if_pos c⟩
  unfold hrOf
  rw [rn_onR]
  exact (if_pos c).symm
end
theorem kundo_x (s : ByteArray) (bv av : Value) (n : Int) (pb pa : List PE) (g : Nat) (hn : 0 ≤ n) (hsm : ∀ x ∈ pb, Sm x.2) (hss : s.size ≤ 1073741824) (htl : pa.length ≤ 50) :
    CallX Tryd.prog 14 [.pointer (some ⟨g, 0, none⟩), .string s] S w0 (.blk g (.cells [bv, av, .int .i64 (n)].toArray 31 (0, 0)) :: pileR bv pb :: pileR av pa :: F) (fun u L' => ∃ bv' av' n' pb' pa' yv, u = .tuple #[yv, .int .i64 ((hrOf pb pa n).undoE s)] ∧ hrOf pb' pa' n' = (hrOf pb pa n).undo s ∧ L' = .rd yv 3 ((hrOf pb pa n).undoF s).length (encs ((hrOf pb pa n).undoF s)) :: .blk g (.cells [bv', av', .int .i64 (n')].toArray 31 (0, 0)) :: pileR bv' pb' :: pileR av' pa' :: F) := by
 intro w hp
 refine calls_start Tryd.func14 rfl rfl rfl (hp) ?_
 refine TC.seq (TC.region (TL.opP rfl (op_assign rfl) (TL.opP rfl (op_assign rfl) (TL.nil (TQ.then (TC.seq (TC.region (TL.opP rfl (op_move rfl) (TL.opP rfl (op_move rfl) (TL.opP rfl (op_nilCheck rfl) (TL.opP rfl (op_field fld_sealskinref17_History_Back rfl) (TL.opV rfl (op_load ts_sl_sl_api_Part rfl m0 rfl) (TL.opP rfl (op_move rfl) ?_)))))))))))))
 refine TL.opX rfl (OpX.callX en_36 rfl (ktake_x pb s _ _ _ _ _ m0 hn hsm hss)) ?_; rintro _ _ ⟨yv1, iv1, ie1, n21, rfl, hz11, hz21, rfl⟩
 refine TL.opP rfl (op_move rfl) (TL.opP rfl (op_extract rfl rfl) (TL.opP rfl (op_extract rfl rfl) (TL.opP rfl (op_extract rfl rfl) (TL.opP rfl (op_assign rfl) (TL.opP rfl (op_assign rfl) (TL.opP rfl (op_assign rfl) (TL.nil (TQ.then (TC.seq (TC.seq (TC.region (TL.opP rfl (op_move rfl) (TL.opP rfl (op_eql rfl rfl) (TL.nil (TQ.then ?_)))))))))))))))
 refine TC.sp rfl (fun c1 => ?_) (fun c1 => ?_)
 ·obtain ⟨x, r, rfl⟩ : ∃ x r, pb = x :: r := by
    cases pb with
    | nil => exact absurd (show (160 : Int) = 0 from c1) (by decide)
    | cons x r => exact ⟨x, r, rfl⟩
  obtain ⟨rfl, rfl, rfl⟩ := hz21 x r c1 rfl
  have hlc : (x :: r).length = r.length + 1 := rfl
  refine TC.seq (TC.region (TL.opP rfl (op_move rfl) (TL.opP rfl (op_move rfl) (TL.opP rfl (op_nilCheck rfl) (TL.opP rfl (op_field fld_sealskinref17_History_Back rfl) (TL.opV rfl (op_load ts_sl_sl_api_Part rfl m1 rfl) (TL.opV rfl (op_cut 1 (r.length + 1) tsl_sl_api_Part rfl (Src.pile m2).rdb (vlo := (some _)) (vhi := none) rfl rfl (.inr ⟨_, _, rfl, by omega⟩) (.inl ⟨rfl, rfl⟩) (by omega) (by omega)) (TL.hp (fun _ h => h.pick2) ?_))))))))
  refine TL.know (fun _ h => cutOne h) (fun oc => (TL.opP rfl (op_nilCheck rfl) (TL.opP rfl (op_field fld_sealskinref17_History_Back rfl) (TL.hp (fun _ h => h.pick2) ?_))))
  refine TL.opX0 (OpX.store1 ts_sl_sl_api_Part rfl rfl (by first | rfl | assumption) rfl rfl) ?_; rintro _ _ rfl
  refine TL.hp (fun _ h => h.pick1) (TL.hp (fun _ h => pile_pop h) (TL.nil (TQ.then (TC.region (TL.opP rfl (op_move rfl) (TL.opP rfl (op_move rfl) (TL.opP rfl (op_nilCheck rfl) (TL.opP rfl (op_field fld_sealskinref17_History_Again rfl) (TL.opV rfl (op_load ts_sl_sl_api_Part rfl m2 rfl) (TL.opP rfl (op_move rfl) ?_))))))))))
  refine TL.opX rfl (OpX.callX en_32 rfl (kon_x pa _ _ (invF x.2 s) m4 (Src.rd m3) (by omega))) ?_; rintro b2 _ ⟨_, rfl, rfl⟩
  refine TL.know (fun _ h => (Src.pile (.head _)).rdb.one h) (fun ob => (TL.opP rfl (op_nilCheck rfl) (TL.opP rfl (op_field fld_sealskinref17_History_Again rfl) (TL.hp (fun _ h => h.pick3) ?_))))
  refine TL.opX0 (OpX.store1 ts_sl_sl_api_Part rfl rfl (by first | rfl | assumption) rfl rfl) ?_; rintro _ _ rfl
  refine TL.nil (TQ.then (TC.seq (TC.region (TL.opP rfl (op_move rfl) (TL.opP rfl (op_move rfl) (TL.opP rfl (op_assign rfl) (TL.opP rfl (op_assign rfl) (TL.nil (TQ.then (TC.ret ?_))))))))))
  refine ret2 rfl rfl rfl (fun w' hp => ?_)
  first
    | exact ⟨_, _, rfl, ⟨_, _, _, pb, pa, .slice none 0 0, rfl, (k_un_no c1).1, by (rw [(k_un_no (pb := pb) (pa := pa) c1).2]; first | done | rfl)⟩, rd_nil 0 3 (hp.drop5.drop4.pick1.pick3.pick2.pick3)⟩
    | exact ⟨_, _, rfl, ⟨_, _, _, _, _, _, rfl, (k_un_ok (iv := _) c1).1, by (rw [(k_un_ok (iv := .nilFunc) c1).2]; first | done | rfl)⟩, (hp.drop5.drop4.pick1.pick3.pick2.pick3)⟩
 ·obtain ⟨rfl, rfl⟩ := hz11 c1
  refine TC.skip (TQ.then (TC.seq (TC.region (TL.opP rfl (op_move rfl) (TL.opP rfl (op_move rfl) (TL.opP rfl (op_assign rfl) (TL.opP rfl (op_assign rfl) (TL.nil (TQ.then (TC.ret ?_))))))))))
  refine ret2 rfl rfl rfl (fun w' hp => ?_)
  first
    | exact ⟨_, _, rfl, ⟨_, _, _, pb, pa, .slice none 0 0, rfl, (k_un_no c1).1, by (rw [(k_un_no (pb := pb) (pa := pa) c1).2]; first | done | rfl)⟩, rd_nil 0 3 (hp.tail)⟩
    | exact ⟨_, _, rfl, ⟨_, _, _, _, _, _, rfl, (k_un_ok (iv := _) c1).1, by (rw [(k_un_ok (iv := .nilFunc) c1).2]; first | done | rfl)⟩, (hp.tail)⟩

theorem kredo_x (s : ByteArray) (bv av : Value) (n : Int) (pb pa : List PE) (g : Nat) (hn : 0 ≤ n) (hsm : ∀ x ∈ pa, Sm x.2) (hss : s.size ≤ 1073741824) (htl : pb.length ≤ 50) :
    CallX Tryd.prog 16 [.pointer (some ⟨g, 0, none⟩), .string s] S w0 (.blk g (.cells [bv, av, .int .i64 (n)].toArray 31 (0, 0)) :: pileR bv pb :: pileR av pa :: F) (fun u L' => ∃ bv' av' n' pb' pa' yv, u = .tuple #[yv, .int .i64 ((hrOf pb pa n).redoE s)] ∧ hrOf pb' pa' n' = (hrOf pb pa n).redo s ∧ L' = .rd yv 3 ((hrOf pb pa n).redoF s).length (encs ((hrOf pb pa n).redoF s)) :: .blk g (.cells [bv', av', .int .i64 (n')].toArray 31 (0, 0)) :: pileR bv' pb' :: pileR av' pa' :: F) := by
 intro w hp
 refine calls_start Tryd.func16 rfl rfl rfl (hp) ?_
 refine TC.seq (TC.region (TL.opP rfl (op_assign rfl) (TL.opP rfl (op_assign rfl) (TL.nil (TQ.then (TC.seq (TC.region (TL.opP rfl (op_move rfl) (TL.opP rfl (op_move rfl) (TL.opP rfl (op_nilCheck rfl) (TL.opP rfl (op_field fld_sealskinref17_History_Again rfl) (TL.opV rfl (op_load ts_sl_sl_api_Part rfl m0 rfl) (TL.opP rfl (op_move rfl) ?_)))))))))))))
 refine TL.opX rfl (OpX.callX en_36 rfl (ktake_x pa s _ _ _ _ _ m1 hn hsm hss)) ?_; rintro _ _ ⟨yv1, iv1, ie1, n21, rfl, hz11, hz21, rfl⟩
 refine TL.opP rfl (op_move rfl) (TL.opP rfl (op_extract rfl rfl) (TL.opP rfl (op_extract rfl rfl) (TL.opP rfl (op_extract rfl rfl) (TL.opP rfl (op_assign rfl) (TL.opP rfl (op_assign rfl) (TL.opP rfl (op_assign rfl) (TL.nil (TQ.then (TC.seq (TC.seq (TC.region (TL.opP rfl (op_move rfl) (TL.opP rfl (op_eql rfl rfl) (TL.nil (TQ.then ?_)))))))))))))))
 refine TC.sp rfl (fun c1 => ?_) (fun c1 => ?_)
 ·obtain ⟨x, r, rfl⟩ : ∃ x r, pa = x :: r := by
    cases pa with
    | nil => exact absurd (show (160 : Int) = 0 from c1) (by decide)
    | cons x r => exact ⟨x, r, rfl⟩
  obtain ⟨rfl, rfl, rfl⟩ := hz21 x r c1 rfl
  have hlc : (x :: r).length = r.length + 1 := rfl
  refine TC.seq (TC.region (TL.opP rfl (op_move rfl) (TL.opP rfl (op_move rfl) (TL.opP rfl (op_nilCheck rfl) (TL.opP rfl (op_field fld_sealskinref17_History_Again rfl) (TL.opV rfl (op_load ts_sl_sl_api_Part rfl m1 rfl) (TL.opV rfl (op_cut 1 (r.length + 1) tsl_sl_api_Part rfl (Src.pile m3).rdb (vlo := (some _)) (vhi := none) rfl rfl (.inr ⟨_, _, rfl, by omega⟩) (.inl ⟨rfl, rfl⟩) (by omega) (by omega)) (TL.hp (fun _ h => h.pick3) ?_))))))))
  refine TL.know (fun _ h => cutOne h) (fun oc => (TL.opP rfl (op_nilCheck rfl) (TL.opP rfl (op_field fld_sealskinref17_History_Again rfl) (TL.hp (fun _ h => h.pick2) ?_))))
  refine TL.opX0 (OpX.store1 ts_sl_sl_api_Part rfl rfl (by first | rfl | assumption) rfl rfl) ?_; rintro _ _ rfl
  refine TL.hp (fun _ h => h.pick1) (TL.hp (fun _ h => pile_pop h) (TL.nil (TQ.then (TC.region (TL.opP rfl (op_move rfl) (TL.opP rfl (op_move rfl) (TL.opP rfl (op_nilCheck rfl) (TL.opP rfl (op_field fld_sealskinref17_History_Back rfl) (TL.opV rfl (op_load ts_sl_sl_api_Part rfl m2 rfl) (TL.opP rfl (op_move rfl) ?_))))))))))
  refine TL.opX rfl (OpX.callX en_32 rfl (kon_x pb _ _ (invF x.2 s) m4 (Src.rd m3) (by omega))) ?_; rintro b2 _ ⟨_, rfl, rfl⟩
  refine TL.know (fun _ h => (Src.pile (.head _)).rdb.one h) (fun ob => (TL.opP rfl (op_nilCheck rfl) (TL.opP rfl (op_field fld_sealskinref17_History_Back rfl) (TL.hp (fun _ h => h.pick3) ?_))))
  refine TL.opX0 (OpX.store1 ts_sl_sl_api_Part rfl rfl (by first | rfl | assumption) rfl rfl) ?_; rintro _ _ rfl
  refine TL.nil (TQ.then (TC.seq (TC.region (TL.opP rfl (op_move rfl) (TL.opP rfl (op_move rfl) (TL.opP rfl (op_assign rfl) (TL.opP rfl (op_assign rfl) (TL.nil (TQ.then (TC.ret ?_))))))))))
  refine ret2 rfl rfl rfl (fun w' hp => ?_)
  first
    | exact ⟨_, _, rfl, ⟨_, _, _, pb, pa, .slice none 0 0, rfl, (k_re_no c1).1, by (rw [(k_re_no (pb := pb) (pa := pa) c1).2]; first | done | rfl)⟩, rd_nil 0 3 (hp.drop5.drop4.pick3.pick2.pick2.pick3)⟩
    | exact ⟨_, _, rfl, ⟨_, _, _, _, _, _, rfl, (k_re_ok (iv := _) c1).1, by (rw [(k_re_ok (iv := .nilFunc) c1).2]; first | done | rfl)⟩, (hp.drop5.drop4.pick3.pick2.pick2.pick3)⟩
 ·obtain ⟨rfl, rfl⟩ := hz11 c1
  refine TC.skip (TQ.then (TC.seq (TC.region (TL.opP rfl (op_move rfl) (TL.opP rfl (op_move rfl) (TL.opP rfl (op_assign rfl) (TL.opP rfl (op_assign rfl) (TL.nil (TQ.then (TC.ret ?_))))))))))
  refine ret2 rfl rfl rfl (fun w' hp => ?_)
  first
    | exact ⟨_, _, rfl, ⟨_, _, _, pb, pa, .slice none 0 0, rfl, (k_re_no c1).1, by (rw [(k_re_no (pb := pb) (pa := pa) c1).2]; first | done | rfl)⟩, rd_nil 0 3 (hp.tail)⟩
    | exact ⟨_, _, rfl, ⟨_, _, _, _, _, _, rfl, (k_re_ok (iv := _) c1).1, by (rw [(k_re_ok (iv := .nilFunc) c1).2]; first | done | rfl)⟩, (hp.tail)⟩

end Go.SK
