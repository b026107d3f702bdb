/- Walks: layer 17, the document's histories: piles the last edit first. -/
import Derived.Test.YtlbaebaimhbbfaaDoorE47
import Derived.Test.YtlbaebaimhbbfaaDoorE48
set_option linter.unusedVariables false
set_option linter.unusedSimpArgs false
set_option maxRecDepth 100000
namespace Go.SK
open Go Go.RowKit Go.Proofs
variable {S : Nat → Prop} {w0 : World} {F L : List Res}
def rn (ps : List PE) : Pile := ps.map Prod.snd
def hrOf (pb pa : List PE) (n : Int) : HS := ⟨rn pb, rn pa, n⟩
def onR (ps : List PE) (x : PE) : List PE := (x :: ps).take 50
theorem rn_onR (ps : List PE) (x : PE) : rn (onR ps x) = onH (rn ps) x.2 := by unfold rn onR onH; rw [List.map_take]; rfl
theorem onR_mem {ps : List PE} {x y : PE} (h : y ∈ onR ps x) : y = x ∨ y ∈ ps := by
  have := List.mem_of_mem_take h
  simpa using this
theorem ron_row {w : World} {v : Value} {t : TypeId} {m : Nat} {ps : List PE} {x : PE} (h : Hp S w0 w (.row v t 1 m (pv (x :: ps)) :: L)) (hm : m = 1 + ps.length) (he : ∀ y ∈ ps, Src L y.1 3 y.2.length (encs y.2)) (hx : Src L x.1 3 x.2.length (encs x.2)) :
    Hp S w0 w (pileR (Value.cut v 0 (min (1 + ps.length) 50) 1) (onR ps x) :: L) :=
  rd_pile (rd_cut (row_rd h) 0 (min (1 + ps.length) 50) (by omega) (by omega)) (by
    rw [Nat.zero_mul, List.drop_zero, Nat.mul_one, Nat.sub_zero, onR, ← List.map_take]
    congr 1
    rw [List.take_eq_take_iff, List.length_cons]; omega) (fun y hy => by
    rcases onR_mem hy with rfl | hy
    · exact hx
    · exact he y hy)
section
variable {h : HS} {e : List Part} {s : ByteArray} {n : Int}
theorem fit_hs : h.fit e ↔ ¬ fitE e h.n ≠ 0 := ⟨fun c => by rw [(fit_yes c).2]; decide, fun c => fit_of c⟩
theorem fitT_0 (c : ¬ fitE e n ≠ 0) : 0 ≤ fitT e n := by
  have hf := fit_of c
  obtain ⟨oe, _, h2⟩ := sizeE_ok hf.1
  rw [(fit_yes hf).1, h2]
  have := puts_le' oe.1; have := toS_eq oe.1; have := dropN_le oe.1; have := fromS_posU oe.1
  omega
def mkF (e : List Part) (n : Int) : Int := if fitE e n ≠ 0 then -1 else fitT e n
theorem mk_lt : mkF e n < 0 ↔ fitE e n ≠ 0 := by
  unfold mkF
  by_cases c : fitE e n ≠ 0
  · rw [if_pos c]; exact ⟨fun _ => c, fun _ => by decide⟩
  · rw [if_neg c]; have := fitT_0 c; exact ⟨fun h => by omega, fun h => absurd h c⟩
theorem mk_is (c : ¬ mkF e n < 0) : mkF e n = fitT e n := if_neg (fun h => c (mk_lt.2 h))
theorem k_mine_no (c : fitE e h.n ≠ 0) : 30 = h.mineE e s ∧ h = h.mine e s := by
  have h1 : h.mineE e s = 30 := if_neg (fun f => fit_hs.1 f c)
  exact ⟨h1.symm, (if_neg (by rw [h1]; decide)).symm⟩
theorem k_mine_bad (c : ¬ fitE e h.n ≠ 0) (c' : invE e s ≠ 0) : invE e s = h.mineE e s ∧ h = h.mine e s := by
  have h1 : h.mineE e s = invE e s := if_pos (fit_hs.2 c)
  exact ⟨h1.symm, (if_neg (by rw [h1]; exact c')).symm⟩
theorem k_mine_ok (c : ¬ fitE e h.n ≠ 0) (c' : ¬ invE e s ≠ 0) : 0 = h.mineE e s ∧ (⟨onH h.back (invF e s), [], fitT e h.n⟩ : HS) = h.mine e s := by
  have h1 : h.mineE e s = 0 := by rw [show h.mineE e s = invE e s from if_pos (fit_hs.2 c)]; exact Classical.not_not.1 c'
  exact ⟨h1.symm, by rw [(fit_yes (fit_of c)).1]; exact (if_pos h1).symm⟩
end
theorem kmakes_x (e : List Part) (v bv av : Value) (n : Int) (g : Nat) (hs : ∀ p ∈ e, p.text.size < 9223372036854775807) (hle : e.length ≤ 4398046511104) (he : Rdb F v 3 e.length (encs e)) :
    CallX Tryd.prog 30 [.pointer (some ⟨g, 0, none⟩), v] S w0 (.blk g (.cells [bv, av, .int .i64 (n)].toArray 31 (0, 0)) :: F) (fun u L' => u = .int .i64 (mkF e n) ∧ L' = .blk g (.cells [bv, av, .int .i64 (n)].toArray 31 (0, 0)) :: F) := by
 intro w hp
 refine calls_start Tryd.func30 rfl rfl rfl (hp) ?_
 refine TC.seq (TC.region (TL.opP rfl (op_assign rfl) (TL.nil (TQ.then (TC.seq (TC.region (TL.opP rfl (op_move rfl) (TL.callq rfl en_46 rfl (fun w2 hp => rsize_calls e v w2 hs (he.cons _ _ _ hp)) (TL.opP rfl (op_move rfl) (TL.opP rfl (op_extract rfl rfl) (TL.opP rfl (op_extract rfl rfl) (TL.opP rfl (op_extract rfl rfl) (TL.opP rfl (op_assign rfl) (TL.opP rfl (op_assign rfl) (TL.opP rfl (op_assign rfl) (TL.nil (TQ.then (TC.seq (TC.seq (TC.region (TL.opP rfl (op_move rfl) (TL.opP rfl (op_neq rfl rfl) (TL.opP rfl (op_move rfl) ?_)))))))))))))))))))))))
 refine TL.sp (fun c1 => ?_) (fun c1 => ?_)
 ·refine TL.gFt rfl rfl rfl (TL.gFt rfl rfl rfl (TL.gFt rfl rfl rfl (TL.gFt rfl rfl rfl (TL.gFt rfl rfl rfl (TL.gFt rfl rfl rfl (TL.opP rfl (op_pickT rfl rfl) (TL.opP rfl (op_move rfl) (TL.gFt rfl rfl rfl (TL.gFt rfl rfl rfl (TL.opP rfl (op_pickT rfl rfl) (TL.nil (TQ.then (TC.condT rfl (TC.seq (TC.region (TL.opP rfl (op_assign rfl) (TL.nil (TQ.then (TC.ret (TQ.then_ret ?_))))))))))))))))))))
  refine ret1 rfl rfl (fun w' hp => ?_)
  first
    | (have hb := fit_no (e := e) (n := n) (fun ⟨a, b, c⟩ => by first | exact c1 a | exact c2 b | (exact absurd c3 (by omega)))
       exact ⟨_, _, rfl, ⟨by rw [show mkF e n = -1 from if_pos (by rw [hb.2]; decide)], rfl⟩, (hp)⟩)
    | (have hb := fit_yes (e := e) (n := n) ⟨by omega, by omega, by omega⟩
       exact ⟨_, _, rfl, ⟨by (rw [show mkF e n = fitT e n from if_neg (by rw [hb.2]; decide), hb.1]; first | done | rfl), rfl⟩, (hp)⟩)
 ·refine TL.gT rfl rfl (TL.opP rfl (op_move rfl) (TL.gT rfl rfl (TL.opP rfl (op_move rfl) (TL.gT rfl rfl (TL.opP rfl (op_nilCheck rfl) (TL.gT rfl rfl (TL.opP rfl (op_field fld_sealskinref17_History_N rfl) (TL.gT rfl rfl (TL.opV rfl (op_load ts_int rfl m0 rfl) (TL.gT rfl rfl (TL.opP rfl (op_neq rfl rfl) (TL.opP rfl (op_pickF rfl rfl) (TL.opP rfl (op_move rfl) ?_)))))))))))))
  refine TL.sp (fun c2 => ?_) (fun c2 => ?_)
  ·refine TL.gFt rfl rfl rfl (TL.gFt rfl rfl rfl (TL.opP rfl (op_pickT rfl rfl) (TL.nil (TQ.then (TC.condT rfl (TC.seq (TC.region (TL.opP rfl (op_assign rfl) (TL.nil (TQ.then (TC.ret (TQ.then_ret ?_))))))))))))
   refine ret1 rfl rfl (fun w' hp => ?_)
   first
     | (have hb := fit_no (e := e) (n := n) (fun ⟨a, b, c⟩ => by first | exact c1 a | exact c2 b | (exact absurd c3 (by omega)))
        exact ⟨_, _, rfl, ⟨by rw [show mkF e n = -1 from if_pos (by rw [hb.2]; decide)], rfl⟩, (hp)⟩)
     | (have hb := fit_yes (e := e) (n := n) ⟨by omega, by omega, by omega⟩
        exact ⟨_, _, rfl, ⟨by (rw [show mkF e n = fitT e n from if_neg (by rw [hb.2]; decide), hb.1]; first | done | rfl), rfl⟩, (hp)⟩)
  ·refine TL.gT rfl rfl (TL.opP rfl (op_move rfl) (TL.gT rfl rfl (TL.opP rfl (op_gtr rfl rfl) (TL.opP rfl (op_pickF rfl rfl) (TL.nil (TQ.then ?_))))))
   refine TC.sp rfl (fun c3 => ?_) (fun c3 => ?_)
   ·refine TC.seq (TC.region (TL.opP rfl (op_assign rfl) (TL.nil (TQ.then (TC.ret (TQ.then_ret ?_))))))
    refine ret1 rfl rfl (fun w' hp => ?_)
    first
      | (have hb := fit_no (e := e) (n := n) (fun ⟨a, b, c⟩ => by first | exact c1 a | exact c2 b | (exact absurd c3 (by omega)))
         exact ⟨_, _, rfl, ⟨by rw [show mkF e n = -1 from if_pos (by rw [hb.2]; decide)], rfl⟩, (hp)⟩)
      | (have hb := fit_yes (e := e) (n := n) ⟨by omega, by omega, by omega⟩
         exact ⟨_, _, rfl, ⟨by (rw [show mkF e n = fitT e n from if_neg (by rw [hb.2]; decide), hb.1]; first | done | rfl), rfl⟩, (hp)⟩)
   ·refine TC.skip (TQ.then (TC.seq (TC.region (TL.opP rfl (op_move rfl) (TL.opP rfl (op_assign rfl) (TL.nil (TQ.then (TC.ret ?_))))))))
    refine ret1 rfl rfl (fun w' hp => ?_)
    first
      | (have hb := fit_no (e := e) (n := n) (fun ⟨a, b, c⟩ => by first | exact c1 a | exact c2 b | (exact absurd c3 (by omega)))
         exact ⟨_, _, rfl, ⟨by rw [show mkF e n = -1 from if_pos (by rw [hb.2]; decide)], rfl⟩, (hp)⟩)
      | (have hb := fit_yes (e := e) (n := n) ⟨by omega, by omega, by omega⟩
         exact ⟨_, _, rfl, ⟨by (rw [show mkF e n = fitT e n from if_neg (by rw [hb.2]; decide), hb.1]; first | done | rfl), rfl⟩, (hp)⟩)

theorem kon_x (ps : List PE) (v ve : Value) (e : List Part) (hm : pileR v ps ∈ L) (he : Src L ve 3 e.length (encs e)) (hl : ps.length ≤ 1048576) :
    CallX Tryd.prog 32 [v, ve] S w0 (L) (fun u L' => ∃ v', u = v' ∧ L' = pileR v' (onR ps (ve, e)) :: L) := by
 intro w hp
 have h1 := pile_one hm hp
 have he1 := he.rdb.one hp
 refine calls_start Tryd.func32 rfl rfl rfl (hp) ?_
 refine TC.seq (TC.region (TL.opP rfl (op_assign rfl) (TL.nil (TQ.then (TC.seq (TC.region (TL.opP rfl (op_move rfl) ?_)))))))
 refine TL.opX rfl (OpX.buildSlice (ps := #[(0, ve)]) rfl (bs_sl_api_Part_1 _)) ?_; rintro _ _ ⟨g7, rfl, rfl⟩
 refine TL.hp (fun _ h => blk_row (k := 1) (m := 1) h rfl (by decide)) (TL.opP rfl (op_move rfl) ?_)
 refine TL.opX rfl (OpX.append (bytes := 24) tsl_sl_api_Part (by decide) (by decide) rfl (Src.pile hm).rdb.cons h1 (by omega) (zs := pv ((ve, e) :: ps)) rfl) ?_; rintro v1 _ rfl
 refine TL.know (fun _ h => row1 h) (fun o1 => (TL.opP rfl (op_assign rfl) (TL.nil (TQ.then (TC.seq (TC.region (TL.opP rfl (op_move rfl) (TL.opP rfl (op_move rfl) (TL.opV rfl (op_lenV rfl un_sl_sl_api_Part rfl rw0) (TL.opP rfl (op_min rfl) (TL.opV rfl (op_cut 0 (min (1 + ps.length) 50) tsl_sl_api_Part rfl rw0 (vlo := none) (vhi := (some _)) rfl rfl (.inl ⟨rfl, rfl⟩) (.inr ⟨_, _, rfl, by omega⟩) (by omega) (by omega)) (TL.opP rfl (op_assign rfl) (TL.nil (TQ.then (TC.ret ?_)))))))))))))))
 refine ret1 rfl rfl (fun w' hp => ?_)
 exact ⟨_, _, rfl, ⟨_, rfl, rfl⟩, ron_row (hp) rfl (fun y hy => Src.pileE hm hy) he⟩

theorem kmine_x (e : List Part) (s : ByteArray) (v : Value) (bv av : Value) (n : Int) (pb pa : List PE) (g : Nat) (hs : ∀ p ∈ e, p.text.size < 9223372036854775807) (hle : e.length ≤ 4398046511104) (hss : s.size ≤ 1073741824) (hbl : pb.length ≤ 50) (he : Rdb F v 3 e.length (encs e)) :
    CallX Tryd.prog 10 [.pointer (some ⟨g, 0, none⟩), v, .string s] S w0 (.blk g (.cells [bv, av, .int .i64 (n)].toArray 31 (0, 0)) :: pileR bv pb :: pileR av pa :: F) (fun u L' => ∃ bv' av' n' pb' pa', u = .int .i64 ((hrOf pb pa n).mineE e s) ∧ hrOf pb' pa' n' = (hrOf pb pa n).mine e s ∧ L' = .blk g (.cells [bv', av', .int .i64 (n')].toArray 31 (0, 0)) :: pileR bv' pb' :: pileR av' pa' :: F) := by
 intro w hp
 refine calls_start Tryd.func10 rfl rfl rfl (hp) ?_
 refine TC.seq (TC.region (TL.opP rfl (op_assign rfl) (TL.nil (TQ.then (TC.seq (TC.region (TL.opP rfl (op_move rfl) (TL.opP rfl (op_move rfl) ?_))))))))
 refine TL.opX rfl (OpX.callX en_30 rfl (kmakes_x e v _ _ _ _ hs hle he.cons.cons)) ?_; rintro _ _ ⟨rfl, rfl⟩
 refine TL.opP rfl (op_assign rfl) (TL.nil (TQ.then (TC.seq (TC.seq (TC.region (TL.opP rfl (op_move rfl) (TL.opP rfl (op_lss rfl rfl) (TL.nil (TQ.then ?_)))))))))
 refine TC.sp rfl (fun c1 => ?_) (fun c1 => ?_)
 ·have hf := mk_lt.1 c1
  refine TC.seq (TC.region (TL.opP rfl (op_assign rfl) (TL.nil (TQ.then (TC.ret (TQ.then_ret ?_))))))
  refine ret1 rfl rfl (fun w' hp => ?_)
  first
    | exact ⟨_, _, rfl, ⟨_, _, _, _, _, congrArg (Value.int .i64) (k_mine_no (h := hrOf pb pa n) hf).1, (k_mine_no hf).2, rfl⟩, (hp)⟩
    | exact ⟨_, _, rfl, ⟨_, _, _, _, _, congrArg (Value.int .i64) (k_mine_bad (h := hrOf pb pa n) hf c2).1, (k_mine_bad (h := hrOf pb pa n) hf c2).2, rfl⟩, (hp)⟩
    | exact ⟨_, _, rfl, ⟨_, _, _, onR pb _, [], congrArg (Value.int .i64) (k_mine_ok (h := hrOf pb pa n) hf c2).1, by (rw [← (k_mine_ok (h := hrOf pb pa n) hf c2).2]; unfold hrOf; rw [rn_onR]; rfl), rfl⟩, (hp)⟩
 ·have hf : ¬ fitE e n ≠ 0 := fun h => c1 (mk_lt.2 h)
  rw [mk_is c1]
  refine TC.skip (TQ.then (TC.seq (TC.region (TL.opP rfl (op_move rfl) (TL.opP rfl (op_move rfl) ?_)))))
  refine TL.opX rfl (OpX.callX en_31 rfl (rinvert_x e s v hss hs hle he.cons.cons.cons)) ?_; rintro _ _ ⟨w2, rfl, rfl⟩
  refine TL.opP rfl (op_move rfl) (TL.hp (fun _ h => row_rd h) (TL.opP rfl (op_extract rfl rfl) (TL.opP rfl (op_extract rfl rfl) (TL.opP rfl (op_assign rfl) (TL.opP rfl (op_assign rfl) (TL.nil (TQ.then (TC.seq (TC.seq (TC.region (TL.opP rfl (op_move rfl) (TL.opP rfl (op_neq rfl rfl) (TL.nil (TQ.then ?_))))))))))))))
  refine TC.sp rfl (fun c2 => ?_) (fun c2 => ?_)
  ·refine TC.seq (TC.region (TL.opP rfl (op_move rfl) (TL.opP rfl (op_assign rfl) (TL.nil (TQ.then (TC.ret (TQ.then_ret ?_)))))))
   refine ret1 rfl rfl (fun w' hp => ?_)
   first
     | exact ⟨_, _, rfl, ⟨_, _, _, _, _, congrArg (Value.int .i64) (k_mine_no (h := hrOf pb pa n) hf).1, (k_mine_no hf).2, rfl⟩, (hp.tail)⟩
     | exact ⟨_, _, rfl, ⟨_, _, _, _, _, congrArg (Value.int .i64) (k_mine_bad (h := hrOf pb pa n) hf c2).1, (k_mine_bad (h := hrOf pb pa n) hf c2).2, rfl⟩, (hp.tail)⟩
     | exact ⟨_, _, rfl, ⟨_, _, _, onR pb _, [], congrArg (Value.int .i64) (k_mine_ok (h := hrOf pb pa n) hf c2).1, by (rw [← (k_mine_ok (h := hrOf pb pa n) hf c2).2]; unfold hrOf; rw [rn_onR]; rfl), rfl⟩, (hp.tail)⟩
  ·refine TC.skip (TQ.then (TC.seq (TC.region (TL.opP rfl (op_move rfl) (TL.opP rfl (op_move rfl) (TL.opP rfl (op_nilCheck rfl) (TL.opP rfl (op_field fld_sealskinref17_History_Back rfl) (TL.opV rfl (op_load ts_sl_sl_api_Part rfl m1 rfl) (TL.opP rfl (op_move rfl) ?_)))))))))
   refine TL.opX rfl (OpX.callX en_32 rfl (kon_x pb _ _ (invF e s) m2 (Src.rd m0) (by omega))) ?_; rintro b3 _ ⟨_, rfl, rfl⟩
   refine TL.know (fun _ h => (Src.pile (.head _)).rdb.one h) (fun ob => (TL.opP rfl (op_nilCheck rfl) (TL.opP rfl (op_field fld_sealskinref17_History_Back rfl) (TL.hp (fun _ h => h.pick2) ?_))))
   refine TL.opX0 (OpX.store1 ts_sl_sl_api_Part rfl rfl (by first | rfl | assumption) rfl rfl) ?_; rintro _ _ rfl
   refine TL.nil (TQ.then (TC.seq (TC.region (TL.opP rfl (op_move rfl) (TL.opP rfl (op_nilCheck rfl) (TL.opP rfl (op_field fld_sealskinref17_History_Again rfl) ?_))))))
   refine TL.opX0 (OpX.store1 ts_sl_sl_api_Part rfl rfl (by first | rfl | assumption) rfl rfl) ?_; rintro _ _ rfl
   refine TL.hp (fun _ h => nil_pile h) (TL.nil (TQ.then (TC.seq (TC.region (TL.opP rfl (op_move rfl) (TL.opP rfl (op_move rfl) (TL.opP rfl (op_nilCheck rfl) (TL.opP rfl (op_field fld_sealskinref17_History_N rfl) (TL.hp (fun _ h => h.pick1) ?_)))))))))
   refine TL.opX0 (OpX.store1 ts_int rfl rfl (by first | rfl | assumption) rfl rfl) ?_; rintro _ _ rfl
   refine TL.nil (TQ.then (TC.seq (TC.region (TL.opP rfl (op_assign rfl) (TL.nil (TQ.then (TC.ret ?_)))))))
   refine ret1 rfl rfl (fun w' hp => ?_)
   first
     | exact ⟨_, _, rfl, ⟨_, _, _, _, _, congrArg (Value.int .i64) (k_mine_no (h := hrOf pb pa n) hf).1, (k_mine_no hf).2, rfl⟩, (hp.drop5.drop4.drop3.pick1.pick2.pick2)⟩
     | exact ⟨_, _, rfl, ⟨_, _, _, _, _, congrArg (Value.int .i64) (k_mine_bad (h := hrOf pb pa n) hf c2).1, (k_mine_bad (h := hrOf pb pa n) hf c2).2, rfl⟩, (hp.drop5.drop4.drop3.pick1.pick2.pick2)⟩
     | exact ⟨_, _, rfl, ⟨_, _, _, onR pb _, [], congrArg (Value.int .i64) (k_mine_ok (h := hrOf pb pa n) hf c2).1, by (rw [← (k_mine_ok (h := hrOf pb pa n) hf c2).2]; unfold hrOf; rw [rn_onR]; rfl), rfl⟩, (hp.drop5.drop4.drop3.pick1.pick2.pick2)⟩

end Go.SK
