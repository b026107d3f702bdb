/- Layer 12: the document's Swap. -/
import Derived.Test.YtpomdenbgdgbhaaDoorE94
set_option linter.unusedVariables false
set_option linter.unusedSimpArgs false
set_option maxRecDepth 100000
namespace Go.SK
open Go Go.RowKit Go.Proofs
variable {S : Nat → Prop} {w0 : World} {F L : List Res}
/-- How far the document's filling has come: sk tells that the next rune is done with. -/
def FilI (tx f w : List Int) (i : Nat) (out : List Int) (sk : Bool) : Prop :=
  (sk = false → out ++ fillGo tx f (w.drop i) = fillGo tx f w) ∧ (sk = true → i < w.length ∧ out ++ fillGo tx f (w.drop (i + 1)) = fillGo tx f w)
section
variable {tx f w out : List Int} {i : Nat} {sk : Bool}
theorem FilI.len (h : FilI tx f w i out sk) : out.length ≤ (fillGo tx f w).length := by
  cases sk with
  | false => rw [← h.1 rfl, List.length_append]; omega
  | true => rw [← (h.2 rfl).2, List.length_append]; omega
theorem FilI.all (h : FilI tx f w i out sk) (hi : w.length ≤ i) : out = fillGo tx f w := by
  cases sk with
  | false => have e := h.1 rfl; rw [List.drop_of_length_le hi, fillGo, List.append_nil] at e; exact e
  | true => exact absurd (h.2 rfl).1 (by omega)
end
set_option maxHeartbeats 1000000
theorem xswap_x (pg : List StP) (G : Nat) (rs : List Res) (ms : List RM) (lv : Value) (pa : Nat) (hG : PgG pg G) (hpgm : ms.map Prod.fst = pg) (hmok : ∀ m ∈ ms, RmOk rs m) (hpat : Res.blk pa (.cells [lv, .int .i64 (G : Int)].toArray 78 (0, 0)) ∈ rs) (hstp : Res.rd lv 12 ms.length (encs ms) ∈ rs) (hpl : pg.length ≤ 3000) (hG2 : G ≤ 200) (s q : ByteArray) (hs : s.size ≤ 1048576) (hq : q.size ≤ 1048576) :
    CallX Tryd.prog 53 [ptrV pa, .string s, .string q] S w0 (fz rs :: F) (fun u L' => ∃ rs' v', u = .tuple #[v', .int .i64 (mswE pg G s q)] ∧ rs ⊆ rs' ∧ L' = .row v' 104 3 (mswF pg G s q).length (encs (mswF pg G s q)) :: fz rs' :: F) := by
 intro w hp
 have htl := txF_len s
 have hdq := dec_len q
 have hds := dec_len s
 refine calls_start Tryd.func53 rfl rfl rfl (hp) ?_
 refine TC.seq (TC.region (TL.opP rfl (op_assign rfl) (TL.opP rfl (op_assign rfl) (TL.nil (TQ.then (TC.seq (TC.region (TL.opP rfl (op_move rfl) (TL.opP rfl (op_move rfl) ?_)))))))))
 refine TL.opX rfl (OpX.callX en_58 rfl (xall_x pg G rs ms lv pa hG hpgm hmok hpat hstp hpl hG2 s (by omega))) ?_; rintro _ _ ⟨rsA1, av1, am1, rfl, hsA1, hall1, hok1, ho1, rfl⟩
 refine TL.opP rfl (op_move rfl) (TL.opP rfl (op_extract rfl rfl) (TL.opP rfl (op_extract rfl rfl) (TL.opP rfl (op_assign rfl) (TL.opP rfl (op_assign rfl) (TL.nil (TQ.then (TC.seq (TC.seq (TC.region (TL.opP rfl (op_move rfl) (TL.opP rfl (op_neq rfl rfl) (TL.nil (TQ.then ?_)))))))))))))
 refine TC.sp rfl (fun c1 => ?_) (fun c1 => ?_)
 ·refine TC.seq (TC.region (TL.opP rfl (op_move rfl) (TL.opP rfl (op_assign rfl) (TL.opP rfl (op_assign rfl) (TL.nil (TQ.then (TC.ret (TQ.then_ret ?_))))))))
  refine ret2 rfl rfl rfl (fun w' hp => ?_)
  first
    | exact ⟨_, _, rfl, ⟨rsA1, nilS, by (rw [mswE_a c1]; first | done | rfl), hsA1, by rw [mswF_no (by rw [mswE_a c1]; exact c1)]; rfl⟩, (hp.tail)⟩
    | exact ⟨_, _, rfl, ⟨rsA1, nilS, by (rw [mswE_a c1]; first | done | rfl), hsA1, by rw [mswF_no (by rw [mswE_a c1]; exact c1)]; rfl⟩, new_nil _ 3 (hp.tail)⟩
 ·have h0 : ¬ txE s ≠ 0 := c1
  have hts : txF s = dec s := txF_is (Classical.not_not.1 h0)
  have hall2 : am1.map Prod.fst = allF pg G (txF s) := hall1.trans (if_neg h0)
  refine TC.skip (TQ.then (TC.seq (TC.region (TL.opP rfl (op_move rfl) ?_))))
  refine TL.opX rfl (OpX.callX en_83 rfl (xrunes_x q (by omega))) ?_; rintro _ _ ⟨wq2, rfl, rfl⟩
  refine TL.opP rfl (op_move rfl) (TL.opP rfl (op_extract rfl rfl) (TL.opP rfl (op_extract rfl rfl) (TL.opP rfl (op_assign rfl) (TL.opP rfl (op_assign rfl) (TL.nil (TQ.then (TC.seq (TC.seq (TC.region (TL.opP rfl (op_move rfl) (TL.opP rfl (op_not rfl rfl) (TL.nil (TQ.then ?_)))))))))))))
  refine TC.sp rfl (fun c2 => ?_) (fun c2 => ?_)
  ·have hv : valid q = false := by simpa using c2
   refine TC.seq (TC.region (TL.opP rfl (op_assign rfl) (TL.opP rfl (op_assign rfl) (TL.nil (TQ.then (TC.ret (TQ.then_ret ?_)))))))
   refine ret2 rfl rfl rfl (fun w' hp => ?_)
   first
     | exact ⟨_, _, rfl, ⟨rsA1, nilS, by (rw [mswE_b h0 hv]; first | done | rfl), hsA1, by rw [mswF_no (by rw [mswE_b h0 hv]; decide)]; rfl⟩, (hp.drop1.tail)⟩
     | exact ⟨_, _, rfl, ⟨rsA1, nilS, by (rw [mswE_b h0 hv]; first | done | rfl), hsA1, by rw [mswF_no (by rw [mswE_b h0 hv]; decide)]; rfl⟩, new_nil _ 3 (hp.drop1.tail)⟩
  ·have hv : valid q = true := by simpa using c2
   refine TC.skip (TQ.then (TC.seq (TC.seq (TC.region (TL.opP rfl (op_move rfl) (TL.opV rfl (op_lenV rfl un_sl_int32 rfl rw0) (TL.opP rfl (op_gtr rfl rfl) (TL.nil (TQ.then ?_)))))))))
   refine TC.sp rfl (fun c3 => ?_) (fun c3 => ?_)
   ·refine TC.seq (TC.region (TL.opP rfl (op_assign rfl) (TL.opP rfl (op_assign rfl) (TL.nil (TQ.then (TC.ret (TQ.then_ret ?_)))))))
    refine ret2 rfl rfl rfl (fun w' hp => ?_)
    first
      | exact ⟨_, _, rfl, ⟨rsA1, nilS, by (rw [mswE_c h0 hv (by omega)]; first | done | rfl), hsA1, by rw [mswF_no (by rw [mswE_c h0 hv (by omega)]; decide)]; rfl⟩, (hp.drop1.tail)⟩
      | exact ⟨_, _, rfl, ⟨rsA1, nilS, by (rw [mswE_c h0 hv (by omega)]; first | done | rfl), hsA1, by rw [mswF_no (by rw [mswE_c h0 hv (by omega)]; decide)]; rfl⟩, new_nil _ 3 (hp.drop1.tail)⟩
   ·have hql : (dec q).length ≤ 4096 := by omega
    have haml : am1.length ≤ (txF s).length + 1 := by have h := congrArg List.length hall2; rw [List.length_map] at h; rw [h]; exact allGo_len _ _
    refine TC.skip (TQ.then (TC.seq (TC.region (TL.opP rfl (op_move rfl) ?_))))
    refine TL.opX rfl (OpX.callX en_83 rfl (xrunes_x s (by omega))) ?_; rintro _ _ ⟨wt3, rfl, rfl⟩
    refine TL.opP rfl (op_move rfl) (TL.opP rfl (op_extract rfl rfl) (TL.opP rfl (op_extract rfl rfl) (TL.opP rfl (op_assign rfl) (TL.opP rfl (op_assign rfl) ?_))))
    rw [← hts]
    refine TL.nil (TQ.then (TC.seq (TC.region (TL.opP rfl (op_assign rfl) (TL.nil (TQ.then (TC.seq (TC.region (TL.opP rfl (op_assign rfl) (TL.opP rfl (op_assign rfl) (TL.nil (TQ.then (TC.seq (TC.seq (TC.region (TL.opP rfl (op_move rfl) (TL.opV rfl (op_lenV rfl un_sl_sl_int rfl rw2) (TL.opP rfl (op_move rfl) (TL.nil (TQ.then (TC.block (TC.hp (fun _ h => new_nil 104 3 h) ?_))))))))))))))))))))))
    refine TC.loop (ι := Nat × List Part × Value × Nat × Nat) (fun (k, ps, pv, a, n) => [(10, wq2), (12, wt3), (14, pv), (15, .int .i64 ((a : Nat) : Int)), (16, .int .i64 ((n : Nat) : Int)), (49, av1), (50, .int .i64 (am1.length : Int)), (51, .int .i64 (k : Int))]) (fun (k, ps, pv, a, n) => .row pv 104 3 (ps).length (encs (ps)) :: .row wt3 21 1 (txF s).length ((txF s).map (Value.int .i32)) :: .row wq2 21 1 (dec q).length ((dec q).map (Value.int .i32)) :: .row av1 29 1 am1.length (am1.map Prod.snd) :: fz rsA1 :: F) (fun (k, ps, pv, a, n) => k ≤ am1.length ∧ SwI (txF s) (dec q) (am1.map Prod.fst) G k ps pv a n) (fun (k, ps, pv, a, n) => am1.length - k) ((0, [], nilS, 0, 0)) (⟨Nat.zero_le _, rfl, by decide, rfl, (fun p hp => by cases hp), by (rw [hall2]; exact allF_ris hG), msw_start _ _ _⟩) ⟨rfl, rfl, rfl, rfl, rfl, rfl, rfl, rfl, trivial⟩ (fun _ h => h) ?_
    rintro ⟨k, ps, pv, a, n⟩ ⟨hk, I⟩
    have hale := I.ris.a_le
    have hpl2 := I.len
    have hn1 := I.n1
    show TC _ _ _ _ [(10, wq2), (12, wt3), (14, pv), (15, .int .i64 ((a : Nat) : Int)), (16, .int .i64 ((n : Nat) : Int)), (49, av1), (50, .int .i64 (am1.length : Int)), (51, .int .i64 (k : Int))] _ _ (.row pv 104 3 (ps).length (encs (ps)) :: .row wt3 21 1 (txF s).length ((txF s).map (Value.int .i32)) :: .row wq2 21 1 (dec q).length ((dec q).map (Value.int .i32)) :: .row av1 29 1 am1.length (am1.map Prod.snd) :: fz rsA1 :: F)
    refine TC.seq (TC.region (TL.opP rfl (op_lss rfl rfl) (TL.nil (TQ.then (TC.seq ?_)))))
    refine TC.sp rfl (fun c4 => ?_) (fun c4 => ?_)
    ·obtain ⟨hd1, hd2⟩ := drop_AM (am := am1) (k := k) (by omega)
     obtain ⟨x, hx⟩ : ∃ x, am1.getD k ([], nilS) = x := ⟨_, rfl⟩
     rw [hx] at hd1 hd2
     have hrd := (hok1 x hd2).2
     have hR0 := I.ris
     rw [hd1] at hR0
     obtain ⟨i, j, g1, g2, g3, g4, g5, hF, hR⟩ : ∃ i j : Nat, a ≤ i ∧ i ≤ j ∧ j ≤ (txF s).length ∧ x.1.getD 0 0 = i ∧ x.1.getD 1 0 = j ∧ Fnd (txF s).length G i x.1 ∧ Ris (txF s).length G j ((am1.map Prod.fst).drop (k + 1)) := by
       cases hR0 with
       | cons _ i j _ _ q1 q2 q3 q4 q5 q6 q7 q8 => exact ⟨i, j, q1, q2, q3, q5, q6, q7, q8⟩
     have hfl := hF.len
     have hbd := fillGo_len (txF s) x.1 (dec q)
     have hbd2 : (fillGo (txF s) x.1 (dec q)).length ≤ 4096 * 4097 := Nat.le_trans hbd (Nat.mul_le_mul hql (by omega))
     have hsz0 := (enc_size (fillGo (txF s) x.1 (dec q))).2
     have hsz : (enc (fillGo (txF s) x.1 (dec q))).size < 9223372036854775807 := by omega
     have hsv : valid s = true := by
       by_cases h : valid s = true
       · exact h
       · exact absurd (txE_a (by simpa using h)) (fun e => h0 (by rw [e]; decide))
     refine TC.skip (TQ.then (TC.seq (TC.block (TC.seq (TC.region (TL.opV rfl (op_index tsl_sl_int rfl rw3 rfl (by omega) (by omega)) (TL.opV rfl (op_loadR ts_sl_int rfl rw3 (lkM (f := Prod.snd) (i := k) (d := ([], nilS)) (by omega) hx (by omega))) (TL.opP rfl (op_assign rfl) (TL.nil (TQ.then (TC.seq (TC.region (TL.opP rfl (op_assign rfl) (TL.nil (TQ.then (TC.seq (TC.region (TL.opP rfl (op_assign rfl) (TL.nil (TQ.then (TC.seq (TC.seq (TC.region (TL.opP rfl (op_move rfl) (TL.opV rfl (op_lenV rfl un_sl_int32 rfl rw2) (TL.opP rfl (op_move rfl) (TL.nil (TQ.then (TC.block (TC.hp (fun _ h => new_nil 21 1 h) (TC.loop (ι := Nat × List Int × Value × Bool) (fun (i', out, ov, sk) => [(10, wq2), (12, wt3), (14, pv), (15, .int .i64 ((a : Nat) : Int)), (16, .int .i64 ((n : Nat) : Int)), (49, av1), (50, .int .i64 (am1.length : Int)), (51, .int .i64 (k : Int)), (18, x.2), (19, ov), (20, .bool sk), (55, wq2), (56, .int .i64 ((dec q).length : Int)), (57, .int .i64 (i' : Int))]) (fun (i', out, ov, sk) => .row ov 21 1 (out).length ((out).map (Value.int .i32)) :: .row pv 104 3 (ps).length (encs (ps)) :: .row wt3 21 1 (txF s).length ((txF s).map (Value.int .i32)) :: .row wq2 21 1 (dec q).length ((dec q).map (Value.int .i32)) :: .row av1 29 1 am1.length (am1.map Prod.snd) :: fz rsA1 :: F) (fun (i', out, ov, sk) => i' ≤ (dec q).length ∧ ov.oneCell' = true ∧ FilI (txF s) x.1 (dec q) i' out sk) (fun (i', out, ov, sk) => (dec q).length - i') ((0, [], nilS, false)) (⟨Nat.zero_le _, rfl, fun _ => rfl, fun h => by cases h⟩) ⟨rfl, rfl, rfl, rfl, rfl, rfl, rfl, rfl, rfl, rfl, rfl, rfl, rfl, rfl, trivial⟩ (fun _ h => h) ?_)))))))))))))))))))))))))))))))
     rintro ⟨i', out, ov, sk⟩ ⟨hi, hov, hout⟩
     have hol := Nat.le_trans hout.len hbd2
     show TC _ _ _ _ [(10, wq2), (12, wt3), (14, pv), (15, .int .i64 ((a : Nat) : Int)), (16, .int .i64 ((n : Nat) : Int)), (49, av1), (50, .int .i64 (am1.length : Int)), (51, .int .i64 (k : Int)), (18, x.2), (19, ov), (20, .bool sk), (55, wq2), (56, .int .i64 ((dec q).length : Int)), (57, .int .i64 (i' : Int))] _ _ (.row ov 21 1 (out).length ((out).map (Value.int .i32)) :: .row pv 104 3 (ps).length (encs (ps)) :: .row wt3 21 1 (txF s).length ((txF s).map (Value.int .i32)) :: .row wq2 21 1 (dec q).length ((dec q).map (Value.int .i32)) :: .row av1 29 1 am1.length (am1.map Prod.snd) :: fz rsA1 :: F)
     refine TC.seq (TC.region (TL.opP rfl (op_lss rfl rfl) (TL.nil (TQ.then (TC.seq ?_)))))
     refine TC.sp rfl (fun c5 => ?_) (fun c5 => ?_)
     ·refine TC.skip (TQ.then (TC.seq (TC.block (TC.seq (TC.region (TL.opP rfl (op_move rfl) (TL.opV rfl (op_index tsl_int32 rfl rw3 rfl (by omega) (by omega)) (TL.opV rfl (op_loadR ts_int32 rfl rw3 (lkM (i := i') (d := 0) (by omega) rfl (by omega))) (TL.opP rfl (op_assign rfl) (TL.opP rfl (op_assign rfl) (TL.nil (TQ.then (TC.seq (TC.seq (TC.region (TL.opP rfl (op_move rfl) (TL.nil (TQ.then ?_))))))))))))))))))
      refine TC.sp rfl (fun c6 => ?_) (fun c6 => ?_)
      ·subst c6
       obtain ⟨hl1, hl2⟩ := hout.2 rfl
       refine TC.seq (TC.region (TL.opP rfl (op_assign rfl) (TL.nil (TQ.then (TC.exit (TQ.then_exit (TQ.block_hit (TQ.then (TC.region (TL.opP rfl (op_add rfl rfl rfl (by omega) (by omega)) (TL.opP rfl (op_move rfl) (TL.nil ?_))))))))))))
       exact TQ.round (i' + 1, out, ov, false) (by (try dsimp only); exact ⟨by omega, by assumption, ⟨fun _ => hl2, fun h => by cases h⟩⟩) (by show _ - _ < _ - i'; omega) ⟨rfl, rfl, rfl, rfl, rfl, rfl, rfl, rfl, rfl, rfl, rfl, rfl, rfl, rfl, trivial⟩ (fun _ h => h)
      ·subst c6
       have hl := hout.1 rfl
       refine TC.skip (TQ.then (TC.seq (TC.seq (TC.region (TL.opP rfl (op_move rfl) (TL.opP rfl (op_neq rfl rfl) (TL.opP rfl (op_move rfl) ?_)))))))
       refine TL.sp (fun c7 => ?_) (fun c7 => ?_)
       ·refine TL.gFt rfl rfl rfl (TL.gFt rfl rfl rfl (TL.gFt rfl rfl rfl (TL.gFt rfl rfl rfl (TL.gFt rfl rfl rfl (TL.opP rfl (op_pickT rfl rfl) (TL.nil (TQ.then (TC.condT rfl (TC.seq (TC.region (TL.opP rfl (op_move rfl) (TL.opP rfl (op_move rfl) ?_))))))))))))
        refine TL.opX rfl (OpX.buildSlice (ps := #[(0, _)]) rfl (bs_int32_1 _)) ?_; rintro _ _ ⟨g74, rfl, rfl⟩
        refine TL.hp (fun _ h => blk_row (k := 1) (m := 1) h rfl (by decide)) (TL.hp (fun _ h => h.pick1) ?_)
        refine TL.opX rfl (OpX.append (bytes := 4) tsl_int32 (by decide) (by decide) rfl rw1 (i32_one1 _) (by omega) (zs := (out ++ [(dec q).getD i' 0]).map (Value.int .i32)) (by rw [List.map_append]; rfl)) ?_; rintro v4 _ rfl
        refine TL.know (fun _ h => row1 h) (fun o4 => (TL.hp (fun _ h => row_lenM h) (TL.opP rfl (op_assign rfl) (TL.nil (TQ.then (TC.exit (TQ.then_exit (TQ.block_hit (TQ.then (TC.region (TL.opP rfl (op_add rfl rfl rfl (by omega) (by omega)) (TL.opP rfl (op_move rfl) (TL.nil ?_)))))))))))))
        exact TQ.round (i' + 1, out ++ [(dec q).getD i' 0], v4, false) (by (try dsimp only); exact ⟨by omega, by assumption, ⟨fun _ => fill_on hl (fill_c (by omega) (.inl c7)), fun h => by cases h⟩⟩) (by show _ - _ < _ - i'; omega) ⟨rfl, rfl, rfl, rfl, rfl, rfl, rfl, rfl, rfl, rfl, rfl, rfl, rfl, rfl, trivial⟩ (fun _ h => h.drop1)
       ·have c7' : ((dec q).getD i' 0) = 36 := by omega
        refine TL.gT rfl rfl (TL.opP rfl (op_move rfl) (TL.gT rfl rfl (TL.opP rfl (op_add rfl rfl rfl (by omega) (by omega)) (TL.gT rfl rfl (TL.opP rfl (op_move rfl) (TL.gT rfl rfl (TL.opV rfl (op_lenV rfl un_sl_int32 rfl rw3) (TL.gT rfl rfl (TL.opP rfl (op_eql rfl rfl) (TL.opP rfl (op_pickF rfl rfl) (TL.nil (TQ.then ?_))))))))))))
        refine TC.sp rfl (fun c8 => ?_) (fun c8 => ?_)
        ·refine TC.seq (TC.region (TL.opP rfl (op_move rfl) (TL.opP rfl (op_move rfl) ?_)))
         refine TL.opX rfl (OpX.buildSlice (ps := #[(0, _)]) rfl (bs_int32_1 _)) ?_; rintro _ _ ⟨g74, rfl, rfl⟩
         refine TL.hp (fun _ h => blk_row (k := 1) (m := 1) h rfl (by decide)) (TL.hp (fun _ h => h.pick1) ?_)
         refine TL.opX rfl (OpX.append (bytes := 4) tsl_int32 (by decide) (by decide) rfl rw1 (i32_one1 _) (by omega) (zs := (out ++ [(dec q).getD i' 0]).map (Value.int .i32)) (by rw [List.map_append]; rfl)) ?_; rintro v5 _ rfl
         refine TL.know (fun _ h => row1 h) (fun o5 => (TL.hp (fun _ h => row_lenM h) (TL.opP rfl (op_assign rfl) (TL.nil (TQ.then (TC.exit (TQ.then_exit (TQ.block_hit (TQ.then (TC.region (TL.opP rfl (op_add rfl rfl rfl (by omega) (by omega)) (TL.opP rfl (op_move rfl) (TL.nil ?_)))))))))))))
         exact TQ.round (i' + 1, out ++ [(dec q).getD i' 0], v5, false) (by (try dsimp only); exact ⟨by omega, by assumption, ⟨fun _ => fill_on hl (fill_c (by omega) (.inr (by omega))), fun h => by cases h⟩⟩) (by show _ - _ < _ - i'; omega) ⟨rfl, rfl, rfl, rfl, rfl, rfl, rfl, rfl, rfl, rfl, rfl, rfl, rfl, rfl, trivial⟩ (fun _ h => h.drop1)
        ·refine TC.skip (TQ.then (TC.seq (TC.region (TL.opP rfl (op_assign rfl) (TL.nil (TQ.then (TC.seq (TC.region (TL.opP rfl (op_move rfl) (TL.opP rfl (op_move rfl) (TL.opP rfl (op_add (r := ((i' + 1 : Nat) : Int)) rfl rfl (by omega) (by omega) (by omega)) (TL.opV rfl (op_index tsl_int32 rfl rw3 rfl (by omega) (by omega)) (TL.opV rfl (op_loadR ts_int32 rfl rw3 (lkM (i := i' + 1) (d := 0) (by omega) rfl (by omega))) (TL.opP rfl (op_assign rfl) (TL.nil (TQ.then (TC.seq (TC.region (TL.opP rfl (op_move rfl) (TL.opP rfl (op_eql rfl rfl) (TL.nil (TQ.then ?_))))))))))))))))))))))
         refine TC.sp rfl (fun c9 => ?_) (fun c9 => ?_)
         ·refine TC.region (TL.opP rfl (op_move rfl) ?_)
          refine TL.opX rfl (OpX.buildSlice (ps := #[(0, _)]) rfl (bs_int32_1 _)) ?_; rintro _ _ ⟨g84, rfl, rfl⟩
          refine TL.hp (fun _ h => blk_row (k := 1) (m := 1) h rfl (by decide)) (TL.hp (fun _ h => h.pick1) ?_)
          refine TL.opX rfl (OpX.append (bytes := 4) tsl_int32 (by decide) (by decide) rfl rw1 (i32_one1 _) (by omega) (zs := (out ++ [36]).map (Value.int .i32)) (by rw [List.map_append]; rfl)) ?_; rintro v6 _ rfl
          refine TL.know (fun _ h => row1 h) (fun o6 => (TL.hp (fun _ h => row_lenM h) (TL.opP rfl (op_assign rfl) (TL.nil (TQ.block_normal (TQ.then (TC.region (TL.opP rfl (op_add rfl rfl rfl (by omega) (by omega)) (TL.opP rfl (op_move rfl) (TL.nil ?_))))))))))
          exact TQ.round (i' + 1, out ++ [36], v6, true) (by (try dsimp only); exact ⟨by omega, by assumption, ⟨(fun h => by cases h), fun _ => ⟨by omega, fill_on (j := i' + 1 + 1) hl (by rw [fill_two (by omega), if_pos c7', if_pos c9]; rfl)⟩⟩⟩) (by show _ - _ < _ - i'; omega) ⟨rfl, rfl, rfl, rfl, rfl, rfl, rfl, rfl, rfl, rfl, rfl, rfl, rfl, rfl, trivial⟩ (fun _ h => h.drop1)
         ·refine TC.seq (TC.region (TL.opP rfl (op_move rfl) (TL.opP rfl (op_lss rfl rfl) (TL.opP rfl (op_move rfl) ?_))))
          refine TL.sp (fun c10 => ?_) (fun c10 => ?_)
          ·refine TL.gFt rfl rfl rfl (TL.gFt rfl rfl rfl (TL.opP rfl (op_pickT rfl rfl) (TL.nil (TQ.then (TC.condT rfl (TC.region (TL.opP rfl (op_move rfl) (TL.opP rfl (op_move rfl) (TL.opP rfl (op_move rfl) ?_)))))))))
           refine TL.opX rfl (OpX.buildSlice (ps := #[(0, _), (1, _)]) rfl (bs_int32_2 _ _)) ?_; rintro _ _ ⟨g95, rfl, rfl⟩
           refine TL.hp (fun _ h => blk_row (k := 1) (m := 2) h rfl (by decide)) (TL.hp (fun _ h => h.pick1) ?_)
           refine TL.opX rfl (OpX.append (bytes := 4) tsl_int32 (by decide) (by decide) rfl rw1 (i32_one2 _ _) (by omega) (zs := (out ++ [(dec q).getD i' 0, (dec q).getD (i' + 1) 0]).map (Value.int .i32)) (by rw [List.map_append]; rfl)) ?_; rintro v7 _ rfl
           refine TL.know (fun _ h => row1 h) (fun o7 => (TL.hp (fun _ h => row_lenM h) (TL.opP rfl (op_assign rfl) (TL.nil (TQ.block_normal (TQ.then (TC.region (TL.opP rfl (op_add rfl rfl rfl (by omega) (by omega)) (TL.opP rfl (op_move rfl) (TL.nil ?_))))))))))
           exact TQ.round (i' + 1, out ++ [(dec q).getD i' 0, (dec q).getD (i' + 1) 0], v7, true) (by (try dsimp only); exact ⟨by omega, by assumption, ⟨(fun h => by cases h), fun _ => ⟨by omega, fill_on (j := i' + 1 + 1) hl (by rw [fill_two (by omega), if_pos c7', if_neg c9, if_neg (by omega)]; rfl)⟩⟩⟩) (by show _ - _ < _ - i'; omega) ⟨rfl, rfl, rfl, rfl, rfl, rfl, rfl, rfl, rfl, rfl, rfl, rfl, rfl, rfl, trivial⟩ (fun _ h => h.drop1)
          ·refine TL.gT rfl rfl (TL.opP rfl (op_move rfl) (TL.gT rfl rfl (TL.opP rfl (op_gtr rfl rfl) (TL.opP rfl (op_pickF rfl rfl) (TL.nil (TQ.then ?_))))))
           refine TC.sp rfl (fun c11 => ?_) (fun c11 => ?_)
           ·refine TC.region (TL.opP rfl (op_move rfl) (TL.opP rfl (op_move rfl) (TL.opP rfl (op_move rfl) ?_)))
            refine TL.opX rfl (OpX.buildSlice (ps := #[(0, _), (1, _)]) rfl (bs_int32_2 _ _)) ?_; rintro _ _ ⟨g95, rfl, rfl⟩
            refine TL.hp (fun _ h => blk_row (k := 1) (m := 2) h rfl (by decide)) (TL.hp (fun _ h => h.pick1) ?_)
            refine TL.opX rfl (OpX.append (bytes := 4) tsl_int32 (by decide) (by decide) rfl rw1 (i32_one2 _ _) (by omega) (zs := (out ++ [(dec q).getD i' 0, (dec q).getD (i' + 1) 0]).map (Value.int .i32)) (by rw [List.map_append]; rfl)) ?_; rintro v8 _ rfl
            refine TL.know (fun _ h => row1 h) (fun o8 => (TL.hp (fun _ h => row_lenM h) (TL.opP rfl (op_assign rfl) (TL.nil (TQ.block_normal (TQ.then (TC.region (TL.opP rfl (op_add rfl rfl rfl (by omega) (by omega)) (TL.opP rfl (op_move rfl) (TL.nil ?_))))))))))
            exact TQ.round (i' + 1, out ++ [(dec q).getD i' 0, (dec q).getD (i' + 1) 0], v8, true) (by (try dsimp only); exact ⟨by omega, by assumption, ⟨(fun h => by cases h), fun _ => ⟨by omega, fill_on (j := i' + 1 + 1) hl (by rw [fill_two (by omega), if_pos c7', if_neg c9, if_neg (by omega)]; rfl)⟩⟩⟩) (by show _ - _ < _ - i'; omega) ⟨rfl, rfl, rfl, rfl, rfl, rfl, rfl, rfl, rfl, rfl, rfl, rfl, rfl, rfl, trivial⟩ (fun _ h => h.drop1)
           ·obtain ⟨u, hu⟩ : ∃ u : Nat, (dec q).getD (i' + 1) 0 = u + 48 := ⟨((dec q).getD (i' + 1) 0 - 48).toNat, by omega⟩
            have hu2 : ((dec q).getD (i' + 1) 0 - 48).toNat = u := by omega
            have hft : fillGo (txF s) x.1 ((dec q).drop i') = grpT (txF s) x.1 u ++ fillGo (txF s) x.1 ((dec q).drop (i' + 1 + 1)) := by rw [fill_two (by omega), if_pos c7', if_neg c9, if_pos ⟨by omega, by omega⟩, hu2]
            refine TC.seq (TC.region (TL.opP rfl (op_move rfl) (TL.opP rfl (op_subK rfl rfl) (TL.opP rfl (op_int un_int rfl rfl) ?_))))
            rw [wrap_rune (by omega) (by omega)]
            refine TL.opP rfl (op_assign rfl) (TL.nil (TQ.then (TC.seq (TC.region (TL.opP rfl (op_move rfl) (TL.opP rfl (op_mul (r := ((2 * u : Nat) : Int)) rfl rfl (by omega) (by omega) (by omega)) (TL.opP rfl (op_add (r := ((2 * u + 1 : Nat) : Int)) rfl rfl (by omega) (by omega) (by omega)) (TL.opP rfl (op_move rfl) (TL.opV rfl (op_lenV rfl un_sl_int rfl (rdb_fz m5 hrd)) (TL.opP rfl (op_lss rfl rfl) (TL.opP rfl (op_move rfl) ?_)))))))))))
            refine TL.sp (fun c12 => ?_) (fun c12 => ?_)
            ·refine TL.gT rfl rfl (TL.opP rfl (op_move rfl) (TL.gT rfl rfl (TL.opP rfl (op_move rfl) (TL.gT rfl rfl (TL.opP rfl (op_mul (r := ((2 * u : Nat) : Int)) rfl rfl (by omega) (by omega) (by omega)) (TL.gT rfl rfl (TL.opV rfl (op_index tsl_int rfl (rdb_fz m5 hrd) rfl (by omega) (by omega)) (TL.gT rfl rfl (TL.opV rfl (op_loadR ts_int rfl (rdb_fz m5 hrd) (lkM (f := Value.int .i64) (i := 2 * u) (d := 0) (by omega) rfl (by omega))) (TL.gT rfl rfl (TL.opP rfl (op_geq rfl rfl) (TL.opP rfl (op_pickT rfl rfl) (TL.opP rfl (op_move rfl) ?_)))))))))))))
             refine TL.sp (fun c13 => ?_) (fun c13 => ?_)
             ·refine TL.gT rfl rfl (TL.opP rfl (op_move rfl) (TL.gT rfl rfl (TL.opP rfl (op_move rfl) (TL.gT rfl rfl (TL.opP rfl (op_mul (r := ((2 * u : Nat) : Int)) rfl rfl (by omega) (by omega) (by omega)) (TL.gT rfl rfl (TL.opP rfl (op_add (r := ((2 * u + 1 : Nat) : Int)) rfl rfl (by omega) (by omega) (by omega)) (TL.gT rfl rfl (TL.opV rfl (op_index tsl_int rfl (rdb_fz m5 hrd) rfl (by omega) (by omega)) (TL.gT rfl rfl (TL.opV rfl (op_loadR ts_int rfl (rdb_fz m5 hrd) (lkM (f := Value.int .i64) (i := 2 * u + 1) (d := 0) (by omega) rfl (by omega))) (TL.gT rfl rfl (TL.opP rfl (op_geq rfl rfl) (TL.opP rfl (op_pickT rfl rfl) (TL.nil (TQ.then ?_))))))))))))))))
              refine TC.sp rfl (fun c14 => ?_) (fun c14 => ?_)
              ·have hok2 := hF.grp u (by omega)
               have hv1 := hF.val _ (getD_mem' (l := x.1) (i := 2 * u) (by omega))
               have hv2 := hF.val _ (getD_mem' (l := x.1) (i := 2 * u + 1) (by omega))
               unfold okG at hok2
               obtain ⟨b0, hb0⟩ : ∃ b : Nat, x.1.getD (2 * u) 0 = b := ⟨(x.1.getD (2 * u) 0).toNat, by omega⟩
               obtain ⟨e0, he0⟩ : ∃ e : Nat, x.1.getD (2 * u + 1) 0 = e := ⟨(x.1.getD (2 * u + 1) 0).toNat, by omega⟩
               have hgt : grpT (txF s) x.1 u = ((txF s).drop b0).take (e0 - b0) := by unfold grpT; rw [if_pos ⟨by omega, by omega, by omega⟩, hb0, he0]; rfl
               refine TC.draw [14] (.cons (.p, 0) (.cons (.p, 1) (.cons (.p, 2) (.cons (.p, 3) (.cons (.p, 4) (.cons (.p, 7) (.cons (.p, 8) (.cons (.p, 9) (.cons (.p, 10) (.cons (.t, 5) (.cons (.t, 6) (.cons (.t, 11) (.cons (.t, 12) (.cons (.t, 13) (.cons (.z, 14) (.cons (.p, 15) (.nil))))))))))))))))) mo (by kernel_rfl) (TR.p rfl rfl wt0 (op_move rfl) (TR.p rfl rfl wt0 (op_move rfl) (TR.p rfl rfl wt0 (op_move rfl) (TR.p rfl rfl wt0 (op_move rfl) (TR.p rfl rfl wt0 (op_mul (r := ((2 * u : Nat) : Int)) rfl rfl (by omega) (by omega) (by omega)) (TR.p rfl rfl wt0 (op_move rfl) (TR.p rfl rfl wt0 (op_move rfl) (TR.p rfl rfl wt0 (op_mul (r := ((2 * u : Nat) : Int)) rfl rfl (by omega) (by omega) (by omega)) (TR.p rfl rfl wt0 (op_add (r := ((2 * u + 1 : Nat) : Int)) rfl rfl (by omega) (by omega) (by omega)) ?_)))))))))
               refine TR.t rfl rfl wt0 (op_index tsl_int rfl (rdb_fz m5 hrd) rfl (by omega) (by omega)) (fun _ h => h) (TR.t rfl rfl wt0 (op_loadR ts_int rfl (rdb_fz m5 hrd) (lkM (f := Value.int .i64) (i := 2 * u) (d := 0) (by omega) rfl (by omega))) (fun _ h => h) (TR.t rfl rfl wt0 (op_index tsl_int rfl (rdb_fz m5 hrd) rfl (by omega) (by omega)) (fun _ h => h) (TR.t rfl rfl wt0 (op_loadR ts_int rfl (rdb_fz m5 hrd) (lkM (f := Value.int .i64) (i := 2 * u + 1) (d := 0) (by omega) rfl (by omega))) (fun _ h => h) (TR.t rfl rfl wt0 (op_cut b0 e0 tsl_int32 rfl rw2 (vlo := (some _)) (vhi := (some _)) rfl rfl (.inr ⟨_, _, rfl, by omega⟩) (.inr ⟨_, _, rfl, by omega⟩) (by omega) (by omega)) (fun _ h => h) ?_))))
               refine TR.z rfl rfl wt0 (OpX.append (bytes := 4) tsl_int32 (by decide) (by decide) rfl (ints_cut rw2 b0 e0 (by omega) (by omega)) (ints_oneK _) (by omega) (zs := (out ++ grpT (txF s) x.1 u).map (Value.int .i32)) (by rw [List.map_append, hgt])) ?_; rintro v9 _ rfl
               refine TR.know (fun _ h => row1 h) (fun o9 => (TR.hp (fun _ h => row_lenM h) (TR.p rfl rfl wt0 (op_assign rfl) (TR.nil (TQ.block_normal (TQ.then (TC.region (TL.opP rfl (op_add rfl rfl rfl (by omega) (by omega)) (TL.opP rfl (op_move rfl) (TL.nil ?_))))))))))
               exact TQ.round (i' + 1, out ++ grpT (txF s) x.1 u, v9, true) (by (try dsimp only); exact ⟨by omega, by assumption, ⟨(fun h => by cases h), fun _ => ⟨by omega, fill_on hl hft⟩⟩⟩) (by show _ - _ < _ - i'; omega) ⟨rfl, rfl, rfl, rfl, rfl, rfl, rfl, rfl, rfl, rfl, rfl, rfl, rfl, rfl, trivial⟩ (fun _ h => h)
              ·refine TC.skip (TQ.block_normal (TQ.then (TC.region (TL.opP rfl (op_add rfl rfl rfl (by omega) (by omega)) (TL.opP rfl (op_move rfl) (TL.nil ?_))))))
               exact TQ.round (i' + 1, out, ov, true) (by (try dsimp only); exact ⟨by omega, by assumption, ⟨(fun h => by cases h), fun _ => ⟨by omega, by rw [← hl, hft, show grpT (txF s) x.1 u = [] from if_neg (by omega)]; rfl⟩⟩⟩) (by show _ - _ < _ - i'; omega) ⟨rfl, rfl, rfl, rfl, rfl, rfl, rfl, rfl, rfl, rfl, rfl, rfl, rfl, rfl, trivial⟩ (fun _ h => h)
             ·refine TL.gFf rfl rfl rfl (TL.gFf rfl rfl rfl (TL.gFf rfl rfl rfl (TL.gFf rfl rfl rfl (TL.gFf rfl rfl rfl (TL.gFf rfl rfl rfl (TL.gFf rfl rfl rfl (TL.opP rfl (op_pickF rfl rfl) (TL.nil (TQ.then (TC.condF rfl (TC.skip (TQ.block_normal (TQ.then (TC.region (TL.opP rfl (op_add rfl rfl rfl (by omega) (by omega)) (TL.opP rfl (op_move rfl) (TL.nil ?_)))))))))))))))))
              exact TQ.round (i' + 1, out, ov, true) (by (try dsimp only); exact ⟨by omega, by assumption, ⟨(fun h => by cases h), fun _ => ⟨by omega, by rw [← hl, hft, show grpT (txF s) x.1 u = [] from if_neg (by omega)]; rfl⟩⟩⟩) (by show _ - _ < _ - i'; omega) ⟨rfl, rfl, rfl, rfl, rfl, rfl, rfl, rfl, rfl, rfl, rfl, rfl, rfl, rfl, trivial⟩ (fun _ h => h)
            ·refine TL.gFf rfl rfl rfl (TL.gFf rfl rfl rfl (TL.gFf rfl rfl rfl (TL.gFf rfl rfl rfl (TL.gFf rfl rfl rfl (TL.gFf rfl rfl rfl (TL.opP rfl (op_pickF rfl rfl) (TL.opP rfl (op_move rfl) (TL.gFf rfl rfl rfl (TL.gFf rfl rfl rfl (TL.gFf rfl rfl rfl (TL.gFf rfl rfl rfl (TL.gFf rfl rfl rfl (TL.gFf rfl rfl rfl (TL.gFf rfl rfl rfl (TL.opP rfl (op_pickF rfl rfl) (TL.nil (TQ.then (TC.condF rfl (TC.skip (TQ.block_normal (TQ.then (TC.region (TL.opP rfl (op_add rfl rfl rfl (by omega) (by omega)) (TL.opP rfl (op_move rfl) (TL.nil ?_)))))))))))))))))))))))))
             exact TQ.round (i' + 1, out, ov, true) (by (try dsimp only); exact ⟨by omega, by assumption, ⟨(fun h => by cases h), fun _ => ⟨by omega, by rw [← hl, hft, show grpT (txF s) x.1 u = [] from if_neg (by omega)]; rfl⟩⟩⟩) (by show _ - _ < _ - i'; omega) ⟨rfl, rfl, rfl, rfl, rfl, rfl, rfl, rfl, rfl, rfl, rfl, rfl, rfl, rfl, trivial⟩ (fun _ h => h)
     ·have hT := hout.all (by omega)
      subst hT
      refine TC.exit (TQ.then_exit (TQ.loop_exit (TQ.block_hit (TQ.then (TC.seq (TC.region (TL.opP rfl (op_move rfl) (TL.opP rfl (op_move rfl) (TL.opV rfl (op_lenV rfl un_sl_int32 rfl rw0) (TL.opP rfl (op_add (r := ((n + (fillGo (txF s) x.1 (dec q)).length : Nat) : Int)) rfl rfl (by omega) (by omega) (by omega)) (TL.opP rfl (op_assign rfl) (TL.nil (TQ.then (TC.seq (TC.seq (TC.region (TL.opP rfl (op_move rfl) (TL.opP rfl (op_gtr rfl rfl) (TL.nil (TQ.then ?_))))))))))))))))))))
      refine TC.sp rfl (fun c15 => ?_) (fun c15 => ?_)
      ·refine TC.seq (TC.region (TL.opP rfl (op_assign rfl) (TL.opP rfl (op_assign rfl) (TL.nil (TQ.then (TC.ret (TQ.then_ret (TQ.block_ret (TQ.then_ret (TQ.loop_ret (TQ.block_ret (TQ.then_ret ?_))))))))))))
       refine ret2 rfl rfl rfl (fun w' hp => ?_)
       first
         | exact ⟨_, _, rfl, ⟨rsA1, nilS, by (rw [mswE_d h0 hv (by omega) (by rw [← hall2, I.eq, hd1, msw_big (by omega)]; rfl)]; first | done | rfl), hsA1, by rw [mswF_no (by rw [mswE_d h0 hv (by omega) (by rw [← hall2, I.eq, hd1, msw_big (by omega)]; rfl)]; decide)]; rfl⟩, (hp.drop4.drop3.drop2.drop1.tail)⟩
         | exact ⟨_, _, rfl, ⟨rsA1, nilS, by (rw [mswE_d h0 hv (by omega) (by rw [← hall2, I.eq, hd1, msw_big (by omega)]; rfl)]; first | done | rfl), hsA1, by rw [mswF_no (by rw [mswE_d h0 hv (by omega) (by rw [← hall2, I.eq, hd1, msw_big (by omega)]; rfl)]; decide)]; rfl⟩, new_nil _ 3 (hp.drop4.drop3.drop2.drop1.tail)⟩
      ·refine TC.skip (TQ.then (TC.seq (TC.draw [21] (.cons (.p, 0) (.cons (.p, 1) (.cons (.p, 4) (.cons (.p, 7) (.cons (.p, 9) (.cons (.p, 12) (.cons (.p, 15) (.cons (.t, 2) (.cons (.t, 3) (.cons (.p, 5) (.cons (.p, 6) (.cons (.t, 8) (.cons (.t, 10) (.cons (.p, 11) (.cons (.t, 13) (.cons (.t, 14) (.cons (.t, 16) (.cons (.t, 17) (.cons (.p, 18) (.cons (.p, 19) (.cons (.o, 20) (.cons (.z, 21) (.cons (.p, 22) (.nil)))))))))))))))))))))))) mo (by kernel_rfl) (TR.p rfl rfl wt0 (op_move rfl) (TR.p rfl rfl wt0 (op_move rfl) (TR.p rfl rfl wt0 (op_move rfl) (TR.p rfl rfl wt0 (op_move rfl) (TR.p rfl rfl wt0 (op_move rfl) (TR.p rfl rfl wt0 (op_move rfl) (TR.p rfl rfl wt0 (op_move rfl) (TR.t rfl rfl wt0 (op_index tsl_int rfl (rdb_fz m5 hrd) rfl (by omega) (by omega)) (fun _ h => h) ?_)))))))))))
       refine TR.t rfl rfl wt0 (op_loadR ts_int rfl (rdb_fz m5 hrd) (lkM (f := Value.int .i64) (i := 0) (d := 0) (by omega) g4 (by omega))) (fun _ h => h) (TR.p rfl rfl wt0 (op_sub rfl rfl rfl (by omega) (by omega)) (TR.p rfl rfl wt0 (op_build (ps := #[(0, _), (1, _)]) rfl (bl_api_Part_01 _ _)) (TR.t rfl rfl wt0 (op_lenV rfl un_sl_int32 rfl rw0) (fun _ h => h) (TR.t rfl rfl wt0 (op_unrunes tsl_int32 un_int32 un_string rfl rw0) (fun _ h => h) (TR.p rfl rfl wt0 (op_build (ps := #[(0, _), (1, _), (2, _)]) rfl (bl_api_Part_012 _ _ _)) (TR.t rfl rfl wt0 (op_index tsl_int rfl (rdb_fz m5 hrd) rfl (by omega) (by omega)) (fun _ h => h) (TR.t rfl rfl wt0 (op_loadR ts_int rfl (rdb_fz m5 hrd) (lkM (f := Value.int .i64) (i := 1) (d := 0) (by omega) g5 (by omega))) (fun _ h => h) ?_)))))))
       refine TR.t rfl rfl wt0 (op_index tsl_int rfl (rdb_fz m5 hrd) rfl (by omega) (by omega)) (fun _ h => h) (TR.t rfl rfl wt0 (op_loadR ts_int rfl (rdb_fz m5 hrd) (lkM (f := Value.int .i64) (i := 0) (d := 0) (by omega) g4 (by omega))) (fun _ h => h) (TR.p rfl rfl wt0 (op_sub rfl rfl rfl (by omega) (by omega)) (TR.p rfl rfl wt0 (op_build (ps := #[(0, _), (1, _)]) rfl (bl_api_Part_01 _ _)) ?_)))
       refine TR.o rfl rfl wt0 (OpX.buildSlice (ps := #[(0, _), (1, _), (2, _)]) rfl (bs_api_Part_3 (keepP ((i : Int) - a)) ⟨2, ((fillGo (txF s) x.1 (dec q)).length : Int), enc (fillGo (txF s) x.1 (dec q))⟩ (dropP ((j : Int) - i)))) (by rintro _ _ ⟨g165, rfl, rfl⟩; intro w h; exact h.tail) ?_; rintro _ _ ⟨g165, rfl, rfl⟩
       refine TR.hp (fun _ h => blk_row (k := 3) (m := 3) h rfl (by decide)) (TR.hp (fun _ h => h.pick2) ?_)
       refine TR.z rfl rfl wt0 (OpX.append (bytes := 32) tsl_api_Part (by decide) (by decide) rfl rw1 (encs_one _) (by omega) (zs := encs (ps ++ [keepP ((i : Int) - a), ⟨2, ((fillGo (txF s) x.1 (dec q)).length : Int), enc (fillGo (txF s) x.1 (dec q))⟩, dropP ((j : Int) - i)])) (encs_append _ _).symm) ?_; rintro v10 _ rfl
       refine TR.know (fun _ h => row1 h) (fun o10 => (TR.hp (fun _ h => row_lenP3 h) (TR.p rfl rfl wt0 (op_assign rfl) (TR.nil (TQ.then (TC.region (TL.opP rfl (op_move rfl) (TL.opV rfl (op_index tsl_int rfl (rdb_fz m6 hrd) rfl (by omega) (by omega)) (TL.opV rfl (op_loadR ts_int rfl (rdb_fz m6 hrd) (lkM (f := Value.int .i64) (i := 1) (d := 0) (by omega) g5 (by omega))) (TL.opP rfl (op_assign rfl) (TL.nil (TQ.block_normal (TQ.then (TC.region (TL.opP rfl (op_add rfl rfl rfl (by omega) (by omega)) (TL.opP rfl (op_move rfl) (TL.nil ?_)))))))))))))))))
       exact TQ.round (k + 1, (ps ++ [keepP ((i : Int) - a), ⟨2, ((fillGo (txF s) x.1 (dec q)).length : Int), enc (fillGo (txF s) x.1 (dec q))⟩, dropP ((j : Int) - i)]), v10, j, n + (fillGo (txF s) x.1 (dec q)).length) (by (try dsimp only); exact ⟨by omega, I.next (r := []) hd1 g4 g5 hR (by omega) hsz (by assumption)⟩) (by show _ - (k + 1) < _ - k; omega) ⟨rfl, rfl, rfl, rfl, rfl, rfl, rfl, rfl, trivial⟩ (fun _ h => h.drop2.drop1)
    ·have hfin : mswGo (txF s) (dec q) (allF pg G (txF s)) 0 0 = some (ps ++ [keepP (((txF s).length : Int) - a)]) := by rw [← hall2, I.eq, List.drop_of_length_le (by rw [List.length_map]; omega), msw_nil]; rfl
     have hE := mswE_e (pg := pg) (G := G) h0 hv (by omega) hfin
     have hsm : ∀ p ∈ ps ++ [keepP (((txF s).length : Int) - a)], p.text.size < 9223372036854775807 := fun p hp => by
       rcases List.mem_append.1 hp with hp | hp
       · exact I.small p hp
       · rw [List.mem_singleton.1 hp]; (show (0 : Nat) < 9223372036854775807; decide)
     refine TC.exit (TQ.then_exit (TQ.loop_exit (TQ.block_hit (TQ.then (TC.seq (TC.region (TL.opP rfl (op_move rfl) (TL.opP rfl (op_move rfl) (TL.opV rfl (op_lenV rfl un_sl_int32 rfl rw1) (TL.opP rfl (op_move rfl) (TL.opP rfl (op_sub rfl rfl rfl (by omega) (by omega)) (TL.opP rfl (op_build (ps := #[(0, _), (1, _)]) rfl (bl_api_Part_01 _ _)) ?_))))))))))))
     refine TL.opX rfl (OpX.buildSlice (ps := #[(0, _)]) rfl (bs_api_Part_1 (keepP (((txF s).length : Int) - a)))) ?_; rintro _ _ ⟨g177, rfl, rfl⟩
     refine TL.hp (fun _ h => blk_row (k := 3) (m := 1) h rfl (by decide)) (TL.hp (fun _ h => h.pick1) ?_)
     refine TL.opX rfl (OpX.append (bytes := 32) tsl_api_Part (by decide) (by decide) rfl rw1 (encs_one _) (by omega) (zs := encs (ps ++ [keepP (((txF s).length : Int) - a)])) (encs_append _ _).symm) ?_; rintro v11 _ rfl
     refine TL.know (fun _ h => row1 h) (fun o11 => (TL.hp (fun _ h => row_lenP3 h) ?_))
     refine TL.opX rfl (OpX.callX en_80 rfl (rnorm_x (ps ++ [keepP (((txF s).length : Int) - a)]) _ hsm (by rw [List.length_append, List.length_singleton]; omega) rw0)) ?_; rintro _ _ ⟨nv12, rfl, rfl⟩
     refine TL.opP rfl (op_assign rfl) (TL.opP rfl (op_assign rfl) (TL.nil (TQ.then (TC.ret ?_))))
     refine ret2 rfl rfl rfl (fun w' hp => ?_)
     first
       | exact ⟨_, _, rfl, ⟨rsA1, _, by rw [hE], hsA1, by rw [mswF_is hE hfin, norm_same]⟩, (hp.drop5.drop4.drop3.drop2.drop1)⟩
       | exact ⟨_, _, rfl, ⟨rsA1, _, by rw [hE], hsA1, by rw [mswF_is hE hfin, norm_same]⟩, new_nil _ 3 (hp.drop5.drop4.drop3.drop2.drop1)⟩

end Go.SK
