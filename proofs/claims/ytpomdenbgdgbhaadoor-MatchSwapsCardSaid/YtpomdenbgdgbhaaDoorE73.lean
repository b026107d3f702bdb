/- Walks: layer 12, what stands for what is found. -/
import Derived.Test.YtpomdenbgdgbhaaDoorE72
import Derived.Test.YtpomdenbgdgbhaaDoorML
set_option linter.unusedVariables false
set_option linter.unusedSimpArgs false
set_option maxRecDepth 100000
namespace Go.SK
open Go Go.RowKit Go.Proofs
variable {S : Nat → Prop} {w0 : World} {F L : List Res}
theorem bs_api_Part_3 (p q r : Part) : ∀ w : World, (Instr.buildSlice 36 3 #[(0, p.val), (1, q.val), (2, r.val)]).run Tryd.prog w = .ok (.slice (some ⟨w.heap.size, 0, none⟩) 3 3) (w.alloc (.cells (encs [p, q, r]).toArray 104 (0, 0))) := by
  intro w; kernel_rfl
/-- The edit, and what hinders it. -/
def mswE (pg : List StP) (G : Nat) (s q : ByteArray) : Int := if txE s ≠ 0 then txE s else if valid q = false then 21 else if 4096 < (dec q).length then 4 else if mswGo (txF s) (dec q) (allF pg G (txF s)) 0 0 = none then 4 else 0
def mswF (pg : List StP) (G : Nat) (s q : ByteArray) : List Part := if mswE pg G s q ≠ 0 then [] else normF ((mswGo (txF s) (dec q) (allF pg G (txF s)) 0 0).getD [])
section
variable {pg : List StP} {G : Nat} {s q : ByteArray}
theorem mswE_a (h : txE s ≠ 0) : mswE pg G s q = txE s := if_pos h
theorem mswE_b (h : ¬ txE s ≠ 0) (h2 : valid q = false) : mswE pg G s q = 21 := (if_neg h).trans (if_pos h2)
theorem mswE_c (h : ¬ txE s ≠ 0) (h2 : valid q = true) (h3 : 4096 < (dec q).length) : mswE pg G s q = 4 := (if_neg h).trans ((if_neg (by rw [h2]; decide)).trans (if_pos h3))
theorem mswE_d (h : ¬ txE s ≠ 0) (h2 : valid q = true) (h3 : ¬ 4096 < (dec q).length) (h4 : mswGo (txF s) (dec q) (allF pg G (txF s)) 0 0 = none) : mswE pg G s q = 4 := (if_neg h).trans ((if_neg (by rw [h2]; decide)).trans ((if_neg h3).trans (if_pos h4)))
theorem mswE_e (h : ¬ txE s ≠ 0) (h2 : valid q = true) (h3 : ¬ 4096 < (dec q).length) {x : List Part} (h4 : mswGo (txF s) (dec q) (allF pg G (txF s)) 0 0 = some x) : mswE pg G s q = 0 := (if_neg h).trans ((if_neg (by rw [h2]; decide)).trans ((if_neg h3).trans (if_neg (by rw [h4]; simp))))
theorem mswF_no (h : mswE pg G s q ≠ 0) : mswF pg G s q = [] := if_pos h
theorem mswF_is (h : mswE pg G s q = 0) {x : List Part} (h4 : mswGo (txF s) (dec q) (allF pg G (txF s)) 0 0 = some x) : mswF pg G s q = normF x := (if_neg (fun e => e h)).trans (by rw [h4]; rfl)
end
theorem row_lenP3 {w : World} {v : Value} {e m : Nat} {ps : List Part} (h : Hp S w0 w (.row v e 3 m (encs ps) :: L)) : Hp S w0 w (.row v e 3 ps.length (encs ps) :: L) := by
  have h1 : w.ownsRow 0 e 3 v m (encs ps) := h.at_ _ (.head _)
  have h2 : ps.length = m := by have := h1.1; rw [encs_length, show Enc.sz Part = 3 from rfl] at this; omega
  rw [h2]; exact h
theorem drop_AM {am : List AM} {k : Nat} (h : k < am.length) : (am.map Prod.fst).drop k = (am.getD k ([], nilS)).1 :: (am.map Prod.fst).drop (k + 1) ∧ am.getD k ([], nilS) ∈ am := by
  have h' : k < (am.map Prod.fst).length := by rw [List.length_map]; exact h
  rw [List.drop_eq_getElem_cons h', List.getD_eq_getElem?_getD, List.getElem?_eq_getElem h]
  exact ⟨by simp, List.getElem_mem h⟩
theorem allGo_len {pg : List StP} {G : Nat} {tx : List Int} : ∀ (d p : Nat), (allGo pg G tx d p).length ≤ d
  | 0, p => Nat.le_refl _
  | d + 1, p => by
    rw [allGo]
    split
    · exact Nat.zero_le _
    · split
      · exact Nat.zero_le _
      · exact Nat.succ_le_succ (allGo_len d _)
theorem msw_start (tx w : List Int) (l : List (List Int)) : mswGo tx w l 0 0 = (mswGo tx w (l.drop 0) ((0 : Nat) : Int) 0).map (([] : List Part) ++ ·) := by
  show _ = (mswGo tx w l 0 0).map _
  cases mswGo tx w l 0 0 <;> simp
structure SwI (tx w : List Int) (all : List (List Int)) (G : Nat) (k : Nat) (ps : List Part) (pv : Value) (a n : Nat) : Prop where
  one : pv.oneCell' = true
  n1 : n ≤ 1048576
  len : ps.length = 3 * k
  small : ∀ p ∈ ps, p.text.size < 9223372036854775807
  ris : Ris tx.length G a (all.drop k)
  eq : mswGo tx w all 0 0 = (mswGo tx w (all.drop k) (a : Int) n).map (ps ++ ·)
theorem Ris.a_le {n g a : Nat} {l : List (List Int)} (h : Ris n g a l) : a ≤ n := by cases h <;> omega
theorem SwI.next {tx w : List Int} {all : List (List Int)} {G k : Nat} {ps : List Part} {pv pv' : Value} {a n : Nat} {f : List Int} {r : List (List Int)} {i j : Nat} (I : SwI tx w all G k ps pv a n) (hd : all.drop k = f :: all.drop (k + 1)) (h0 : f.getD 0 0 = i) (h1 : f.getD 1 0 = j) (hR : Ris tx.length G j (all.drop (k + 1))) (hn : ¬ 1048576 < n + (fillGo tx f w).length) (hs : (enc (fillGo tx f w)).size < 9223372036854775807) (ho : pv'.oneCell' = true) :
    SwI tx w all G (k + 1) (ps ++ [keepP ((i : Int) - a), ⟨2, ((fillGo tx f w).length : Int), enc (fillGo tx f w)⟩, dropP ((j : Int) - i)]) pv' j (n + (fillGo tx f w).length) := by
  refine ⟨ho, by omega, by rw [List.length_append, I.len]; simp; omega, fun p hp => ?_, hR, ?_⟩
  · rcases List.mem_append.1 hp with hp | hp
    · exact I.small p hp
    · simp only [List.mem_cons, List.not_mem_nil, or_false] at hp
      rcases hp with rfl | rfl | rfl
      · (show (0 : Nat) < 9223372036854775807; decide)
      · exact hs
      · (show (0 : Nat) < 9223372036854775807; decide)
  · rw [I.eq, hd, msw_on hn, h0, h1, Option.map_map]
    congr 1
    funext x
    simp
theorem mswap_x (pg : List StP) (G : Nat) (rs : List Res) (ms : List MS) (lv : Value) (pa : Nat) (hG : PgG pg G) (hpgm : ms.map Prod.fst = pg) (hmok : ∀ m ∈ ms, MsOk rs m) (hpat : Res.blk pa (.cells [lv, .int .i64 (G : Int), .bool true].toArray 81 (0, 0)) ∈ rs) (hstp : Res.rd lv 5 ms.length (msC ms) ∈ rs) (hpl : pg.length ≤ 3000) (hG2 : G ≤ 200) (hT : tabs ∈ F) (s q : ByteArray) (hs : s.size ≤ 1048576) (hq : q.size ≤ 1048576) :
    CallX Tryd.prog 52 [ptrV pa, .string s, .string q] S w0 (fz rs :: F) (fun u L' => ∃ rs' v', u = .tuple #[v', .int .i64 (mswE pg G s q)] ∧ rs ⊆ rs' ∧ L' = .row v' 104 3 (mswF pg G s q).length (encs (mswF pg G s q)) :: fz rs' :: F) := by
 intro w hp
 have htl := txF_len s
 have hdq := dec_len q
 have hds := dec_len s
 refine calls_start Tryd.func52 rfl rfl rfl (hp) ?_
 refine TC.seq (TC.region (TL.as rfl rfl (TL.as rfl rfl (TL.nil (TQ.then (TC.seq (TC.region (TL.mv rfl rfl (TL.opP rfl (op_move rfl) ?_)))))))))
 refine TL.opX rfl (OpX.callX en_57 rfl (mall_x pg G rs ms lv pa hG hpgm hmok hpat hstp hpl hG2 hT s (by omega))) ?_; rintro _ _ ⟨rsA1, av1, am1, rfl, hsA1, hall1, hok1, ho1, rfl⟩
 refine TL.mv rfl rfl (TL.opP rfl (op_extract rfl rfl) (TL.opP rfl (op_extract rfl rfl) (TL.as rfl rfl (TL.as rfl rfl (TL.nil (TQ.then (TC.seq (TC.seq (TC.region (TL.mv rfl rfl (TL.opP rfl (op_neq rfl rfl) (TL.nil (TQ.then ?_)))))))))))))
 refine TC.sp rfl (fun c1 => ?_) (fun c1 => ?_)
 ·refine TC.seq (TC.region (TL.mv rfl rfl (TL.as rfl rfl (TL.as rfl rfl (TL.nil (TQ.then (TC.ret (TQ.then_ret ?_))))))))
  refine ret2 rfl rfl rfl (fun w' hp => ?_)
  exact ⟨_, _, rfl, ⟨rsA1, nilS, by (rw [mswE_a c1]; first | done | rfl), hsA1, by rw [mswF_no (by rw [mswE_a c1]; exact c1)]; rfl⟩, new_nil _ 3 (hp.tail)⟩
 ·have h0 : ¬ txE s ≠ 0 := c1
  have hts : txF s = dec s := txF_is (Classical.not_not.1 h0)
  have hall2 : am1.map Prod.fst = allF pg G (txF s) := hall1.trans (if_neg h0)
  refine TC.skip (TQ.then (TC.seq (TC.seq (TC.region (TL.mv rfl rfl (TL.callq rfl en_18 rfl (fun w2 hp => valid_calls q w2 (tabs_at hp (.tail _ (.tail _ hT))) (by omega)) (TL.opP rfl (op_not rfl rfl) (TL.nil (TQ.then ?_)))))))))
  refine TC.sp rfl (fun c2 => ?_) (fun c2 => ?_)
  ·have hv : valid q = false := by simpa using c2
   refine TC.seq (TC.region (TL.as rfl rfl (TL.as rfl rfl (TL.nil (TQ.then (TC.ret (TQ.then_ret ?_)))))))
   refine ret2 rfl rfl rfl (fun w' hp => ?_)
   exact ⟨_, _, rfl, ⟨rsA1, nilS, by (rw [mswE_b h0 hv]; first | done | rfl), hsA1, by rw [mswF_no (by rw [mswE_b h0 hv]; decide)]; rfl⟩, new_nil _ 3 (hp.tail)⟩
  ·have hv : valid q = true := by simpa using c2
   refine TC.skip (TQ.then (TC.seq (TC.region (TL.opP rfl (op_move rfl) ?_))))
   refine TL.opX rfl (OpX.runes un_string tsl_int32 un_int32 rfl (by omega)) ?_; rintro v2 _ rfl
   refine TL.know (fun _ h => row1 h) (fun o2 => (TL.opP rfl (op_move rfl) ?_))
   refine TL.opX rfl (OpX.runes un_string tsl_int32 un_int32 rfl (by omega)) ?_; rintro v3 _ rfl
   refine TL.know (fun _ h => row1 h) (fun o3 => ?_)
   rw [← hts]
   refine TL.as rfl rfl (TL.as rfl rfl (TL.nil (TQ.then (TC.seq (TC.seq (TC.region (TL.mv rfl rfl (TL.opV rfl (op_lenV rfl un_sl_int32 rfl rw0) (TL.opP rfl (op_gtr rfl rfl) (TL.nil (TQ.then ?_)))))))))))
   refine TC.sp rfl (fun c3 => ?_) (fun c3 => ?_)
   ·refine TC.seq (TC.region (TL.as rfl rfl (TL.as rfl rfl (TL.nil (TQ.then (TC.ret (TQ.then_ret ?_)))))))
    refine ret2 rfl rfl rfl (fun w' hp => ?_)
    exact ⟨_, _, rfl, ⟨rsA1, nilS, by (rw [mswE_c h0 hv (by omega)]; first | done | rfl), hsA1, by rw [mswF_no (by rw [mswE_c h0 hv (by omega)]; decide)]; rfl⟩, new_nil _ 3 (hp.drop2.drop1.tail)⟩
   ·have hql : (dec q).length ≤ 4096 := by omega
    have haml : am1.length ≤ (txF s).length + 1 := by have h := congrArg List.length hall2; rw [List.length_map] at h; rw [h]; exact allGo_len _ _
    refine TC.skip (TQ.then (TC.seq (TC.region (TL.as rfl rfl (TL.nil (TQ.then (TC.seq (TC.region (TL.as rfl rfl (TL.as rfl rfl (TL.nil (TQ.then (TC.seq (TC.seq (TC.region (TL.mv rfl rfl (TL.opV rfl (op_lenV rfl un_sl_sl_int rfl rw2) (TL.mv rfl rfl (TL.nil (TQ.then (TC.block (TC.hp (fun _ h => new_nil 104 3 h) ?_))))))))))))))))))))))
    refine TC.loop (ι := Nat × List Part × Value × Nat × Nat) (fun (k, ps, pv, a, n) => [(10, v2), (11, v3), (12, pv), (13, .int .i64 ((a : Nat) : Int)), (14, .int .i64 ((n : Nat) : Int)), (38, av1), (39, .int .i64 (am1.length : Int)), (40, .int .i64 (k : Int))]) (fun (k, ps, pv, a, n) => .row pv 104 3 (ps).length (encs (ps)) :: .row v3 21 1 (dec q).length ((dec q).map (Value.int .i32)) :: .row v2 21 1 (txF s).length ((txF s).map (Value.int .i32)) :: .row av1 29 1 am1.length (am1.map Prod.snd) :: fz rsA1 :: F) (fun (k, ps, pv, a, n) => k ≤ am1.length ∧ SwI (txF s) (dec q) (am1.map Prod.fst) G k ps pv a n) (fun (k, ps, pv, a, n) => am1.length - k) ((0, [], nilS, 0, 0)) (⟨Nat.zero_le _, rfl, by decide, rfl, (fun p hp => by cases hp), by (rw [hall2]; exact allF_ris hG), msw_start _ _ _⟩) ⟨rfl, rfl, rfl, rfl, rfl, rfl, rfl, rfl, trivial⟩ (fun _ h => h) ?_
    rintro ⟨k, ps, pv, a, n⟩ ⟨hk, I⟩
    have hale := I.ris.a_le
    have hpl2 := I.len
    have hn1 := I.n1
    show TC _ _ _ _ [(10, v2), (11, v3), (12, pv), (13, .int .i64 ((a : Nat) : Int)), (14, .int .i64 ((n : Nat) : Int)), (38, av1), (39, .int .i64 (am1.length : Int)), (40, .int .i64 (k : Int))] _ _ (.row pv 104 3 (ps).length (encs (ps)) :: .row v3 21 1 (dec q).length ((dec q).map (Value.int .i32)) :: .row v2 21 1 (txF s).length ((txF s).map (Value.int .i32)) :: .row av1 29 1 am1.length (am1.map Prod.snd) :: fz rsA1 :: F)
    refine TC.seq (TC.region (TL.opP rfl (op_lss rfl rfl) (TL.nil (TQ.then (TC.seq ?_)))))
    refine TC.sp rfl (fun c4 => ?_) (fun c4 => ?_)
    ·obtain ⟨hd1, hd2⟩ := drop_AM (am := am1) (k := k) (by omega)
     obtain ⟨x, hx⟩ : ∃ x, am1.getD k ([], nilS) = x := ⟨_, rfl⟩
     rw [hx] at hd1 hd2
     have hrd := (hok1 x hd2).2
     have hR0 := I.ris
     rw [hd1] at hR0
     obtain ⟨i, j, g1, g2, g3, g4, g5, hF, hR⟩ : ∃ i j : Nat, a ≤ i ∧ i ≤ j ∧ j ≤ (txF s).length ∧ x.1.getD 0 0 = i ∧ x.1.getD 1 0 = j ∧ Fnd (txF s).length G i x.1 ∧ Ris (txF s).length G j ((am1.map Prod.fst).drop (k + 1)) := by
       cases hR0 with
       | cons _ i j _ _ q1 q2 q3 q4 q5 q6 q7 q8 => exact ⟨i, j, q1, q2, q3, q5, q6, q7, q8⟩
     have hfl := hF.len
     have hbd := fillGo_len (txF s) x.1 (dec q)
     have hbd2 : (fillGo (txF s) x.1 (dec q)).length ≤ 4096 * 4097 := Nat.le_trans hbd (Nat.mul_le_mul hql (by omega))
     have hsz0 := (enc_size (fillGo (txF s) x.1 (dec q))).2
     have hsz : (enc (fillGo (txF s) x.1 (dec q))).size < 9223372036854775807 := by omega
     have hsv : valid s = true := by
       by_cases h : valid s = true
       · exact h
       · exact absurd (txE_a (by simpa using h)) (fun e => h0 (by rw [e]; decide))
     have hrc : rcount (enc (fillGo (txF s) x.1 (dec q))) = (fillGo (txF s) x.1 (dec q)).length := by
       rw [rcount_dec, dec_enc (fillGo_mem (P := scalar) (.inl (by decide)) (by rw [hts]; exact dec_scalar hsv) _ (dec_scalar hv))]
     refine TC.skip (TQ.then (TC.seq (TC.block (TC.seq (TC.region (TL.opV rfl (op_index tsl_sl_int rfl rw3 rfl (by omega) (by omega)) (TL.opV rfl (op_loadR ts_sl_int rfl rw3 (lkM (f := Prod.snd) (i := k) (d := ([], nilS)) (by omega) hx (by omega))) (TL.as rfl rfl (TL.nil (TQ.then (TC.seq (TC.region (TL.mv rfl rfl (TL.mv rfl rfl (TL.opP rfl (op_move rfl) ?_)))))))))))))))
     refine TL.opX rfl (OpX.callX en_91 rfl (mfill_x (dec q) (txF s) x.1 v3 v2 x.2 G i rw1 rw2 (rdb_fz m4 hrd) hF hG2 (by omega) htl)) ?_; rintro _ _ ⟨rfl, rfl⟩
     refine TL.as rfl rfl (TL.nil (TQ.then (TC.seq (TC.region (TL.mv rfl rfl (TL.callq rfl en_32 rfl (fun w2 hp => rcount_calls _ w2 hsz) ?_))))))
     rw [hrc]
     refine TL.as rfl rfl (TL.nil (TQ.then (TC.seq (TC.seq (TC.region (TL.mv rfl rfl (TL.mv rfl rfl (TL.opP rfl (op_add (r := ((n + (fillGo (txF s) x.1 (dec q)).length : Nat) : Int)) rfl rfl (by omega) (by omega) (by omega)) (TL.as rfl rfl (TL.nil (TQ.then (TC.seq (TC.region (TL.mv rfl rfl (TL.opP rfl (op_gtr rfl rfl) (TL.nil (TQ.then ?_)))))))))))))))))
     refine TC.sp rfl (fun c5 => ?_) (fun c5 => ?_)
     ·refine TC.seq (TC.region (TL.as rfl rfl (TL.as rfl rfl (TL.nil (TQ.then (TC.ret (TQ.then_ret (TQ.block_ret (TQ.then_ret (TQ.loop_ret (TQ.block_ret (TQ.then_ret ?_))))))))))))
      refine ret2 rfl rfl rfl (fun w' hp => ?_)
      exact ⟨_, _, rfl, ⟨rsA1, nilS, by (rw [mswE_d h0 hv (by omega) (by rw [← hall2, I.eq, hd1, msw_big (by omega)]; rfl)]; first | done | rfl), hsA1, by rw [mswF_no (by rw [mswE_d h0 hv (by omega) (by rw [← hall2, I.eq, hd1, msw_big (by omega)]; rfl)]; decide)]; rfl⟩, new_nil _ 3 (hp.drop3.drop2.drop1.tail)⟩
     ·refine TC.skip (TQ.then (TC.seq (TC.draw [19] (.cons (.p, 0) (.cons (.p, 1) (.cons (.p, 4) (.cons (.p, 7) (.cons (.p, 8) (.cons (.p, 9) (.cons (.p, 10) (.cons (.p, 13) (.cons (.t, 2) (.cons (.t, 3) (.cons (.p, 5) (.cons (.p, 6) (.cons (.t, 11) (.cons (.t, 12) (.cons (.t, 14) (.cons (.t, 15) (.cons (.p, 16) (.cons (.p, 17) (.cons (.o, 18) (.cons (.z, 19) (.cons (.p, 20) (.nil)))))))))))))))))))))) mo (by kernel_rfl) (TR.p rfl rfl wt0 (op_move rfl) (TR.p rfl rfl wt0 (op_move rfl) (TR.p rfl rfl wt0 (op_move rfl) (TR.p rfl rfl wt0 (op_move rfl) (TR.p rfl rfl wt0 (op_move rfl) (TR.p rfl rfl wt0 (op_build (ps := #[(0, _), (1, _), (2, _)]) rfl (bl_api_Part_012 _ _ _)) (TR.p rfl rfl wt0 (op_move rfl) (TR.p rfl rfl wt0 (op_move rfl) ?_)))))))))))
      refine TR.t rfl rfl wt0 (op_index tsl_int rfl (rdb_fz m4 hrd) rfl (by omega) (by omega)) (fun _ h => h) (TR.t rfl rfl wt0 (op_loadR ts_int rfl (rdb_fz m4 hrd) (lkM (f := Value.int .i64) (i := 0) (d := 0) (by omega) g4 (by omega))) (fun _ h => h) (TR.p rfl rfl wt0 (op_sub rfl rfl rfl (by omega) (by omega)) (TR.p rfl rfl wt0 (op_build (ps := #[(0, _), (1, _)]) rfl (bl_api_Part_01 _ _)) (TR.t rfl rfl wt0 (op_index tsl_int rfl (rdb_fz m4 hrd) rfl (by omega) (by omega)) (fun _ h => h) (TR.t rfl rfl wt0 (op_loadR ts_int rfl (rdb_fz m4 hrd) (lkM (f := Value.int .i64) (i := 1) (d := 0) (by omega) g5 (by omega))) (fun _ h => h) (TR.t rfl rfl wt0 (op_index tsl_int rfl (rdb_fz m4 hrd) rfl (by omega) (by omega)) (fun _ h => h) ?_))))))
      refine TR.t rfl rfl wt0 (op_loadR ts_int rfl (rdb_fz m4 hrd) (lkM (f := Value.int .i64) (i := 0) (d := 0) (by omega) g4 (by omega))) (fun _ h => h) (TR.p rfl rfl wt0 (op_sub rfl rfl rfl (by omega) (by omega)) (TR.p rfl rfl wt0 (op_build (ps := #[(0, _), (1, _)]) rfl (bl_api_Part_01 _ _)) ?_))
      refine TR.o rfl rfl wt0 (OpX.buildSlice (ps := #[(0, _), (1, _), (2, _)]) rfl (bs_api_Part_3 (keepP ((i : Int) - a)) ⟨2, ((fillGo (txF s) x.1 (dec q)).length : Int), enc (fillGo (txF s) x.1 (dec q))⟩ (dropP ((j : Int) - i)))) (by rintro _ _ ⟨g73, rfl, rfl⟩; intro w h; exact h.tail) ?_; rintro _ _ ⟨g73, rfl, rfl⟩
      refine TR.hp (fun _ h => blk_row (k := 3) (m := 3) h rfl (by decide)) (TR.hp (fun _ h => h.pick1) ?_)
      refine TR.z rfl rfl wt0 (OpX.append (bytes := 32) tsl_api_Part (by decide) (by decide) rfl rw1 (encs_one _) (by omega) (zs := encs (ps ++ [keepP ((i : Int) - a), ⟨2, ((fillGo (txF s) x.1 (dec q)).length : Int), enc (fillGo (txF s) x.1 (dec q))⟩, dropP ((j : Int) - i)])) (encs_append _ _).symm) ?_; rintro v5 _ rfl
      refine TR.know (fun _ h => row1 h) (fun o5 => (TR.hp (fun _ h => row_lenP3 h) (TR.p rfl rfl wt0 (op_assign rfl) (TR.nil (TQ.then (TC.region (TL.mv rfl rfl (TL.opV rfl (op_index tsl_int rfl (rdb_fz m5 hrd) rfl (by omega) (by omega)) (TL.opV rfl (op_loadR ts_int rfl (rdb_fz m5 hrd) (lkM (f := Value.int .i64) (i := 1) (d := 0) (by omega) g5 (by omega))) (TL.as rfl rfl (TL.nil (TQ.block_normal (TQ.then (TC.region (TL.opP rfl (op_add rfl rfl rfl (by omega) (by omega)) (TL.mv rfl rfl (TL.nil ?_)))))))))))))))))
      exact TQ.round (k + 1, (ps ++ [keepP ((i : Int) - a), ⟨2, ((fillGo (txF s) x.1 (dec q)).length : Int), enc (fillGo (txF s) x.1 (dec q))⟩, dropP ((j : Int) - i)]), v5, j, n + (fillGo (txF s) x.1 (dec q)).length) (⟨by omega, I.next (r := []) hd1 g4 g5 hR (by omega) hsz (by assumption)⟩) (by show _ - (k + 1) < _ - k; omega) ⟨rfl, rfl, rfl, rfl, rfl, rfl, rfl, rfl, trivial⟩ (fun _ h => h.drop1)
    ·have hfin : mswGo (txF s) (dec q) (allF pg G (txF s)) 0 0 = some (ps ++ [keepP (((txF s).length : Int) - a)]) := by rw [← hall2, I.eq, List.drop_of_length_le (by rw [List.length_map]; omega), msw_nil]; rfl
     have hE := mswE_e (pg := pg) (G := G) h0 hv (by omega) hfin
     have hsm : ∀ p ∈ ps ++ [keepP (((txF s).length : Int) - a)], p.text.size < 9223372036854775807 := fun p hp => by
       rcases List.mem_append.1 hp with hp | hp
       · exact I.small p hp
       · rw [List.mem_singleton.1 hp]; (show (0 : Nat) < 9223372036854775807; decide)
     refine TC.exit (TQ.then_exit (TQ.loop_exit (TQ.block_hit (TQ.then (TC.seq (TC.region (TL.mv rfl rfl (TL.mv rfl rfl (TL.opV rfl (op_lenV rfl un_sl_int32 rfl rw2) (TL.mv rfl rfl (TL.opP rfl (op_sub rfl rfl rfl (by omega) (by omega)) (TL.opP rfl (op_build (ps := #[(0, _), (1, _)]) rfl (bl_api_Part_01 _ _)) ?_))))))))))))
     refine TL.opX rfl (OpX.buildSlice (ps := #[(0, _)]) rfl (bs_api_Part_1 (keepP (((txF s).length : Int) - a)))) ?_; rintro _ _ ⟨g85, rfl, rfl⟩
     refine TL.hp (fun _ h => blk_row (k := 3) (m := 1) h rfl (by decide)) (TL.hp (fun _ h => h.pick1) ?_)
     refine TL.opX rfl (OpX.append (bytes := 32) tsl_api_Part (by decide) (by decide) rfl rw1 (encs_one _) (by omega) (zs := encs (ps ++ [keepP (((txF s).length : Int) - a)])) (encs_append _ _).symm) ?_; rintro v6 _ rfl
     refine TL.know (fun _ h => row1 h) (fun o6 => (TL.hp (fun _ h => row_lenP3 h) ?_))
     refine TL.opX rfl (OpX.callX en_75 rfl (norm_x (ps ++ [keepP (((txF s).length : Int) - a)]) _ hsm (by rw [List.length_append, List.length_singleton]; omega) (.tail _ (.tail _ (.tail _ (.tail _ (.tail _ (.tail _ hT)))))) rw0)) ?_; rintro _ _ ⟨nv7, rfl, rfl⟩
     refine TL.as rfl rfl (TL.as rfl rfl (TL.nil (TQ.then (TC.ret ?_))))
     refine ret2 rfl rfl rfl (fun w' hp => ?_)
     exact ⟨_, _, rfl, ⟨rsA1, _, by rw [hE], hsA1, by rw [mswF_is hE hfin]⟩, (hp.drop5.drop4.drop3.drop2.drop1)⟩

end Go.SK
