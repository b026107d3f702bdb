/- Layer 12: the document's way. -/
import Derived.Test.YtpomdenbgdgbhaaDoorE90
set_option linter.unusedVariables false
set_option linter.unusedSimpArgs false
set_option maxRecDepth 100000
namespace Go.SK
open Go Go.RowKit Go.Proofs
variable {S : Nat → Prop} {w0 : World} {F L : List Res}
structure Been (l : List (Nat × Nat)) (W : Wd) (n : Nat) : Prop where
  len : ∀ p, (W p).length = n
  iff : ∀ a p : Nat, a < n → ((a, p) ∈ l ↔ (W p).getD a true = true)
theorem Been.mark {l : List (Nat × Nat)} {W : Wd} {n a p : Nat} (h : Been l W n) (ha : a < n) : Been (l ++ [(a, p)]) (markW W a p) n := by
  refine ⟨fun q => ?_, fun b q hb => ?_⟩
  · unfold markW updW; split
    · rw [List.length_set]; exact h.len p
    · exact h.len q
  · rw [List.mem_append, List.mem_singleton, h.iff b q hb]
    by_cases hq : q = p
    · subst hq
      rw [show markW W a q q = (W q).set a true from if_pos rfl]
      have hl := h.len q
      by_cases hab : b = a
      · subst hab
        rw [getD_set_self]
        exact ⟨fun _ => rfl, fun _ => .inr rfl⟩
      · rw [List.getD_eq_getElem?_getD (l := (W q).set a true), List.getElem?_set_ne (fun e => hab e.symm), ← List.getD_eq_getElem?_getD]
        exact ⟨fun h => h.resolve_right (fun e => hab (Prod.mk.inj e).1), .inl⟩
    · rw [show markW W a p q = W q from if_neg hq]
      exact ⟨fun h => h.resolve_right (fun e => hq (Prod.mk.inj e).2), .inl⟩
theorem been_fresh (pg : List StP) : Been [] (fun _ => freshS pg) pg.length :=
  ⟨fun _ => by simp [freshS], fun a p ha => ⟨fun h => (by cases h), fun h => by
    unfold freshS at h
    rw [List.getD_eq_getElem?_getD, List.getElem?_replicate, if_pos ha] at h
    cases h⟩⟩
theorem kR_k {k : Int} (h : k = 0 ∨ k = 1 ∨ k = 2 ∨ k = 3 ∨ k = 4 ∨ k = 5) : (k = 5 ∧ kR k = 0) ∨ (k = 0 ∧ kR k = 1) ∨ (k = 3 ∧ kR k = 2) ∨ (k = 4 ∧ kR k = 3) ∨ (k = 1 ∧ kR k = 4) ∨ (k = 2 ∧ kR k = 5) := by
  rcases h with rfl | rfl | rfl | rfl | rfl | rfl <;> decide
section
variable {pg : List StP} {tx : List Int} {f a p : Nat} {W : Wd} {sv : List Int}
theorem way_a (h : (W p).getD a true = true) : wayF pg tx (f + 1) W a p sv = (none, W) := by rw [wayF, if_pos h]
variable (h : ¬ (W p).getD a true = true)
include h
theorem way_5 (h5 : (stp pg a).k = 5) : wayF pg tx (f + 1) W a p sv = (some (sv.set 1 p), markW W a p) := by rw [wayF, if_neg h, if_pos h5]
theorem way_0t (h0 : (stp pg a).k = 0) (he : eats pg tx a p) : wayF pg tx (f + 1) W a p sv = wayF pg tx f (markW W a p) (stp pg a).x (p + 1) sv := by rw [wayF, if_neg h, if_neg (by omega), if_pos h0, if_pos he]
theorem way_0f (h0 : (stp pg a).k = 0) (he : ¬ eats pg tx a p) : wayF pg tx (f + 1) W a p sv = (none, markW W a p) := by rw [wayF, if_neg h, if_neg (by omega), if_pos h0, if_neg he]
theorem way_3t (h0 : (stp pg a).k = 3) (he : atBol tx p) : wayF pg tx (f + 1) W a p sv = wayF pg tx f (markW W a p) (stp pg a).x p sv := by rw [wayF, if_neg h, if_neg (by omega), if_neg (by omega), if_pos h0, if_pos he]
theorem way_3f (h0 : (stp pg a).k = 3) (he : ¬ atBol tx p) : wayF pg tx (f + 1) W a p sv = (none, markW W a p) := by rw [wayF, if_neg h, if_neg (by omega), if_neg (by omega), if_pos h0, if_neg he]
theorem way_4t (h0 : (stp pg a).k = 4) (he : atEol tx p) : wayF pg tx (f + 1) W a p sv = wayF pg tx f (markW W a p) (stp pg a).x p sv := by rw [wayF, if_neg h, if_neg (by omega), if_neg (by omega), if_neg (by omega), if_pos h0, if_pos he]
theorem way_4f (h0 : (stp pg a).k = 4) (he : ¬ atEol tx p) : wayF pg tx (f + 1) W a p sv = (none, markW W a p) := by rw [wayF, if_neg h, if_neg (by omega), if_neg (by omega), if_neg (by omega), if_pos h0, if_neg he]
theorem way_1s (h0 : (stp pg a).k = 1) {r : List Int} {W2 : Wd} (h1 : wayF pg tx f (markW W a p) (stp pg a).x p sv = (some r, W2)) : wayF pg tx (f + 1) W a p sv = (some r, W2) := by rw [wayF, if_neg h, if_neg (by omega), if_neg (by omega), if_neg (by omega), if_neg (by omega), if_pos h0, h1]
theorem way_1n (h0 : (stp pg a).k = 1) {W2 : Wd} (h1 : wayF pg tx f (markW W a p) (stp pg a).x p sv = (none, W2)) : wayF pg tx (f + 1) W a p sv = wayF pg tx f W2 (stp pg a).y p sv := by rw [wayF, if_neg h, if_neg (by omega), if_neg (by omega), if_neg (by omega), if_neg (by omega), if_pos h0, h1]
theorem way_2 (h0 : (stp pg a).k = 2) : wayF pg tx (f + 1) W a p sv = wayF pg tx f (markW W a p) (stp pg a).x p (sv.set (stp pg a).y p) := by rw [wayF, if_neg h, if_neg (by omega), if_neg (by omega), if_neg (by omega), if_neg (by omega), if_neg (by omega)]
end
theorem bl_ar2_int_01 (a0 a1 : Value) (h0 : a0.oneCell' = true := by first | rfl | assumption) (h1 : a1.oneCell' = true := by first | rfl | assumption) : ∀ w, (Instr.build 189 #[(0, a0), (1, a1)]).run Tryd.prog w = .ok (.agg #[a0, a1]) w := by
  (cases a0 <;> first | (cases h0; done) | skip) <;> (cases a1 <;> first | (cases h1; done) | skip) <;> (intro w; kernel_rfl)
theorem rm_get {ms : List RM} {pg : List StP} (h : ms.map Prod.fst = pg) {a : Nat} (ha : a < pg.length) : (ms.getD a default).1 = stp pg a ∧ ms.getD a default ∈ ms := by
  have hl : a < ms.length := by rw [← List.length_map (f := Prod.fst), h]; exact ha
  subst h
  unfold stp
  rw [List.getD_eq_getElem?_getD, List.getD_eq_getElem?_getD, List.getElem?_map, List.getElem?_eq_getElem hl]
  exact ⟨rfl, List.getElem_mem hl⟩
/-- What the walk leans on: the pattern, the text, the search. -/
structure WayIn (pg : List StP) (G : Nat) (tx : List Int) (rs : List Res) (ms : List RM) (lv tv : Value) (gs gm : Nat) (F : List Res) : Prop where
  g : PgG pg G
  pl : pg.length ≤ 3000
  g2 : G ≤ 200
  tl : tx.length ≤ 4096
  map : ms.map Prod.fst = pg
  ok : ∀ m ∈ ms, RmOk rs m
  z : fz rs ∈ F
  gs : Bkb F gs (.cells [lv, tv, .map (some gm)].toArray 142 (0, 0))
  lv : Rdb F lv 12 ms.length (encs ms)
  tv : Rdb F tv 1 tx.length (tx.map (Value.int .i32))
theorem WayIn.cons {pg : List StP} {G : Nat} {tx : List Int} {rs : List Res} {ms : List RM} {lv tv : Value} {gs gm : Nat} {F : List Res} {r : Res} (h : WayIn pg G tx rs ms lv tv gs gm F) : WayIn pg G tx rs ms lv tv gs gm (r :: F) :=
  ⟨h.g, h.pl, h.g2, h.tl, h.map, h.ok, .tail _ h.z, h.gs.cons, h.lv.cons, h.tv.cons⟩
def HWay (pg : List StP) (G : Nat) (tx : List Int) (f : Nat) : Prop := ∀ (S : Nat → Prop) (w0 : World) (F : List Res) (rs : List Res) (ms : List RM) (lv tv svv : Value) (gs gm a p p0 : Nat) (sv : List Int) (W : Wd) (bl : List (Nat × Nat)) (hW : WayIn pg G tx rs ms lv tv gs gm F),
  Rdb F svv 1 sv.length (ints sv) → ThI hW.g p0 p a sv → p ≤ tx.length → cntW W (tx.length + 1) < f → Been bl W pg.length →
  CallX Tryd.prog 90 [ptrV gs, nv a, nv p, svv] S w0 (mapR gm bl :: F) (fun u L' => ∃ v o bl' W', u = .tuple #[v, .bool o.isSome] ∧ v.oneCell' = true ∧ wayF pg tx f W a p sv = (o, W') ∧ Been bl' W' pg.length ∧ L' = .row v 3 1 (o.getD []).length (ints (o.getD [])) :: mapR gm bl' :: F)
set_option maxHeartbeats 1000000
theorem xway_x (pg : List StP) (G : Nat) (tx : List Int) (f : Nat) (ih : HWay pg G tx f) (rs : List Res) (ms : List RM) (lv tv svv : Value) (gs gm a p p0 : Nat) (sv : List Int) (W : Wd) (bl : List (Nat × Nat)) (hW : WayIn pg G tx rs ms lv tv gs gm F) (hsv : Rdb F svv 1 sv.length (ints sv)) (hI : ThI hW.g p0 p a sv) (hpt : p ≤ tx.length) (hc : cntW W (tx.length + 1) < f + 1) (hB : Been bl W pg.length) :
    CallX Tryd.prog 90 [ptrV gs, nv a, nv p, svv] S w0 (mapR gm (bl) :: F) (fun u L' => ∃ v o bl' W', u = .tuple #[v, .bool o.isSome] ∧ v.oneCell' = true ∧ wayF pg tx (f + 1) W a p sv = (o, W') ∧ Been bl' W' pg.length ∧ L' = .row v 3 1 (o.getD []).length (ints (o.getD [])) :: mapR gm bl' :: F) := by
 intro w hp
 have hG := hW.g
 have hpl := hW.pl
 have htl := hW.tl
 have hal := hI.at_
 have hsl := hI.len
 have hG2 := hW.g2
 have hz := hW.z
 obtain ⟨m, hpm⟩ : ∃ m, ms.getD a default = m := ⟨_, rfl⟩
 obtain ⟨hm1, hm2⟩ := rm_get hW.map hal
 rw [hpm] at hm1 hm2
 obtain ⟨m1, q⟩ := m
 obtain rfl : m1 = stp pg a := hm1
 have hml : a < ms.length := by rw [← List.length_map (f := Prod.fst), hW.map]; exact hal
 have hk6 := kR_k (hG.k a _ (stp_get hal))
 have hget := stp_get hal
 refine calls_start Tryd.func90 rfl rfl rfl (hp) ?_
 refine TC.seq (TC.region (TL.as rfl rfl (TL.as rfl rfl (TL.nil (TQ.then (TC.seq (TC.seq (TC.region (TL.mv rfl rfl (TL.opP rfl (op_nilCheck rfl) (TL.opP rfl (op_field fld_sealskinref12_search_been rfl) (TL.opV rfl (op_loadB ts_map140 rfl hW.gs.cons rfl) (TL.mv rfl rfl (TL.mv rfl rfl (TL.opP rfl (op_build (ps := #[(0, _), (1, _)]) rfl (bl_ar2_int_01 _ _)) (TL.opV rfl (op_been rfl rfl (by first | exact m0 | exact m1 | exact m2 | exact m3)) (TL.nil (TQ.then ?_))))))))))))))))))
 refine TC.sp rfl (fun c1 => ?_) (fun c1 => ?_)
 ·have hin := (hB.iff a p hal).1 c1
  refine TC.seq (TC.region (TL.as rfl rfl (TL.as rfl rfl (TL.nil (TQ.then (TC.ret (TQ.then_ret ?_)))))))
  refine ret2 rfl rfl rfl (fun w' hp => ?_)
  exact ⟨_, _, rfl, ⟨nilS, none, bl, W, rfl, rfl, way_a hin, hB, rfl⟩, new_nil _ 1 (hp)⟩
 ·have hni : ¬ (W p).getD a true = true := fun h => c1 ((hB.iff a p hal).2 h)
  have hB2 := hB.mark (p := p) hal
  have hcm := cnt_mark (n := tx.length + 1) (by omega) hni
  refine TC.skip (TQ.then (TC.seq (TC.region (TL.mv rfl rfl (TL.opP rfl (op_nilCheck rfl) (TL.opP rfl (op_field fld_sealskinref12_search_been rfl) (TL.opV rfl (op_loadB ts_map140 rfl hW.gs.cons rfl) (TL.mv rfl rfl (TL.mv rfl rfl (TL.opP rfl (op_build (ps := #[(0, _), (1, _)]) rfl (bl_ar2_int_01 _ _)) ?_))))))))))
  refine TL.opX0 (OpX.beenPut rfl rfl rfl c1) ?_; rintro _ _ rfl
  refine TL.nil (TQ.then (TC.seq (TC.region (TL.mv rfl rfl (TL.opP rfl (op_nilCheck rfl) (TL.opP rfl (op_field fld_sealskinref12_search_l rfl) (TL.opV rfl (op_loadB ts_sl_sealskinref12_Step rfl hW.gs.cons rfl) (TL.mv rfl rfl (TL.opV rfl (op_index tsl_sealskinref12_Step rfl hW.lv.cons rfl (by omega) (by omega)) (TL.opV rfl (op_loadRS tst_sealskinref12_Step rfl hW.lv.cons (cs := rmC (stp pg a, q)) rfl (lkS hml hpm) (by decide)) ?_))))))))))
  refine TL.opX rfl (OpX.alloc tz_sealskinref12_Step rfl) ?_; rintro _ _ ⟨g10, rfl, rfl⟩
  refine TL.opX0 (OpX.storeS tst_sealskinref12_Step rfl rfl rfl rfl rfl (Enc.one ((stp pg a, q) : RM))) ?_; rintro _ _ rfl
  refine TL.nil (TQ.then (TC.seq (TC.seq (TC.region (TL.opP rfl (op_field fld_sealskinref12_Step_Kind rfl) (TL.opV rfl (op_load ts_int rfl m0 rfl) (TL.nil (TQ.then (TC.block (TC.seq (TC.region (TL.opP rfl (op_eql rfl rfl) (TL.as rfl rfl (TL.nil (TQ.then ?_)))))))))))))))
  refine TC.sp rfl (fun c2 => ?_) (fun c2 => ?_)
  ·have d2 : kR (stp pg a).k = 0 := c2
   refine TC.seq (TC.region ?_)
   refine TL.opX rfl (OpX.buildSlice (ps := #[]) rfl (bs_int_0 )) ?_; rintro _ _ ⟨g41, rfl, rfl⟩
   refine TL.hp (fun _ h => blk_row (k := 1) (m := 0) h rfl (by decide)) (TL.opP rfl (op_move rfl) ?_)
   refine TL.opX rfl (OpX.append (bytes := 8) tsl_int (by decide) (by decide) rfl hsv.cons.cons.cons (ints_one _) (by omega) (zs := ints sv) rfl) ?_; rintro v2 _ rfl
   refine TL.know (fun _ h => row1 h) (fun o2 => (TL.hp (fun _ h => row_lenM h) (TL.as rfl rfl (TL.nil (TQ.then (TC.seq (TC.region (TL.mv rfl rfl (TL.mv rfl rfl (TL.opV rfl (op_index tsl_int rfl rw0 rfl (by omega) (by omega)) ?_))))))))))
   refine TL.opX0 (OpX.storeRow (k := 1) (fun w => by kernel_rfl) rfl rfl rfl (ys := [nv p]) rfl (by decide) (List.all_eq_true.1 rfl) (by omega) (stM (f := Value.int .i64) (i := 1) (y := (p : Int)) (by omega) (by omega))) ?_; rintro _ _ rfl
   refine TL.hp (fun _ h => row_lenM h) (TL.nil (TQ.then (TC.seq (TC.region (TL.mv rfl rfl (TL.as rfl rfl (TL.as rfl rfl (TL.nil (TQ.then (TC.ret (TQ.block_ret (TQ.then_ret ?_))))))))))))
   refine ret2 rfl rfl rfl (fun w' hp => ?_)
   exact ⟨_, _, rfl, ⟨_, some (sv.set 1 p), _, _, rfl, by assumption, way_5 hni (by omega), hB2, rfl⟩, (hp.drop1)⟩
  ·have d2 : ¬ kR (stp pg a).k = 0 := c2
   refine TC.seq (TC.region (TL.opP rfl (op_eql rfl rfl) (TL.as rfl rfl (TL.nil (TQ.then ?_)))))
   refine TC.sp rfl (fun c3 => ?_) (fun c3 => ?_)
   ·have d3 : kR (stp pg a).k = 1 := c3
    obtain ⟨hng, s2, hrd, hse⟩ := hW.ok _ hm2 (show (stp pg a).k = 0 by omega)
    have hhp : holdsP (stp pg a) (tx.getD p 0) = (inS s2 (tx.getD p 0) != q.neg) := by unfold holdsP; rw [hse, hng]
    refine TC.seq (TC.seq (TC.draw [] (.cons (.p, 0) (.cons (.p, 1) (.cons (.p, 2) (.cons (.p, 3) (.cons (.t, 4) (.cons (.t, 5) (.cons (.p, 6) (.cons (.p, 7) (.cons (.p, 8) (.cons (.p, 10) (.cons (.p, 11) (.cons (.p, 12) (.cons (.p, 14) (.cons (.t, 9) (.cons (.t, 13) (.cons (.t, 15) (.cons (.t, 16) (.cons (.o, 17) (.cons (.p, 18) (.cons (.p, 19) (.nil))))))))))))))))))))) mo (by kernel_rfl) (TR.p rfl rfl wt0 (op_move rfl) (TR.p rfl rfl wt0 (op_move rfl) (TR.p rfl rfl wt0 (op_nilCheck rfl) (TR.p rfl rfl wt0 (op_field fld_sealskinref12_search_text rfl) (TR.t rfl rfl wt0 (op_loadB ts_sl_int32 rfl hW.gs.cons.cons rfl) (fun _ h => h) (TR.t rfl rfl wt0 (op_lenV rfl un_sl_int32 rfl hW.tv.cons.cons) (fun _ h => h) ?_))))))))
    refine TR.p rfl rfl wt0 (op_eql rfl rfl) (TR.p rfl rfl wt0 (op_move rfl) ?_)
    refine TR.sp (fun c4 => ?_) (fun c4 => ?_)
    ·refine TR.off rfl rfl (by exact wtFt rfl rfl) (TR.off rfl rfl (by exact wtFt rfl rfl) (TR.off rfl rfl (by exact wtFt rfl rfl) (TR.off rfl rfl (by exact wtFt rfl rfl) (TR.off rfl rfl (by exact wtFt rfl rfl) (TR.offT rfl rfl (by exact wtFt rfl rfl) (fun _ h => h) (TR.offT rfl rfl (by exact wtFt rfl rfl) (fun _ h => h) (TR.offT rfl rfl (by exact wtFt rfl rfl) (fun _ h => h) (TR.offT rfl rfl (by exact wtFt rfl rfl) (fun _ h => h) (TR.offO rfl rfl (by exact wtFt rfl rfl) (fun _ h => h) (TR.off rfl rfl (by exact wtFt rfl rfl) (TR.p rfl rfl wt0 (op_pickT rfl rfl) (TR.nil (TQ.then (TC.condT rfl (TC.seq (TC.region (TL.as rfl rfl (TL.as rfl rfl (TL.nil (TQ.then (TC.ret (TQ.then_ret ?_))))))))))))))))))))))
     refine TQ.block_ret (TQ.then_ret ?_)
     refine ret2 rfl rfl rfl (fun w' hp => ?_)
     exact ⟨_, _, rfl, ⟨nilS, none, _, _, rfl, rfl, way_0f hni (by omega) (fun h => by have := h.1; omega), hB2, rfl⟩, new_nil _ 1 (hp.tail)⟩
    ·refine TR.p rfl rfl (by exact wtT rfl rfl) (op_field fld_sealskinref12_Step_P rfl) (TR.p rfl rfl (by exact wtT rfl rfl) (op_move rfl) (TR.p rfl rfl (by exact wtT rfl rfl) (op_nilCheck rfl) (TR.p rfl rfl (by exact wtT rfl rfl) (op_field fld_sealskinref12_search_text rfl) (TR.p rfl rfl (by exact wtT rfl rfl) (op_move rfl) (TR.t rfl rfl (by exact wtT rfl rfl) (op_loadSO (ys := Pc.cs q) tst_sealskinref12_Part rfl (by first | exact m0 | exact m1 | exact m2 | exact m3) rfl rfl) (fun _ h => h) (TR.t rfl rfl (by exact wtT rfl rfl) (op_loadB ts_sl_int32 rfl hW.gs.cons.cons rfl) (fun _ h => h) (TR.t rfl rfl (by exact wtT rfl rfl) (op_index tsl_int32 rfl hW.tv.cons.cons rfl (by omega) (by omega)) (fun _ h => h) ?_)))))))
     refine TR.t rfl rfl (by exact wtT rfl rfl) (op_loadR ts_int32 rfl hW.tv.cons.cons (lkM (i := p) (d := 0) (by omega) rfl (by omega))) (fun _ h => h) ?_
     refine TR.o rfl rfl (by exact wtT rfl rfl) (OpX.callX en_124 rfl (xholds_x q s2 (tx.getD p 0) (rdb_fz (.tail _ (.tail _ hz)) hrd))) (by rintro _ _ ⟨rfl, rfl⟩; intro w h; exact h) ?_; rintro _ _ ⟨rfl, rfl⟩
     refine TR.p rfl rfl (by exact wtT rfl rfl) (op_not rfl rfl) (TR.p rfl rfl wt0 (op_pickF rfl rfl) (TR.nil (TQ.then ?_)))
     refine TC.sp rfl (fun c5 => ?_) (fun c5 => ?_)
     ·refine TC.seq (TC.region (TL.as rfl rfl (TL.as rfl rfl (TL.nil (TQ.then (TC.ret (TQ.then_ret (TQ.block_ret (TQ.then_ret ?_)))))))))
      refine ret2 rfl rfl rfl (fun w' hp => ?_)
      exact ⟨_, _, rfl, ⟨nilS, none, _, _, rfl, rfl, way_0f hni (by omega) (fun h => by have h2 := h.2; rw [hhp] at h2; rw [h2] at c5; cases c5), hB2, rfl⟩, new_nil _ 1 (hp.tail)⟩
     ·have he : eats pg tx a p := ⟨by omega, by rw [hhp]; simpa using c5⟩
      refine TC.skip (TQ.then (TC.seq (TC.region (TL.mv rfl rfl (TL.opP rfl (op_field fld_sealskinref12_Step_X rfl) (TL.opV rfl (op_load ts_int rfl m0 rfl) (TL.mv rfl rfl (TL.opP rfl (op_add (r := ((p + 1 : Nat) : Int)) rfl rfl (by omega) (by omega) (by omega)) (TL.mv rfl rfl (TL.hp (fun _ h => h.pick1) ?_))))))))))
      refine TL.opX rfl (OpX.callX en_90 rfl (ih _ _ _ rs ms lv tv svv gs gm (stp pg a).x (p + 1) p0 (sv) _ _ hW.cons (hsv.cons) ((hI.x (by omega) (by omega)).mono (by omega)) (by omega) (by omega) (hB2))) ?_; rintro _ _ ⟨vw4, ow4, bw4, Ww4, rfl, ho4, hw4, hb4, rfl⟩
      refine TL.opP rfl (op_extract rfl rfl) (TL.opP rfl (op_extract rfl rfl) (TL.as rfl rfl (TL.as rfl rfl (TL.nil (TQ.then (TC.ret (TQ.block_ret (TQ.then_ret ?_))))))))
      refine ret2 rfl rfl rfl (fun w' hp => ?_)
      exact ⟨_, _, rfl, ⟨_, ow4, bw4, Ww4, rfl, ho4, (way_0t hni (by omega) he).trans hw4, hb4, rfl⟩, (hp.drop2)⟩
   ·have d3 : ¬ kR (stp pg a).k = 1 := c3
    refine TC.seq (TC.region (TL.opP rfl (op_eql rfl rfl) (TL.as rfl rfl (TL.nil (TQ.then ?_)))))
    refine TC.sp rfl (fun c6 => ?_) (fun c6 => ?_)
    ·have d6 : kR (stp pg a).k = 2 := c6
     refine TC.seq (TC.region (TL.mv rfl rfl (TL.opP rfl (op_gtr rfl rfl) (TL.opP rfl (op_move rfl) ?_))))
     refine TL.sp (fun c7 => ?_) (fun c7 => ?_)
     ·refine TL.gT rfl rfl (TL.mv rfl rfl (TL.gT rfl rfl (TL.opP rfl (op_nilCheck rfl) (TL.gT rfl rfl (TL.opP rfl (op_field fld_sealskinref12_search_text rfl) (TL.gT rfl rfl (TL.opV rfl (op_loadB ts_sl_int32 rfl hW.gs.cons.cons rfl) (TL.gT rfl rfl (TL.mv rfl rfl (TL.gT rfl rfl (TL.opP rfl (op_sub (r := ((p - 1 : Nat) : Int)) rfl rfl (by omega) (by omega) (by omega)) (TL.gT rfl rfl (TL.opV rfl (op_index tsl_int32 rfl hW.tv.cons.cons rfl (by omega) (by omega)) (TL.gT rfl rfl (TL.opV rfl (op_loadR ts_int32 rfl hW.tv.cons.cons (lkM (i := p - 1) (d := 0) (by omega) rfl (by omega))) (TL.gT rfl rfl (TL.opP rfl (op_neq rfl rfl) (TL.opP rfl (op_pickT rfl rfl) (TL.nil (TQ.then ?_))))))))))))))))))))
      refine TC.sp rfl (fun c8 => ?_) (fun c8 => ?_)
      ·refine TC.seq (TC.region (TL.as rfl rfl (TL.as rfl rfl (TL.nil (TQ.then (TC.ret (TQ.block_ret (TQ.then_ret ?_))))))))
       refine ret2 rfl rfl rfl (fun w' hp => ?_)
       exact ⟨_, _, rfl, ⟨nilS, none, _, _, rfl, rfl, way_3f hni (by omega) (by rintro (h | h); omega; exact c8 h), hB2, rfl⟩, new_nil _ 1 (hp.tail)⟩
      ·refine TC.skip (TQ.block_normal (TQ.then (TC.seq (TC.region (TL.mv rfl rfl (TL.opP rfl (op_field fld_sealskinref12_Step_X rfl) (TL.opV rfl (op_load ts_int rfl m0 rfl) (TL.mv rfl rfl (TL.mv rfl rfl (TL.hp (fun _ h => h.pick1) ?_))))))))))
       refine TL.opX rfl (OpX.callX en_90 rfl (ih _ _ _ rs ms lv tv svv gs gm (stp pg a).x p p0 (sv) _ _ hW.cons (hsv.cons) (hI.x (by omega) (by omega)) (hpt) (by omega) (hB2))) ?_; rintro _ _ ⟨vw5, ow5, bw5, Ww5, rfl, ho5, hw5, hb5, rfl⟩
       refine TL.opP rfl (op_extract rfl rfl) (TL.opP rfl (op_extract rfl rfl) (TL.as rfl rfl (TL.as rfl rfl (TL.nil (TQ.then (TC.ret ?_))))))
       refine ret2 rfl rfl rfl (fun w' hp => ?_)
       exact ⟨_, _, rfl, ⟨_, ow5, bw5, Ww5, rfl, ho5, (way_3t hni (by omega) (.inr (Decidable.not_not.1 c8))).trans hw5, hb5, rfl⟩, (hp.drop2)⟩
     ·refine TL.gFf rfl rfl rfl (TL.gFf rfl rfl rfl (TL.gFf rfl rfl rfl (TL.gFf rfl rfl rfl (TL.gFf rfl rfl rfl (TL.gFf rfl rfl rfl (TL.gFf rfl rfl rfl (TL.gFf rfl rfl rfl (TL.gFf rfl rfl rfl (TL.opP rfl (op_pickF rfl rfl) (TL.nil (TQ.then (TC.condF rfl (TC.skip (TQ.block_normal (TQ.then (TC.seq (TC.region (TL.mv rfl rfl (TL.opP rfl (op_field fld_sealskinref12_Step_X rfl) (TL.opV rfl (op_load ts_int rfl m0 rfl) (TL.mv rfl rfl (TL.mv rfl rfl (TL.hp (fun _ h => h.pick1) ?_)))))))))))))))))))))))
      refine TL.opX rfl (OpX.callX en_90 rfl (ih _ _ _ rs ms lv tv svv gs gm (stp pg a).x p p0 (sv) _ _ hW.cons (hsv.cons) (hI.x (by omega) (by omega)) (hpt) (by omega) (hB2))) ?_; rintro _ _ ⟨vw6, ow6, bw6, Ww6, rfl, ho6, hw6, hb6, rfl⟩
      refine TL.opP rfl (op_extract rfl rfl) (TL.opP rfl (op_extract rfl rfl) (TL.as rfl rfl (TL.as rfl rfl (TL.nil (TQ.then (TC.ret ?_))))))
      refine ret2 rfl rfl rfl (fun w' hp => ?_)
      exact ⟨_, _, rfl, ⟨_, ow6, bw6, Ww6, rfl, ho6, (way_3t hni (by omega) (.inl (by omega))).trans hw6, hb6, rfl⟩, (hp.drop2)⟩
    ·have d6 : ¬ kR (stp pg a).k = 2 := c6
     refine TC.seq (TC.region (TL.opP rfl (op_eql rfl rfl) (TL.as rfl rfl (TL.nil (TQ.then ?_)))))
     refine TC.sp rfl (fun c9 => ?_) (fun c9 => ?_)
     ·have d9 : kR (stp pg a).k = 3 := c9
      refine TC.seq (TC.region (TL.mv rfl rfl (TL.mv rfl rfl (TL.opP rfl (op_nilCheck rfl) (TL.opP rfl (op_field fld_sealskinref12_search_text rfl) (TL.opV rfl (op_loadB ts_sl_int32 rfl hW.gs.cons.cons rfl) (TL.opV rfl (op_lenV rfl un_sl_int32 rfl hW.tv.cons.cons) (TL.opP rfl (op_lss rfl rfl) (TL.opP rfl (op_move rfl) ?_)))))))))
      refine TL.sp (fun c10 => ?_) (fun c10 => ?_)
      ·refine TL.gT rfl rfl (TL.mv rfl rfl (TL.gT rfl rfl (TL.opP rfl (op_nilCheck rfl) (TL.gT rfl rfl (TL.opP rfl (op_field fld_sealskinref12_search_text rfl) (TL.gT rfl rfl (TL.opV rfl (op_loadB ts_sl_int32 rfl hW.gs.cons.cons rfl) (TL.gT rfl rfl (TL.mv rfl rfl (TL.gT rfl rfl (TL.opV rfl (op_index tsl_int32 rfl hW.tv.cons.cons rfl (by omega) (by omega)) (TL.gT rfl rfl (TL.opV rfl (op_loadR ts_int32 rfl hW.tv.cons.cons (lkM (i := p) (d := 0) (by omega) rfl (by omega))) (TL.gT rfl rfl (TL.opP rfl (op_neq rfl rfl) (TL.opP rfl (op_pickT rfl rfl) (TL.nil (TQ.then ?_))))))))))))))))))
       refine TC.sp rfl (fun c11 => ?_) (fun c11 => ?_)
       ·refine TC.seq (TC.region (TL.as rfl rfl (TL.as rfl rfl (TL.nil (TQ.then (TC.ret (TQ.block_ret (TQ.then_ret ?_))))))))
        refine ret2 rfl rfl rfl (fun w' hp => ?_)
        exact ⟨_, _, rfl, ⟨nilS, none, _, _, rfl, rfl, way_4f hni (by omega) (by rintro (h | h); omega; exact c11 h), hB2, rfl⟩, new_nil _ 1 (hp.tail)⟩
       ·refine TC.skip (TQ.block_normal (TQ.then (TC.seq (TC.region (TL.mv rfl rfl (TL.opP rfl (op_field fld_sealskinref12_Step_X rfl) (TL.opV rfl (op_load ts_int rfl m0 rfl) (TL.mv rfl rfl (TL.mv rfl rfl (TL.hp (fun _ h => h.pick1) ?_))))))))))
        refine TL.opX rfl (OpX.callX en_90 rfl (ih _ _ _ rs ms lv tv svv gs gm (stp pg a).x p p0 (sv) _ _ hW.cons (hsv.cons) (hI.x (by omega) (by omega)) (hpt) (by omega) (hB2))) ?_; rintro _ _ ⟨vw7, ow7, bw7, Ww7, rfl, ho7, hw7, hb7, rfl⟩
        refine TL.opP rfl (op_extract rfl rfl) (TL.opP rfl (op_extract rfl rfl) (TL.as rfl rfl (TL.as rfl rfl (TL.nil (TQ.then (TC.ret ?_))))))
        refine ret2 rfl rfl rfl (fun w' hp => ?_)
        exact ⟨_, _, rfl, ⟨_, ow7, bw7, Ww7, rfl, ho7, (way_4t hni (by omega) (.inr (Decidable.not_not.1 c11))).trans hw7, hb7, rfl⟩, (hp.drop2)⟩
      ·refine TL.gFf rfl rfl rfl (TL.gFf rfl rfl rfl (TL.gFf rfl rfl rfl (TL.gFf rfl rfl rfl (TL.gFf rfl rfl rfl (TL.gFf rfl rfl rfl (TL.gFf rfl rfl rfl (TL.gFf rfl rfl rfl (TL.opP rfl (op_pickF rfl rfl) (TL.nil (TQ.then (TC.condF rfl (TC.skip (TQ.block_normal (TQ.then (TC.seq (TC.region (TL.mv rfl rfl (TL.opP rfl (op_field fld_sealskinref12_Step_X rfl) (TL.opV rfl (op_load ts_int rfl m0 rfl) (TL.mv rfl rfl (TL.mv rfl rfl (TL.hp (fun _ h => h.pick1) ?_))))))))))))))))))))))
       refine TL.opX rfl (OpX.callX en_90 rfl (ih _ _ _ rs ms lv tv svv gs gm (stp pg a).x p p0 (sv) _ _ hW.cons (hsv.cons) (hI.x (by omega) (by omega)) (hpt) (by omega) (hB2))) ?_; rintro _ _ ⟨vw8, ow8, bw8, Ww8, rfl, ho8, hw8, hb8, rfl⟩
       refine TL.opP rfl (op_extract rfl rfl) (TL.opP rfl (op_extract rfl rfl) (TL.as rfl rfl (TL.as rfl rfl (TL.nil (TQ.then (TC.ret ?_))))))
       refine ret2 rfl rfl rfl (fun w' hp => ?_)
       exact ⟨_, _, rfl, ⟨_, ow8, bw8, Ww8, rfl, ho8, (way_4t hni (by omega) (.inl (by omega))).trans hw8, hb8, rfl⟩, (hp.drop2)⟩
     ·have d9 : ¬ kR (stp pg a).k = 3 := c9
      refine TC.seq (TC.region (TL.opP rfl (op_eql rfl rfl) (TL.as rfl rfl (TL.nil (TQ.then ?_)))))
      refine TC.sp rfl (fun c12 => ?_) (fun c12 => ?_)
      ·have d12 : kR (stp pg a).k = 4 := c12
       have hy0 : (if (stp pg a).k = 2 then 0 else (stp pg a).y) = (stp pg a).y := if_neg (by omega)
       refine TC.seq (TC.seq (TC.region (TL.mv rfl rfl (TL.opP rfl (op_field fld_sealskinref12_Step_X rfl) (TL.opV rfl (op_load ts_int rfl m0 rfl) (TL.mv rfl rfl (TL.mv rfl rfl (TL.hp (fun _ h => h.pick1) ?_))))))))
       refine TL.opX rfl (OpX.callX en_90 rfl (ih _ _ _ rs ms lv tv svv gs gm (stp pg a).x p p0 (sv) _ _ hW.cons (hsv.cons) (hI.x (by omega) (by omega)) (hpt) (by omega) (hB2))) ?_; rintro _ _ ⟨vw9, ow9, bw9, Ww9, rfl, ho9, hw9, hb9, rfl⟩
       refine TL.mv rfl rfl (TL.opP rfl (op_extract rfl rfl) (TL.opP rfl (op_extract rfl rfl) (TL.as rfl rfl (TL.as rfl rfl (TL.nil (TQ.then (TC.seq (TC.region (TL.mv rfl rfl (TL.nil (TQ.then ?_)))))))))))
       refine TC.sp rfl (fun c13 => ?_) (fun c13 => ?_)
       ·obtain ⟨r, hr⟩ := Option.isSome_iff_exists.1 c13
        subst hr
        refine TC.seq (TC.region (TL.mv rfl rfl (TL.as rfl rfl (TL.as rfl rfl (TL.nil (TQ.then (TC.ret (TQ.then_ret (TQ.block_ret (TQ.then_ret ?_))))))))))
        refine ret2 rfl rfl rfl (fun w' hp => ?_)
        exact ⟨_, _, rfl, ⟨_, _, bw9, Ww9, rfl, ho9, way_1s hni (by omega) hw9, hb9, rfl⟩, (hp.drop2)⟩
       ·have hon : ow9 = none := by
          cases ho2 : ow9 with
          | none => rfl
          | some r => rw [ho2] at c13; cases c13
        subst hon
        have hw1 := hw9
        have hb1 := hb9
        have hwk := (way_keep (pg := pg) (tx := tx) f (markW W a p) (stp pg a).x p sv).cnt (tx.length + 1)
        rw [hw1] at hwk
        refine TC.skip (TQ.then (TC.seq (TC.region (TL.mv rfl rfl (TL.opP rfl (op_field fld_sealskinref12_Step_Y rfl) (TL.opV rfl (op_load ts_int rfl (by first | exact m0 | exact m1 | exact m2 | exact m3) (congrArg (fun n : Nat => some (nv n)) hy0)) (TL.mv rfl rfl (TL.mv rfl rfl (TL.hp (fun _ h => h.pick1) ?_)))))))))
        refine TL.opX rfl (OpX.callX en_90 rfl (ih _ _ _ rs ms lv tv svv gs gm (stp pg a).y p p0 (sv) _ _ hW.cons.cons (hsv.cons.cons) (hI.y (by omega)) (hpt) (Nat.lt_of_le_of_lt hwk (by omega)) (hb1))) ?_; rintro _ _ ⟨vw10, ow10, bw10, Ww10, rfl, hoB10, hwB10, hbB10, rfl⟩
        refine TL.opP rfl (op_extract rfl rfl) (TL.opP rfl (op_extract rfl rfl) (TL.as rfl rfl (TL.as rfl rfl (TL.nil (TQ.then (TC.ret (TQ.block_ret (TQ.then_ret ?_))))))))
        refine ret2 rfl rfl rfl (fun w' hp => ?_)
        exact ⟨_, _, rfl, ⟨_, ow10, bw10, Ww10, rfl, hoB10, (way_1n hni (by omega) hw1).trans hwB10, hbB10, rfl⟩, (hp.drop3.drop2)⟩
      ·have d12 : ¬ kR (stp pg a).k = 4 := c12
       refine TC.seq (TC.region (TL.opP rfl (op_eql rfl rfl) (TL.as rfl rfl (TL.nil (TQ.then ?_)))))
       refine TC.sp rfl (fun c14 => ?_) (fun c14 => ?_)
       ·have d14 : kR (stp pg a).k = 5 := c14
        have hsl2 := hG.sl a _ hget (by omega)
        have hs0 : (if (stp pg a).k = 2 then (stp pg a).y else 0) = (stp pg a).y := if_pos (by omega)
        refine TC.seq (TC.region ?_)
        refine TL.opX rfl (OpX.buildSlice (ps := #[]) rfl (bs_int_0 )) ?_; rintro _ _ ⟨g136, rfl, rfl⟩
        refine TL.hp (fun _ h => blk_row (k := 1) (m := 0) h rfl (by decide)) (TL.opP rfl (op_move rfl) ?_)
        refine TL.opX rfl (OpX.append (bytes := 8) tsl_int (by decide) (by decide) rfl hsv.cons.cons.cons (ints_one _) (by omega) (zs := ints sv) rfl) ?_; rintro v11 _ rfl
        refine TL.know (fun _ h => row1 h) (fun o11 => (TL.hp (fun _ h => row_lenM h) (TL.as rfl rfl (TL.nil (TQ.then (TC.seq (TC.region (TL.mv rfl rfl (TL.opP rfl (op_field fld_sealskinref12_Step_Slot rfl) (TL.opV rfl (op_load ts_int rfl (by first | exact m0 | exact m1 | exact m2 | exact m3) (congrArg (fun n : Nat => some (nv n)) hs0)) (TL.mv rfl rfl (TL.opV rfl (op_index tsl_int rfl rw0 rfl (by omega) (by omega)) ?_))))))))))))
        refine TL.opX0 (OpX.storeRow (k := 1) (fun w => by kernel_rfl) rfl rfl rfl (ys := [nv p]) rfl (by decide) (List.all_eq_true.1 rfl) (by omega) (stM (f := Value.int .i64) (i := (stp pg a).y) (y := (p : Int)) (by omega) (by omega))) ?_; rintro _ _ rfl
        refine TL.hp (fun _ h => row_lenM h) (TL.nil (TQ.then (TC.seq (TC.region (TL.mv rfl rfl (TL.opP rfl (op_field fld_sealskinref12_Step_X rfl) (TL.opV rfl (op_load ts_int rfl m1 rfl) (TL.mv rfl rfl (TL.mv rfl rfl (TL.hp (fun _ h => h.pick2) ?_))))))))))
        refine TL.opX rfl (OpX.callX en_90 rfl (ih _ _ _ rs ms lv tv _ gs gm (stp pg a).x p p0 (sv.set (stp pg a).y (p : Int)) _ _ hW.cons.cons (rw0) (hI.save (by omega)) (hpt) (by omega) (hB2))) ?_; rintro _ _ ⟨vw12, ow12, bw12, Ww12, rfl, ho12, hw12, hb12, rfl⟩
        refine TL.opP rfl (op_extract rfl rfl) (TL.opP rfl (op_extract rfl rfl) (TL.as rfl rfl (TL.as rfl rfl (TL.nil (TQ.then (TC.ret (TQ.block_ret (TQ.then_ret ?_))))))))
        refine ret2 rfl rfl rfl (fun w' hp => ?_)
        exact ⟨_, _, rfl, ⟨_, ow12, bw12, Ww12, rfl, ho12, (way_2 hni (by omega)).trans hw12, hb12, rfl⟩, (hp.drop3.drop2)⟩
       ·(have d14 : ¬ kR (stp pg a).k = 5 := c14; omega)

theorem hway (pg : List StP) (G : Nat) (tx : List Int) : ∀ f, HWay pg G tx f
  | 0 => fun S w0 F rs ms lv tv svv gs gm a p p0 sv W bl hW hsv hI hp hc hB => by omega
  | f + 1 => fun S w0 F rs ms lv tv svv gs gm a p p0 sv W bl hW hsv hI hp hc hB => xway_x pg G tx f (hway pg G tx f) rs ms lv tv svv gs gm a p p0 sv W bl hW hsv hI hp hc hB
end Go.SK
