/- Layer 12: the document's reader: one part; parts however deep. -/
import Derived.Test.YtpomdenbgdgbhaaDoorE81
set_option linter.unusedVariables false
set_option linter.unusedSimpArgs false
set_option maxRecDepth 100000
namespace Go.SK
open Go Go.RowKit Go.Proofs
variable {S : Nat → Prop} {w0 : World} {F L : List Res}
section
variable {l : List Int} {i j g gz n deep : Nat} {e : Int} {rs rs' rs2 : List Res} {p q : Pc}
theorem RNd.cls1 {sp : List (Int × Int)} {sv : Value} {neg : Bool} {ho : sv.oneCell' = true} (h : Res.rd sv 2 sp.length (spC sp) ∈ rs) : RNd rs (.cls neg sp) ⟨1, neg, sv, nilS, 0, 0, false, 0, ho, rfl⟩ := by
  unfold RNd; exact ⟨rfl, rfl, rfl, sp, h, fun _ => rfl⟩
theorem RNd.bol1 : RNd rs .bol ⟨2, false, nilS, nilS, 0, 0, false, 0, rfl, rfl⟩ := by unfold RNd; exact ⟨rfl, rfl⟩
theorem RNd.eol1 : RNd rs .eol ⟨3, false, nilS, nilS, 0, 0, false, 0, rfl, rfl⟩ := by unfold RNd; exact ⟨rfl, rfl⟩
theorem XRes.qr (h : XRes rs rs' (escF l i) j e p) : QRes rs rs' (escN (escF l i) g) j g e p := by
  obtain ⟨hs, hk, s', hrd, _, hm⟩ := h
  refine ⟨hs, ?_⟩
  cases hE : escF l i with
  | err e' k => rw [hE] at hm; exact hm
  | ok s k g0 =>
    rw [hE] at hm
    obtain ⟨a, b, c, d, _, f⟩ := hm
    exact ⟨a, b, rfl, by unfold RNd; exact ⟨c, d, hk, s', hrd, f⟩⟩
theorem grp_bad (h : QRes rs rs' (eitherF l (pPart l n (deep + 1)) (deep + 1) (i + 1) (g + 1)) j gz e p) (h40 : nx l i = 40) (hn : ¬ pk l j e = 41) : QRes rs rs' (pPart l (n + 1) deep i g) j gz (if e = 0 then 90 else e) q := by
  by_cases he : e = 0
  · subst he
    obtain ⟨t, hE, _⟩ := h.good rfl
    rw [pk_0] at hn
    rw [if_pos rfl]
    exact .err h.sub (show pPart l (n + 1) deep i g = _ from part_h h40 hE hn) (by decide)
  · rw [if_neg he]
    exact .err h.sub (show pPart l (n + 1) deep i g = _ from part_f h40 (h.bad he)) he
theorem grp_ok (h : QRes rs rs' (eitherF l (pPart l n (deep + 1)) (deep + 1) (i + 1) (g + 1)) j gz 0 p) (h40 : nx l i = 40) (hn : nx l j = 41) {kv : Value} {hk : kv.oneCell' = true} :
    QRes rs (.rd kv 8 1 (encs [p]) :: rs') (pPart l (n + 1) deep i g) (j + 1) gz 0 ⟨7, false, nilS, kv, 0, 0, false, ((g + 1 : Nat) : Int), rfl, hk⟩ := by
  obtain ⟨t, hE, hR⟩ := h.good rfl
  exact .ok (fun x hx => .tail _ (h.sub hx)) (show pPart l (n + 1) deep i g = _ from part_g h40 hE hn) (by unfold RNd; exact ⟨rfl, rfl, p, .head _, hR.mono (fun x hx => .tail _ hx)⟩)
end
set_option maxHeartbeats 1000000
theorem xpart_x (l : List Int) (lv : Value) (g i gn : Nat) (hxl : Rdb F lv 1 l.length (l.map (Value.int .i32))) (hln : l.length ≤ 200) (hps : ∀ x ∈ l, 0 ≤ x) (rs : List Res) (n deep : Nat) (hP : HXPart l n) (hd : deep ≤ 20) (hi : i < l.length) (hn : l.length < i + (n + 1)) (hgi : gn ≤ i) :
    CallX Tryd.prog 140 [.pointer (some ⟨g, 0, none⟩), .int .i64 (deep : Int)] S w0 (fz rs :: .blk g (.cells [lv, .int .i64 (((i : Nat) : Int) : Int), .int .i64 (((gn : Nat) : Int) : Int), .int .i64 (0)].toArray 126 (0, 0)) :: F) (fun u L' => ∃ rs' i' g' e p, u = Pc.val p ∧ QRes rs rs' (pPart l (n + 1) deep i gn) i' g' e p ∧ L' = fz rs' :: .blk g (.cells [lv, .int .i64 (((i' : Nat) : Int) : Int), .int .i64 (((g' : Nat) : Int) : Int), .int .i64 (e)].toArray 126 (0, 0)) :: F) := by
 intro w hp
 refine calls_start Tryd.func140 rfl rfl rfl (hp) ?_
 refine TC.seq (TC.region ?_)
 refine TL.opX rfl (OpX.alloc tz_sealskinref12_Part rfl) ?_; rintro _ _ ⟨g4, rfl, rfl⟩
 refine TL.nil (TQ.then (TC.seq (TC.region (TL.mv rfl rfl (TL.hp (fun _ h => h.pick2) ?_)))))
 refine TL.opX rfl (OpX.callX en_118 rfl (xpeek0_x l _ _ i gn hxl.cons.cons hln)) ?_; rintro _ _ ⟨rfl, rfl⟩
 refine TL.as rfl rfl (TL.nil (TQ.then (TC.seq (TC.seq (TC.region (TL.mv rfl rfl (TL.nil (TQ.then (TC.block (TC.seq (TC.seq (TC.region (TL.opP rfl (op_eql rfl rfl) (TL.as rfl rfl (TL.nil (TQ.then ?_))))))))))))))))
 refine TC.sp rfl (fun c1 => ?_) (fun c1 => ?_)
 ·refine TC.skip (TQ.then (TC.condT rfl (TC.seq (TC.region (TL.opP rfl (op_move rfl) ?_)))))
  refine TL.opX rfl (OpX.callX en_85 rfl (xfail0_x l _ _ i gn hxl.cons.cons hln 90)) ?_; rintro _ _ ⟨rfl, rfl⟩
  refine TL.nil (TQ.then (TC.seq (TC.region (TL.opP rfl (op_build (ps := #[]) rfl (bl_sealskinref12_Part_ )) (TL.hp (fun _ h => h.pick1) ?_)))))
  refine TL.opX0 (OpX.storeS tst_sealskinref12_Part rfl rfl rfl rfl rfl (nc_one (by first | rfl | assumption | exact Pc.hs _) (by first | rfl | assumption | exact Pc.hk _))) ?_; rintro _ _ rfl
  refine TL.nil (TQ.then (TC.ret (TQ.block_ret (TQ.then_ret ?_))))
  refine retc tst_sealskinref12_Part rfl rfl m0 rfl (fun w' hp => ?_)
  exact ⟨_, _, rfl, ⟨rs, i, gn, 90, default, rfl, .err (fun _ hx => hx) (show pPart l (n + 1) deep i gn = _ from part_i (by unfold badB; omega)) (by decide), rfl⟩, (hp.tail.pick1)⟩
 ·refine TC.seq (TC.region (TL.opP rfl (op_eql rfl rfl) (TL.as rfl rfl (TL.nil (TQ.then ?_)))))
  refine TC.sp rfl (fun c2 => ?_) (fun c2 => ?_)
  ·refine TC.skip (TQ.then (TC.condT rfl (TC.seq (TC.region (TL.opP rfl (op_move rfl) ?_)))))
   refine TL.opX rfl (OpX.callX en_85 rfl (xfail0_x l _ _ i gn hxl.cons.cons hln 90)) ?_; rintro _ _ ⟨rfl, rfl⟩
   refine TL.nil (TQ.then (TC.seq (TC.region (TL.opP rfl (op_build (ps := #[]) rfl (bl_sealskinref12_Part_ )) (TL.hp (fun _ h => h.pick1) ?_)))))
   refine TL.opX0 (OpX.storeS tst_sealskinref12_Part rfl rfl rfl rfl rfl (nc_one (by first | rfl | assumption | exact Pc.hs _) (by first | rfl | assumption | exact Pc.hk _))) ?_; rintro _ _ rfl
   refine TL.nil (TQ.then (TC.ret (TQ.block_ret (TQ.then_ret ?_))))
   refine retc tst_sealskinref12_Part rfl rfl m0 rfl (fun w' hp => ?_)
   exact ⟨_, _, rfl, ⟨rs, i, gn, 90, default, rfl, .err (fun _ hx => hx) (show pPart l (n + 1) deep i gn = _ from part_i (by unfold badB; omega)) (by decide), rfl⟩, (hp.tail.pick1)⟩
  ·refine TC.seq (TC.region (TL.opP rfl (op_eql rfl rfl) (TL.as rfl rfl (TL.nil (TQ.then ?_)))))
   refine TC.sp rfl (fun c3 => ?_) (fun c3 => ?_)
   ·refine TC.skip (TQ.then (TC.condT rfl (TC.seq (TC.region (TL.opP rfl (op_move rfl) ?_)))))
    refine TL.opX rfl (OpX.callX en_85 rfl (xfail0_x l _ _ i gn hxl.cons.cons hln 90)) ?_; rintro _ _ ⟨rfl, rfl⟩
    refine TL.nil (TQ.then (TC.seq (TC.region (TL.opP rfl (op_build (ps := #[]) rfl (bl_sealskinref12_Part_ )) (TL.hp (fun _ h => h.pick1) ?_)))))
    refine TL.opX0 (OpX.storeS tst_sealskinref12_Part rfl rfl rfl rfl rfl (nc_one (by first | rfl | assumption | exact Pc.hs _) (by first | rfl | assumption | exact Pc.hk _))) ?_; rintro _ _ rfl
    refine TL.nil (TQ.then (TC.ret (TQ.block_ret (TQ.then_ret ?_))))
    refine retc tst_sealskinref12_Part rfl rfl m0 rfl (fun w' hp => ?_)
    exact ⟨_, _, rfl, ⟨rs, i, gn, 90, default, rfl, .err (fun _ hx => hx) (show pPart l (n + 1) deep i gn = _ from part_i (by unfold badB; omega)) (by decide), rfl⟩, (hp.tail.pick1)⟩
   ·refine TC.seq (TC.region (TL.opP rfl (op_eql rfl rfl) (TL.as rfl rfl (TL.nil (TQ.then ?_)))))
    refine TC.sp rfl (fun c4 => ?_) (fun c4 => ?_)
    ·refine TC.skip (TQ.then (TC.condT rfl (TC.seq (TC.region (TL.opP rfl (op_move rfl) ?_)))))
     refine TL.opX rfl (OpX.callX en_85 rfl (xfail0_x l _ _ i gn hxl.cons.cons hln 90)) ?_; rintro _ _ ⟨rfl, rfl⟩
     refine TL.nil (TQ.then (TC.seq (TC.region (TL.opP rfl (op_build (ps := #[]) rfl (bl_sealskinref12_Part_ )) (TL.hp (fun _ h => h.pick1) ?_)))))
     refine TL.opX0 (OpX.storeS tst_sealskinref12_Part rfl rfl rfl rfl rfl (nc_one (by first | rfl | assumption | exact Pc.hs _) (by first | rfl | assumption | exact Pc.hk _))) ?_; rintro _ _ rfl
     refine TL.nil (TQ.then (TC.ret (TQ.block_ret (TQ.then_ret ?_))))
     refine retc tst_sealskinref12_Part rfl rfl m0 rfl (fun w' hp => ?_)
     exact ⟨_, _, rfl, ⟨rs, i, gn, 90, default, rfl, .err (fun _ hx => hx) (show pPart l (n + 1) deep i gn = _ from part_i (by unfold badB; omega)) (by decide), rfl⟩, (hp.tail.pick1)⟩
    ·refine TC.seq (TC.region (TL.opP rfl (op_eql rfl rfl) (TL.as rfl rfl (TL.nil (TQ.then ?_)))))
     refine TC.sp rfl (fun c5 => ?_) (fun c5 => ?_)
     ·refine TC.skip (TQ.then (TC.condT rfl (TC.seq (TC.region (TL.opP rfl (op_move rfl) ?_)))))
      refine TL.opX rfl (OpX.callX en_85 rfl (xfail0_x l _ _ i gn hxl.cons.cons hln 90)) ?_; rintro _ _ ⟨rfl, rfl⟩
      refine TL.nil (TQ.then (TC.seq (TC.region (TL.opP rfl (op_build (ps := #[]) rfl (bl_sealskinref12_Part_ )) (TL.hp (fun _ h => h.pick1) ?_)))))
      refine TL.opX0 (OpX.storeS tst_sealskinref12_Part rfl rfl rfl rfl rfl (nc_one (by first | rfl | assumption | exact Pc.hs _) (by first | rfl | assumption | exact Pc.hk _))) ?_; rintro _ _ rfl
      refine TL.nil (TQ.then (TC.ret (TQ.block_ret (TQ.then_ret ?_))))
      refine retc tst_sealskinref12_Part rfl rfl m0 rfl (fun w' hp => ?_)
      exact ⟨_, _, rfl, ⟨rs, i, gn, 90, default, rfl, .err (fun _ hx => hx) (show pPart l (n + 1) deep i gn = _ from part_i (by unfold badB; omega)) (by decide), rfl⟩, (hp.tail.pick1)⟩
     ·refine TC.region (TL.opP rfl (op_eql rfl rfl) (TL.as rfl rfl (TL.nil (TQ.then ?_))))
      refine TC.sp rfl (fun c6 => ?_) (fun c6 => ?_)
      ·refine TC.seq (TC.region (TL.opP rfl (op_move rfl) ?_))
       refine TL.opX rfl (OpX.callX en_85 rfl (xfail0_x l _ _ i gn hxl.cons.cons hln 90)) ?_; rintro _ _ ⟨rfl, rfl⟩
       refine TL.nil (TQ.then (TC.seq (TC.region (TL.opP rfl (op_build (ps := #[]) rfl (bl_sealskinref12_Part_ )) (TL.hp (fun _ h => h.pick1) ?_)))))
       refine TL.opX0 (OpX.storeS tst_sealskinref12_Part rfl rfl rfl rfl rfl (nc_one (by first | rfl | assumption | exact Pc.hs _) (by first | rfl | assumption | exact Pc.hk _))) ?_; rintro _ _ rfl
       refine TL.nil (TQ.then (TC.ret (TQ.block_ret (TQ.then_ret ?_))))
       refine retc tst_sealskinref12_Part rfl rfl m0 rfl (fun w' hp => ?_)
       exact ⟨_, _, rfl, ⟨rs, i, gn, 90, default, rfl, .err (fun _ hx => hx) (show pPart l (n + 1) deep i gn = _ from part_i (by unfold badB; omega)) (by decide), rfl⟩, (hp.tail.pick1)⟩
      ·refine TC.skip (TQ.block_normal (TQ.then (TC.seq (TC.region (TL.mv rfl rfl (TL.opP rfl (op_nilCheck rfl) (TL.opP rfl (op_field fld_sealskinref12_reader_at rfl) (TL.opV rfl (op_load ts_int rfl m0 rfl) (TL.opP rfl (op_add (r := ((i + 1 : Nat) : Int)) rfl rfl (by omega) (by omega) (by omega)) (TL.opP rfl (op_nilCheck rfl) (TL.opP rfl (op_field fld_sealskinref12_reader_at rfl) ?_)))))))))))
       refine TL.opX0 (OpX.store1 ts_int rfl rfl (by first | rfl | assumption) rfl rfl) ?_; rintro _ _ rfl
       refine TL.nil (TQ.then (TC.seq (TC.seq (TC.region (TL.mv rfl rfl (TL.nil (TQ.then (TC.block (TC.seq (TC.region (TL.opP rfl (op_eql rfl rfl) (TL.as rfl rfl (TL.nil (TQ.then ?_))))))))))))))
       refine TC.sp rfl (fun c7 => ?_) (fun c7 => ?_)
       ·refine TC.seq (TC.region (TL.opP rfl (op_build (ps := #[(0, _), (1, _)]) rfl (bl_ar2_int32_01 _ _)) ?_))
        refine TL.opX rfl (OpX.buildSlice (ps := #[(0, _)]) rfl (bs_ar2_int32_1 (10, 10))) ?_; rintro _ _ ⟨g31, rfl, rfl⟩
        refine TL.hp (fun _ h => blk_row (k := 2) (m := 1) h rfl (by decide)) ?_
        refine TL.opX rfl (OpX.callX en_149 rfl (xset_x _ _ rfl)) ?_; rintro _ _ ⟨rfl, rfl⟩
        refine TL.hp (fun _ h => h.pick2) ?_
        refine TL.opX0 (OpX.storeS tst_sealskinref12_Part rfl rfl rfl rfl rfl (nc_one (by first | rfl | assumption | exact Pc.hs _) (by first | rfl | assumption | exact Pc.hk _))) ?_; rintro _ _ rfl
        refine TL.nil (TQ.then (TC.ret (TQ.block_ret (TQ.then_ret ?_))))
        refine retc tst_sealskinref12_Part rfl rfl m0 rfl (fun w' hp => ?_)
        exact ⟨_, _, rfl, ⟨_, i + 1, gn, 0, ⟨1, true, _, nilS, 0, 0, false, 0, rfl, rfl⟩, rfl, .ok (fun x hx => .tail _ hx) (show pPart l (n + 1) deep i gn = _ from part_a c7) (.cls1 (sp := [(10, 10)]) (.head _)), rfl⟩, fz_row (hp.tail.pick1.pick2.pick2)⟩
       ·refine TC.seq (TC.region (TL.opP rfl (op_eql rfl rfl) (TL.as rfl rfl (TL.nil (TQ.then ?_)))))
        refine TC.sp rfl (fun c8 => ?_) (fun c8 => ?_)
        ·refine TC.seq (TC.region (TL.opP rfl (op_build (ps := #[(0, _)]) rfl (bl_sealskinref12_Part_0 _)) (TL.hp (fun _ h => h.pick1) ?_)))
         refine TL.opX0 (OpX.storeS tst_sealskinref12_Part rfl rfl rfl rfl rfl (nc_one (by first | rfl | assumption | exact Pc.hs _) (by first | rfl | assumption | exact Pc.hk _))) ?_; rintro _ _ rfl
         refine TL.nil (TQ.then (TC.ret (TQ.block_ret (TQ.then_ret ?_))))
         refine retc tst_sealskinref12_Part rfl rfl m0 rfl (fun w' hp => ?_)
         exact ⟨_, _, rfl, ⟨rs, i + 1, gn, 0, ⟨2, false, nilS, nilS, 0, 0, false, 0, rfl, rfl⟩, rfl, .ok (fun x hx => hx) (show pPart l (n + 1) deep i gn = _ from part_b c8) .bol1, rfl⟩, (hp.tail.pick1)⟩
        ·refine TC.seq (TC.region (TL.opP rfl (op_eql rfl rfl) (TL.as rfl rfl (TL.nil (TQ.then ?_)))))
         refine TC.sp rfl (fun c9 => ?_) (fun c9 => ?_)
         ·refine TC.seq (TC.region (TL.opP rfl (op_build (ps := #[(0, _)]) rfl (bl_sealskinref12_Part_0 _)) (TL.hp (fun _ h => h.pick1) ?_)))
          refine TL.opX0 (OpX.storeS tst_sealskinref12_Part rfl rfl rfl rfl rfl (nc_one (by first | rfl | assumption | exact Pc.hs _) (by first | rfl | assumption | exact Pc.hk _))) ?_; rintro _ _ rfl
          refine TL.nil (TQ.then (TC.ret (TQ.block_ret (TQ.then_ret ?_))))
          refine retc tst_sealskinref12_Part rfl rfl m0 rfl (fun w' hp => ?_)
          exact ⟨_, _, rfl, ⟨rs, i + 1, gn, 0, ⟨3, false, nilS, nilS, 0, 0, false, 0, rfl, rfl⟩, rfl, .ok (fun x hx => hx) (show pPart l (n + 1) deep i gn = _ from part_c c9) .eol1, rfl⟩, (hp.tail.pick1)⟩
         ·refine TC.seq (TC.region (TL.opP rfl (op_eql rfl rfl) (TL.as rfl rfl (TL.nil (TQ.then ?_)))))
          refine TC.sp rfl (fun c10 => ?_) (fun c10 => ?_)
          ·refine TC.seq (TC.region (TL.mv rfl rfl (TL.opP rfl (op_nilCheck rfl) (TL.opP rfl (op_field fld_sealskinref12_reader_groups rfl) (TL.opV rfl (op_load ts_int rfl m0 rfl) (TL.opP rfl (op_add (r := ((gn + 1 : Nat) : Int)) rfl rfl (by omega) (by omega) (by omega)) (TL.opP rfl (op_nilCheck rfl) (TL.opP rfl (op_field fld_sealskinref12_reader_groups rfl) ?_))))))))
           refine TL.opX0 (OpX.store1 ts_int rfl rfl (by first | rfl | assumption) rfl rfl) ?_; rintro _ _ rfl
           refine TL.nil (TQ.then (TC.seq (TC.region (TL.mv rfl rfl (TL.opP rfl (op_nilCheck rfl) (TL.opP rfl (op_field fld_sealskinref12_reader_groups rfl) (TL.opV rfl (op_load ts_int rfl m0 rfl) (TL.opP rfl (op_build (ps := #[(0, _), (7, _)]) rfl (bl_sealskinref12_Part_07 _ _)) ?_))))))))
           refine TL.opX rfl (OpX.alloc tz_sealskinref12_Part rfl) ?_; rintro _ _ ⟨g6, rfl, rfl⟩
           refine TL.opX0 (OpX.storeS tst_sealskinref12_Part rfl rfl rfl rfl rfl (nc_one (by first | rfl | assumption | exact Pc.hs _) (by first | rfl | assumption | exact Pc.hk _))) ?_; rintro _ _ rfl
           refine TL.nil (TQ.then (TC.seq (TC.region (TL.mv rfl rfl (TL.mv rfl rfl (TL.opP rfl (op_add (r := ((deep + 1 : Nat) : Int)) rfl rfl (by omega) (by omega) (by omega)) (TL.hp (fun _ h => h.pick1.pick3) ?_)))))))
           refine TL.opX rfl (OpX.callX en_84 rfl (xrows_x l _ _ (i + 1) (gn + 1) hxl.cons.cons hln hps rs n (deep + 1) hP (by omega) (by omega) (by omega) (by omega))) ?_; rintro _ _ ⟨rz9, iz9, gz9, ez9, pz9, rfl, hR9, rfl⟩
           refine TL.opX rfl (OpX.buildSlice (ps := #[(0, _)]) rfl (bs_sealskinref12_Part_1 pz9)) ?_; rintro _ _ ⟨g57, rfl, rfl⟩
           refine TL.hp (fun _ h => blk_row (k := 8) (m := 1) h rfl (by decide)) (TL.opP rfl (op_field fld_sealskinref12_Part_Kids rfl) (TL.hp (fun _ h => h.pick3) ?_))
           refine TL.opX0 (OpX.store1 ts_sl_sealskinref12_Part rfl rfl (by first | rfl | assumption) rfl rfl) ?_; rintro _ _ rfl
           refine TL.nil (TQ.then (TC.seq (TC.seq (TC.region (TL.mv rfl rfl (TL.hp (fun _ h => h.pick3) ?_))))))
           refine TL.opX rfl (OpX.callX en_120 rfl (xis_x l _ _ iz9 gz9 hxl.cons.cons.cons.cons hln ez9 41 (by decide))) ?_; rintro _ _ ⟨rfl, rfl⟩
           refine TL.opP rfl (op_not rfl rfl) (TL.nil (TQ.then ?_))
           refine TC.sp rfl (fun c11 => ?_) (fun c11 => ?_)
           ·rw [if_neg c11]
            refine TC.region (TL.opP rfl (op_move rfl) ?_)
            refine TL.opX rfl (OpX.callX en_85 rfl (xfail_x l _ _ iz9 gz9 hxl.cons.cons.cons.cons hln ez9 90)) ?_; rintro _ _ ⟨rfl, rfl⟩
            refine TL.nil (TQ.then (TC.seq (TC.region (TL.opV rfl (op_loadS tst_sealskinref12_Part rfl m1 rfl) (TL.hp (fun _ h => h.pick4) ?_)))))
            refine TL.opX0 (OpX.storeS tst_sealskinref12_Part rfl rfl rfl rfl rfl (nc_one (by first | rfl | assumption | exact Pc.hs _) (by first | rfl | assumption | exact Pc.hk _))) ?_; rintro _ _ rfl
            refine TL.nil (TQ.then (TC.ret (TQ.block_ret (TQ.then_ret ?_))))
            refine retc tst_sealskinref12_Part rfl rfl m0 rfl (fun w' hp => ?_)
            exact ⟨_, _, rfl, ⟨rz9, iz9, gz9, _, ⟨7, false, nilS, _, 0, 0, false, _, rfl, rfl⟩, rfl, grp_bad hR9 c10 c11, rfl⟩, Hp.tail (hp.drop2.tail.pick2.pick2)⟩
           ·rw [if_pos c11]
            obtain ⟨rfl, hlt2, h41⟩ := pk_some c11 (by decide)
            refine TC.skip (TQ.then (TC.seq (TC.region (TL.opV rfl (op_loadS tst_sealskinref12_Part rfl m1 rfl) (TL.hp (fun _ h => h.pick4) ?_)))))
            refine TL.opX0 (OpX.storeS tst_sealskinref12_Part rfl rfl rfl rfl rfl (nc_one (by first | rfl | assumption | exact Pc.hs _) (by first | rfl | assumption | exact Pc.hk _))) ?_; rintro _ _ rfl
            refine TL.nil (TQ.then (TC.ret (TQ.block_ret (TQ.then_ret ?_))))
            refine retc tst_sealskinref12_Part rfl rfl m0 rfl (fun w' hp => ?_)
            exact ⟨_, _, rfl, ⟨_, iz9 + 1, gz9, 0, ⟨7, false, nilS, _, 0, 0, false, _, rfl, rfl⟩, rfl, grp_ok hR9 c10 h41, rfl⟩, fz_row (hp.drop2.tail.pick2.pick2)⟩
          ·refine TC.seq (TC.region (TL.opP rfl (op_eql rfl rfl) (TL.as rfl rfl (TL.nil (TQ.then ?_)))))
           refine TC.sp rfl (fun c12 => ?_) (fun c12 => ?_)
           ·refine TC.seq (TC.region (TL.mv rfl rfl (TL.hp (fun _ h => h.pick2) ?_)))
            refine TL.opX rfl (OpX.callX en_150 rfl (xbrk_x l _ _ (i + 1) gn hxl.cons hln hps rs (by omega))) ?_; rintro _ _ ⟨rz12, iz12, ez12, pz12, rfl, hR12, rfl⟩
            refine TL.hp (fun _ h => h.pick2) ?_
            refine TL.opX0 (OpX.storeS tst_sealskinref12_Part rfl rfl rfl rfl rfl (nc_one (by first | rfl | assumption | exact Pc.hs _) (by first | rfl | assumption | exact Pc.hk _))) ?_; rintro _ _ rfl
            refine TL.nil (TQ.then (TC.ret (TQ.block_ret (TQ.then_ret ?_))))
            refine retc tst_sealskinref12_Part rfl rfl m0 rfl (fun w' hp => ?_)
            exact ⟨_, _, rfl, ⟨rz12, iz12, gn, ez12, pz12, rfl, by (rw [(show pPart l (n + 1) deep i gn = _ from part_d c12)]; exact hR12), rfl⟩, (hp.tail)⟩
           ·refine TC.seq (TC.region (TL.opP rfl (op_eql rfl rfl) (TL.as rfl rfl (TL.nil (TQ.then ?_)))))
            refine TC.sp rfl (fun c13 => ?_) (fun c13 => ?_)
            ·refine TC.seq (TC.region (TL.mv rfl rfl (TL.hp (fun _ h => h.pick2) ?_)))
             refine TL.opX rfl (OpX.callX en_151 rfl (xsign_x l _ _ (i + 1) gn hxl.cons hln hps rs)) ?_; rintro _ _ ⟨rz13, iz13, ez13, pz13, rfl, hR13, rfl⟩
             refine TL.hp (fun _ h => h.pick2) ?_
             refine TL.opX0 (OpX.storeS tst_sealskinref12_Part rfl rfl rfl rfl rfl (nc_one (by first | rfl | assumption | exact Pc.hs _) (by first | rfl | assumption | exact Pc.hk _))) ?_; rintro _ _ rfl
             refine TL.nil (TQ.then (TC.ret (TQ.block_ret (TQ.then_ret ?_))))
             refine retc tst_sealskinref12_Part rfl rfl m0 rfl (fun w' hp => ?_)
             exact ⟨_, _, rfl, ⟨rz13, iz13, gn, ez13, pz13, rfl, by (rw [(show pPart l (n + 1) deep i gn = _ from part_e c13)]; exact hR13.qr), rfl⟩, (hp.tail)⟩
            ·refine TC.skip (TQ.block_normal (TQ.then (TC.seq (TC.region (TL.mv rfl rfl (TL.mv rfl rfl (TL.opP rfl (op_build (ps := #[(0, _), (1, _)]) rfl (bl_ar2_int32_01 _ _)) ?_)))))))
             refine TL.opX rfl (OpX.buildSlice (ps := #[(0, _)]) rfl (bs_ar2_int32_1 (nx l i, nx l i))) ?_; rintro _ _ ⟨g76, rfl, rfl⟩
             refine TL.hp (fun _ h => blk_row (k := 2) (m := 1) h rfl (by decide)) ?_
             refine TL.opX rfl (OpX.callX en_149 rfl (xset_x _ _ rfl)) ?_; rintro _ _ ⟨rfl, rfl⟩
             refine TL.hp (fun _ h => h.pick2) ?_
             refine TL.opX0 (OpX.storeS tst_sealskinref12_Part rfl rfl rfl rfl rfl (nc_one (by first | rfl | assumption | exact Pc.hs _) (by first | rfl | assumption | exact Pc.hk _))) ?_; rintro _ _ rfl
             refine TL.nil (TQ.then (TC.ret ?_))
             refine retc tst_sealskinref12_Part rfl rfl m0 rfl (fun w' hp => ?_)
             exact ⟨_, _, rfl, ⟨_, i + 1, gn, 0, ⟨1, false, _, nilS, 0, 0, false, 0, rfl, rfl⟩, rfl, .ok (fun x hx => .tail _ hx) (show pPart l (n + 1) deep i gn = _ from part_j c7 c8 c9 c12 c13 c10 (by unfold badB; omega)) (.cls1 (sp := [(nx l i, nx l i)]) (.head _)), rfl⟩, fz_row (hp.tail.pick1.pick2.pick2)⟩

theorem hxpart {l : List Int} (hln : l.length ≤ 200) (hps : ∀ x ∈ l, 0 ≤ x) : ∀ n, HXPart l n
  | 0 => fun S w0 F lv g i gn hxl rs deep hd hi hn hgi => by omega
  | n + 1 => fun S w0 F lv g i gn hxl rs deep hd hi hn hgi => xpart_x l lv g i gn hxl hln hps rs n deep (hxpart hln hps n) hd hi (by omega) hgi
end Go.SK
