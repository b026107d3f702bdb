/- Layer 12: the document's program: counted parts; any part. -/
import Derived.Test.YtpomdenbgdgbhaaDoorE86
set_option linter.unusedVariables false
set_option linter.unusedSimpArgs false
set_option maxRecDepth 100000
namespace Go.SK
open Go Go.RowKit Go.Proofs
variable {S : Nat → Prop} {w0 : World} {F L : List Res}
section
variable {ks kP k2 : List RM} {k : Nd} {lo hi : Int} {lz : Bool} {b pp n : Nat}
theorem inf_pat {d d' : Pc} (hk : ks.map Prod.fst = timesC (pcN k) (clen k) lo.toNat b) (hp : pp = b + lo.toNat * clen k) (h : kP.map Prod.fst = pcN k (pp + 1)) (hi0 : hi < 0) :
    PatL (pp + clen k + 2) lz b (pcN (.rep k lo hi lz) b) [pp] ((ks ++ (stB (pp + 1) 0, d) :: (kP ++ [(stB pp pp, d')])).map Prod.fst) := by
  refine ⟨timesC (pcN k) (clen k) lo.toNat b, pcN k (pp + 1) ++ [stB pp pp], by simp [hk, h], by rw [timesC_len (pcN_len k), hp], ?_⟩
  show _ = pcN (.rep k lo hi lz) b
  rw [pcN, if_pos hi0, ← hp]
theorem inf_ok {rs : List Res} {d d' : Pc} {x y x' y' : Nat} (h : ∀ m ∈ ks, RmOk rs m) (h2 : ∀ m ∈ kP, RmOk rs m) : ∀ m ∈ ks ++ (stB x y, d) :: (kP ++ [(stB x' y', d')]), RmOk rs m := fun m hm => by
  rcases List.mem_append.1 hm with hm | hm
  · exact h m hm
  · rcases List.mem_cons.1 hm with rfl | hm
    · exact rmok_fork (stB_k _ _)
    · rcases List.mem_append.1 hm with hm | hm
      · exact h2 m hm
      · rw [List.mem_singleton.1 hm]; exact rmok_fork (stB_k _ _)
theorem fin_ok {rs : List Res} (h : ∀ m ∈ ks, RmOk rs m) (h2 : ∀ m ∈ k2, RmOk rs m) : ∀ m ∈ ks ++ k2, RmOk rs m := fun m hm => (List.mem_append.1 hm).elim (h m) (h2 m)
theorem fin_pat (hk : ks.map Prod.fst = timesC (pcN k) (clen k) lo.toNat b) (hp : pp = b + lo.toNat * clen k) (h : k2.map Prod.fst = mayU (pcN k) (clen k) n pp) (hn : n = hi.toNat - lo.toNat) (hi0 : ¬ hi < 0) :
    PatL (pp + n * (clen k + 1)) lz b (pcN (.rep k lo hi lz) b) (posN (clen k) n pp) ((ks ++ k2).map Prod.fst) := by
  rw [List.map_append, hk, h, pcN, if_neg hi0, ← hp, ← hn]
  exact patL_may (pcN_len k) n pp _ (by rw [timesC_len (pcN_len k), hp])
end
set_option maxHeartbeats 1000000
theorem xprogr_x (rs : List Res) (p : Pc) (lv : Value) (ms : List RM) (k : Nd) (q : Pc) (hk : p.k = 6) (h0 : 0 ≤ p.lo) (h1 : p.lo ≤ 100) (h2 : p.hi ≤ 100) (h3 : p.hi < 0 ∨ p.lo ≤ p.hi) (hz : fz rs ∈ F) (hkv : Rdb F p.kv 8 1 (encs [q])) (hlv : lv.oneCell' = true) (hb : ms.length + clen (.rep k p.lo p.hi p.lz) ≤ 5000) (ih : HProg rs k q) :
    CallX Tryd.prog 87 [lv, Pc.val p] S w0 (stRow lv (ms) :: F) (fun u L' => ∃ v' ks, u = v' ∧ PGR rs (pcN (.rep k p.lo p.hi p.lz) ms.length) ks v' ∧ L' = stRow v' (ms ++ ks) :: F) := by
 intro w hp
 obtain ⟨c, hc⟩ : ∃ c, clen k = c := ⟨_, rfl⟩
 obtain ⟨N, hN⟩ : ∃ N, p.lo.toNat = N := ⟨_, rfl⟩
 obtain ⟨R0, hR0⟩ : ∃ r, (if p.hi < 0 then c + 2 else (p.hi.toNat - N) * (c + 1)) = r := ⟨_, rfl⟩
 rw [clen, hc, hN, hR0] at hb
 refine calls_start Tryd.func87 rfl rfl rfl (hp) ?_
 refine TC.seq (TC.region ?_)
 refine TL.opX rfl (OpX.box (cs := (Pc.cs p)) rfl rfl) ?_; rintro _ _ ⟨g3, rfl, rfl⟩
 refine TL.as rfl rfl (TL.nil (TQ.then (TC.seq (TC.seq (TC.region (TL.opP rfl (op_field fld_sealskinref12_Part_Kind rfl) (TL.opV rfl (op_load ts_int rfl m0 rfl) (TL.nil (TQ.then (TC.block (TC.seq (TC.seq (TC.region (TL.opP rfl (op_eql rfl rfl) (TL.as rfl rfl (TL.nil (TQ.then ?_)))))))))))))))))
 refine TC.sp rfl (fun c1 => ?_) (fun c1 => ?_)
 ·omega
 ·refine TC.seq (TC.region (TL.opP rfl (op_eql rfl rfl) (TL.as rfl rfl (TL.nil (TQ.then ?_)))))
  refine TC.sp rfl (fun c2 => ?_) (fun c2 => ?_)
  ·omega
  ·refine TC.region (TL.opP rfl (op_eql rfl rfl) (TL.as rfl rfl (TL.nil (TQ.then ?_))))
   refine TC.sp rfl (fun c3 => ?_) (fun c3 => ?_)
   ·omega
   ·refine TC.seq (TC.region (TL.opP rfl (op_eql rfl rfl) (TL.as rfl rfl (TL.nil (TQ.then ?_)))))
    refine TC.sp rfl (fun c4 => ?_) (fun c4 => ?_)
    ·omega
    ·refine TC.seq (TC.region (TL.opP rfl (op_eql rfl rfl) (TL.as rfl rfl (TL.nil (TQ.then ?_)))))
     refine TC.sp rfl (fun c5 => ?_) (fun c5 => ?_)
     ·omega
     ·refine TC.seq (TC.region (TL.opP rfl (op_eql rfl rfl) (TL.as rfl rfl (TL.nil (TQ.then ?_)))))
      refine TC.sp rfl (fun c6 => ?_) (fun c6 => ?_)
      ·refine TC.seq (TC.seq (TC.region (TL.opP rfl (op_field fld_sealskinref12_Part_From rfl) (TL.opV rfl (op_load ts_int rfl m0 rfl) (TL.mv rfl rfl (TL.nil (TQ.then (TC.block ?_))))))))
       refine TC.loop (ι := Nat × Value × List RM) (fun (i, v, ks) => [(0, v), (3, .pointer (some ⟨g3, 0, none⟩)), (118, .int .i64 p.lo), (119, .int .i64 (i : Int))]) (fun (i, v, ks) => stRow v (ms ++ ks) :: .blk g3 (.cells (Pc.cs p).toArray 130 (0, 0)) :: F) (fun (i, v, ks) => (i : Int) ≤ p.lo ∧ PGR rs (timesC (pcN k) (clen k) i ms.length) ks v) (fun (i, v, ks) => p.lo.toNat - i) ((0, lv, [])) (⟨h0, .nil hlv⟩) ⟨rfl, rfl, rfl, rfl, trivial⟩ (fun _ h => by dsimp only; rw [List.append_nil]; exact h.pick1) ?_
       rintro ⟨i, v, ks⟩ ⟨hil, I⟩
       have hIl := I.len
       rw [timesC_len (pcN_len k), hc] at hIl
       show TC _ _ _ _ [(0, v), (3, .pointer (some ⟨g3, 0, none⟩)), (118, .int .i64 p.lo), (119, .int .i64 (i : Int))] _ _ (stRow v (ms ++ ks) :: .blk g3 (.cells (Pc.cs p).toArray 130 (0, 0)) :: F)
       refine TC.seq (TC.region (TL.opP rfl (op_lss rfl rfl) (TL.nil (TQ.then (TC.seq ?_)))))
       refine TC.sp rfl (fun c7 => ?_) (fun c7 => ?_)
       ·have hiN : i + 1 ≤ N := by omega
        have hic : (i + 1) * c ≤ N * c := Nat.mul_le_mul_right c hiN
        rw [Nat.succ_mul] at hic
        have hwl : (ms ++ ks).length = ms.length + i * c := by rw [List.length_append, hIl]
        refine TC.skip (TQ.then (TC.seq (TC.block (TC.region (TL.mv rfl rfl (TL.opP rfl (op_field fld_sealskinref12_Part_Kids rfl) (TL.opV rfl (op_load ts_sl_sealskinref12_Part rfl m1 rfl) (TL.opV rfl (op_index tsl_sealskinref12_Part rfl hkv.cons.cons rfl (by omega) (by omega)) (TL.opV rfl (op_loadRS tst_sealskinref12_Part rfl hkv.cons.cons (cs := Pc.cs q) rfl rfl (by decide)) ?_)))))))))
        refine TL.opX rfl (OpX.callX en_87 rfl (ih _ _ _ _ (ms ++ ks) (.tail _ hz) I.one (by rw [hwl, hc]; omega))) ?_; rintro vP1 _ ⟨_, kP1, rfl, hP1, rfl⟩
        refine TL.as rfl rfl (TL.nil (TQ.block_normal (TQ.then (TC.region (TL.opP rfl (op_add rfl rfl rfl (by omega) (by omega)) (TL.mv rfl rfl (TL.nil ?_)))))))
        exact TQ.round (i + 1, vP1, ks ++ kP1) (by (try dsimp only); exact ⟨by omega, by rw [timesC_snoc, hc, ← hwl]; rw [hc] at I; exact I.app hP1⟩) (by show p.lo.toNat - (i + 1) < p.lo.toNat - i; omega) ⟨rfl, rfl, rfl, rfl, trivial⟩ (fun _ h => by dsimp only; rw [← List.append_assoc]; exact h)
       ·obtain rfl : i = N := by omega
        obtain ⟨pp, hpp⟩ : ∃ pp, (ms ++ ks).length = pp := ⟨_, rfl⟩
        have hpe : pp = ms.length + i * c := by rw [← hpp, List.length_append, hIl]
        have hIe := I.eq
        rw [← hN] at hIe
        refine TC.exit (TQ.then_exit (TQ.loop_exit (TQ.block_hit (TQ.then (TC.seq (TC.region (TL.as rfl rfl (TL.hp (fun _ h => new_nil 3 1 h) (TL.nil (TQ.then ?_))))))))))
        refine TC.join (ι := Value × List RM × List Nat × Value) (fun (v, ks, pos, fv) => [(0, v), (3, .pointer (some ⟨g3, 0, none⟩)), (13, fv)]) (fun (v, ks, pos, fv) => stRow v (ms ++ ks) :: .row fv 3 1 (pos).length ((pos).map nv) :: .blk g3 (.cells (Pc.cs p).toArray 130 (0, 0)) :: F) (fun (v, ks, pos, fv) => v.oneCell' = true ∧ (∀ m ∈ ks, RmOk rs m) ∧ pos.length ≤ 5000 ∧ ∃ e, (ms ++ ks).length = e ∧ e ≤ 5000 ∧ PatL e p.lz ms.length (pcN (.rep k p.lo p.hi p.lz) ms.length) pos (ks.map Prod.fst)) ?_ ?_
        ·refine TC.seq (TC.region (TL.opP rfl (op_field fld_sealskinref12_Part_To rfl) (TL.opV rfl (op_load ts_int rfl m2 rfl) (TL.opP rfl (op_lss rfl rfl) (TL.nil (TQ.then ?_))))))
         refine TC.sp rfl (fun c8 => ?_) (fun c8 => ?_)
         ·rw [if_pos c8] at hR0
          have hpl3 : (ms ++ ks ++ [((stB (pp + 1) 0, default) : RM)]).length = pp + 1 := by rw [List.length_append, hpp]; rfl
          refine TC.seq (TC.region (TL.mv rfl rfl (TL.opV rfl (op_lenV rfl un_sl_sealskinref12_Step rfl rw1) ?_)))
          rw [hpp]
          refine TL.as rfl rfl (TL.nil (TQ.then (TC.seq (TC.region (TL.mv rfl rfl (TL.opP rfl (op_move rfl) ?_))))))
          refine TL.opX rfl (OpX.buildSlice (ps := #[(0, _)]) rfl (bs_int_1 _)) ?_; rintro _ _ ⟨g135, rfl, rfl⟩
          refine TL.hp (fun _ h => blk_row (k := 1) (m := 1) h rfl (by decide)) (TL.hp (fun _ h => h.pick1) ?_)
          refine TL.opX rfl (OpX.append (bytes := 8) tsl_int (by decide) (by decide) rfl rw1 (ints_one1 _) (by omega) (zs := ([pp]).map nv) rfl) ?_; rintro v2 _ rfl
          refine TL.know (fun _ h => row1 h) (fun o2 => (TL.hp (fun _ h => row_lenM h) (TL.as rfl rfl (TL.nil (TQ.then (TC.seq (TC.region (TL.mv rfl rfl (TL.mv rfl rfl (TL.opP rfl (op_add (r := ((pp + 1 : Nat) : Int)) rfl rfl (by omega) (by omega) (by omega)) (TL.opP rfl (op_build (ps := #[(0, _), (2, _)]) rfl (bl_sealskinref12_Step_02 _ _)) ?_)))))))))))
          refine TL.opX rfl (OpX.buildSlice (ps := #[(0, _)]) rfl (bs_sealskinref12_Step_1 ((stB (pp + 1) 0, default) : RM) _ (by kernel_rfl))) ?_; rintro _ _ ⟨g141, rfl, rfl⟩
          refine TL.hp (fun _ h => blk_row (k := 12) (m := 1) h rfl (by decide)) (TL.hp (fun _ h => h.pick3) ?_)
          refine TL.opX rfl (OpX.append (bytes := 128) tsl_sealskinref12_Step (by decide) (by decide) rfl rw1 (encs_one _) (by omega) (zs := encs (ms ++ ks ++ [((stB (pp + 1) 0, default) : RM)])) (encs_append _ _).symm) ?_; rintro v3 _ rfl
          refine TL.know (fun _ h => row1 h) (fun o3 => (TL.hp (fun _ h => row_len12 h) (TL.as rfl rfl (TL.nil (TQ.then (TC.seq (TC.region (TL.mv rfl rfl (TL.opP rfl (op_field fld_sealskinref12_Part_Kids rfl) (TL.opV rfl (op_load ts_sl_sealskinref12_Part rfl m4 rfl) (TL.opV rfl (op_index tsl_sealskinref12_Part rfl hkv.cons.cons.cons.cons.cons rfl (by omega) (by omega)) (TL.opV rfl (op_loadRS tst_sealskinref12_Part rfl hkv.cons.cons.cons.cons.cons (cs := Pc.cs q) rfl rfl (by decide)) ?_))))))))))))
          refine TL.opX rfl (OpX.callX en_87 rfl (ih _ _ _ _ (ms ++ ks ++ [((stB (pp + 1) 0, default) : RM)]) (.tail _ (.tail _ (.tail _ (.tail _ hz)))) (by assumption) (by rw [hpl3, hc]; omega))) ?_; rintro vP4 _ ⟨_, kP4, rfl, hP4, rfl⟩
          refine TL.opP rfl (op_assign rfl) ?_
          have hkl2 := hP4.len
          rw [pcN_len, hc] at hkl2
          have hP2 := hP4
          rw [hpl3] at hP2
          refine TL.nil (TQ.then (TC.region (TL.mv rfl rfl (TL.mv rfl rfl (TL.mv rfl rfl (TL.opP rfl (op_build (ps := #[(0, _), (2, _), (3, _)]) rfl (bl_sealskinref12_Step_023 _ _ _)) ?_))))))
          refine TL.opX rfl (OpX.buildSlice (ps := #[(0, _)]) rfl (bs_sealskinref12_Step_1 ((stB pp pp, default) : RM) _ (by kernel_rfl))) ?_; rintro _ _ ⟨g153, rfl, rfl⟩
          refine TL.hp (fun _ h => blk_row (k := 12) (m := 1) h rfl (by decide)) (TL.hp (fun _ h => h.pick1) ?_)
          refine TL.opX rfl (OpX.append (bytes := 128) tsl_sealskinref12_Step (by decide) (by decide) rfl rw1 (encs_one _) (by first | omega | (simp only [List.length_append, List.length_cons, List.length_nil]; omega)) (zs := encs (ms ++ ks ++ [((stB (pp + 1) 0, default) : RM)] ++ kP4 ++ [((stB pp pp, default) : RM)])) (encs_append _ _).symm) ?_; rintro v5 _ rfl
          refine TL.know (fun _ h => row1 h) (fun o5 => (TL.hp (fun _ h => row_len12 h) (TL.as rfl rfl (TL.nil ?_))))
          exact TQ.join (v5, ks ++ ((stB (pp + 1) 0, default) : RM) :: (kP4 ++ [((stB pp pp, default) : RM)]), [pp], v2) (⟨by assumption, inf_ok I.ok hP4.ok, by show 1 ≤ 5000; decide, _, by rw [← List.append_assoc, List.length_append, hpp, List.length_cons, List.length_append, hkl2, List.length_singleton], by omega, by have h := inf_pat (pp := pp) (lz := p.lz) (d := default) (d' := default) hIe (by rw [hN, hc]; exact hpe) hP2.eq c8; rw [hc] at h; exact h⟩) ⟨rfl, rfl, rfl, trivial⟩ (fun _ h => by dsimp only; have h := h.drop4.drop2.drop1; simpa only [List.append_assoc, List.cons_append, List.nil_append] using h)
         ·rw [if_neg c8] at hR0
          refine TC.seq (TC.region (TL.opP rfl (op_field fld_sealskinref12_Part_To rfl) (TL.opV rfl (op_load ts_int rfl m2 rfl) (TL.opP rfl (op_field fld_sealskinref12_Part_From rfl) (TL.opV rfl (op_load ts_int rfl m2 rfl) (TL.opP rfl (op_sub rfl rfl rfl (by omega) (by omega)) (TL.mv rfl rfl (TL.nil (TQ.then (TC.block ?_))))))))))
          refine TC.loop (ι := Nat × Value × List RM × Value) (fun (j, v2, k2, fv) => [(0, v2), (3, .pointer (some ⟨g3, 0, none⟩)), (13, fv), (159, .int .i64 (p.hi - p.lo)), (160, .int .i64 (j : Int))]) (fun (j, v2, k2, fv) => stRow v2 (ms ++ ks ++ k2) :: .row fv 3 1 (posN c j pp).length ((posN c j pp).map nv) :: .blk g3 (.cells (Pc.cs p).toArray 130 (0, 0)) :: F) (fun (j, v2, k2, fv) => (j : Int) ≤ p.hi - p.lo ∧ fv.oneCell' = true ∧ PGR rs (mayU (pcN k) c j pp) k2 v2) (fun (j, v2, k2, fv) => (p.hi - p.lo).toNat - j) ((0, v, [], nilS)) (⟨by omega, rfl, .nil I.one⟩) ⟨rfl, rfl, rfl, rfl, rfl, trivial⟩ (fun _ h => by dsimp only; rw [List.append_nil]; exact h.pick2.pick1.pick2) ?_
          rintro ⟨j, v2, k2, fv⟩ ⟨hjl, hfv, J⟩
          have hJl := J.len
          rw [mayU_len (fun b => (pcN_len k b).trans hc)] at hJl
          have hpn := posN_len c j pp
          show TC _ _ _ _ [(0, v2), (3, .pointer (some ⟨g3, 0, none⟩)), (13, fv), (159, .int .i64 (p.hi - p.lo)), (160, .int .i64 (j : Int))] _ _ (stRow v2 (ms ++ ks ++ k2) :: .row fv 3 1 (posN c j pp).length ((posN c j pp).map nv) :: .blk g3 (.cells (Pc.cs p).toArray 130 (0, 0)) :: F)
          refine TC.seq (TC.region (TL.opP rfl (op_lss rfl rfl) (TL.nil (TQ.then (TC.seq ?_)))))
          refine TC.sp rfl (fun c9 => ?_) (fun c9 => ?_)
          ·have hjM : j + 1 ≤ p.hi.toNat - i := by omega
           have hjc : (j + 1) * (c + 1) ≤ (p.hi.toNat - i) * (c + 1) := Nat.mul_le_mul_right _ hjM
           rw [Nat.succ_mul] at hjc
           obtain ⟨pj, hpj⟩ : ∃ pj, (ms ++ ks ++ k2).length = pj := ⟨_, rfl⟩
           have hpje : pj = pp + j * (c + 1) := by rw [← hpj, List.length_append, hpp, hJl]
           have hpl4 : (ms ++ ks ++ k2 ++ [((stB (pj + 1) 0, default) : RM)]).length = pj + 1 := by rw [List.length_append, hpj]; rfl
           refine TC.skip (TQ.then (TC.seq (TC.block (TC.seq (TC.region (TL.mv rfl rfl (TL.mv rfl rfl (TL.opV rfl (op_lenV rfl un_sl_sealskinref12_Step rfl rw0) ?_))))))))
           rw [hpj]
           refine TL.opX rfl (OpX.buildSlice (ps := #[(0, _)]) rfl (bs_int_1 _)) ?_; rintro _ _ ⟨g165, rfl, rfl⟩
           refine TL.hp (fun _ h => blk_row (k := 1) (m := 1) h rfl (by decide)) (TL.hp (fun _ h => h.pick2) ?_)
           refine TL.opX rfl (OpX.append (bytes := 8) tsl_int (by decide) (by decide) rfl rw1 (ints_one1 _) (by omega) (zs := (posN c (j + 1) pp).map nv) (by rw [posN_snoc, List.map_append, ← hpje]; rfl)) ?_; rintro v6 _ rfl
           refine TL.know (fun _ h => row1 h) (fun o6 => (TL.hp (fun _ h => row_lenM h) (TL.as rfl rfl (TL.nil (TQ.then (TC.seq (TC.region (TL.mv rfl rfl (TL.mv rfl rfl (TL.opV rfl (op_lenV rfl un_sl_sealskinref12_Step rfl rw2) ?_))))))))))
           rw [hpj]
           refine TL.opP rfl (op_add (r := ((pj + 1 : Nat) : Int)) rfl rfl (by omega) (by omega) (by omega)) (TL.opP rfl (op_build (ps := #[(0, _), (2, _)]) rfl (bl_sealskinref12_Step_02 _ _)) ?_)
           refine TL.opX rfl (OpX.buildSlice (ps := #[(0, _)]) rfl (bs_sealskinref12_Step_1 ((stB (pj + 1) 0, default) : RM) _ (by kernel_rfl))) ?_; rintro _ _ ⟨g172, rfl, rfl⟩
           refine TL.hp (fun _ h => blk_row (k := 12) (m := 1) h rfl (by decide)) (TL.hp (fun _ h => h.pick3) ?_)
           refine TL.opX rfl (OpX.append (bytes := 128) tsl_sealskinref12_Step (by decide) (by decide) rfl rw1 (encs_one _) (by omega) (zs := encs (ms ++ ks ++ k2 ++ [((stB (pj + 1) 0, default) : RM)])) (encs_append _ _).symm) ?_; rintro v7 _ rfl
           refine TL.know (fun _ h => row1 h) (fun o7 => (TL.hp (fun _ h => row_len12 h) (TL.as rfl rfl (TL.nil (TQ.then (TC.region (TL.mv rfl rfl (TL.opP rfl (op_field fld_sealskinref12_Part_Kids rfl) (TL.opV rfl (op_load ts_sl_sealskinref12_Part rfl m4 rfl) (TL.opV rfl (op_index tsl_sealskinref12_Part rfl hkv.cons.cons.cons.cons.cons rfl (by omega) (by omega)) (TL.opV rfl (op_loadRS tst_sealskinref12_Part rfl hkv.cons.cons.cons.cons.cons (cs := Pc.cs q) rfl rfl (by decide)) ?_)))))))))))
           refine TL.opX rfl (OpX.callX en_87 rfl (ih _ _ _ _ (ms ++ ks ++ k2 ++ [((stB (pj + 1) 0, default) : RM)]) (.tail _ (.tail _ (.tail _ (.tail _ hz)))) (by assumption) (by rw [hpl4, hc]; omega))) ?_; rintro vP8 _ ⟨_, kP8, rfl, hP8, rfl⟩
           refine TL.opP rfl (op_assign rfl) ?_
           have hP3 := hP8
           rw [hpl4] at hP3
           refine TL.nil (TQ.block_normal (TQ.then (TC.region (TL.opP rfl (op_add rfl rfl rfl (by omega) (by omega)) (TL.mv rfl rfl (TL.nil ?_))))))
           exact TQ.round (j + 1, vP8, k2 ++ ((stB (pj + 1) 0, default) : RM) :: kP8, v6) (by (try dsimp only); exact ⟨by omega, by assumption, by rw [mayU_snoc, ← hpje]; exact J.app ((PGR.st (v := vP8) hP8.one).app hP3)⟩) (by show (p.hi - p.lo).toNat - (j + 1) < (p.hi - p.lo).toNat - j; omega) ⟨rfl, rfl, rfl, rfl, rfl, trivial⟩ (fun _ h => by dsimp only; have h := h.drop3.drop1; simpa only [List.append_assoc, List.cons_append, List.nil_append] using h)
          ·refine TC.exit (TQ.then_exit (TQ.loop_exit (TQ.block_hit ?_)))
           exact TQ.join (v2, ks ++ k2, posN c j pp, fv) (⟨J.one, fin_ok I.ok J.ok, by rw [hpn]; omega, _, by rw [← List.append_assoc, List.length_append, hpp, hJl], by rw [show j = p.hi.toNat - i from by omega]; omega, by have h := fin_pat (pp := pp) (n := j) (lz := p.lz) hIe (by rw [hN, hc]; exact hpe) (by rw [hc]; exact J.eq) (by rw [hN]; omega) c8; rw [hc] at h; exact h⟩) ⟨rfl, rfl, rfl, trivial⟩ (fun _ h => by dsimp only; have h := h; simpa only [List.append_assoc, List.cons_append, List.nil_append] using h)
        ·clear I hIl hpp hpe hIe
         rintro ⟨v, ks, pos, fv⟩ ⟨hv, hoks, hpos, e, hle, he5, hpat⟩
         show TC _ _ _ _ [(0, v), (3, .pointer (some ⟨g3, 0, none⟩)), (13, fv)] _ _ (stRow v (ms ++ ks) :: .row fv 3 1 (pos).length ((pos).map nv) :: .blk g3 (.cells (Pc.cs p).toArray 130 (0, 0)) :: F)
         refine TC.seq (TC.region (TL.mv rfl rfl (TL.opV rfl (op_lenV rfl un_sl_int rfl rw1) (TL.mv rfl rfl (TL.nil (TQ.then (TC.block (TC.loop (ι := Nat × List RM) (fun (i, k3) => [(0, v), (3, .pointer (some ⟨g3, 0, none⟩)), (181, fv), (182, .int .i64 (pos.length : Int)), (183, .int .i64 (i : Int))]) (fun (i, k3) => stRow v (ms ++ k3) :: .row fv 3 1 (pos).length ((pos).map nv) :: .blk g3 (.cells (Pc.cs p).toArray 130 (0, 0)) :: F) (fun (i, k3) => i ≤ pos.length ∧ (∀ m ∈ k3, RmOk rs m) ∧ (ms ++ k3).length = e ∧ PatL e p.lz ms.length (pcN (.rep k p.lo p.hi p.lz) ms.length) (pos.drop i) (k3.map Prod.fst)) (fun (i, k3) => pos.length - i) ((0, ks)) (⟨Nat.zero_le _, hoks, hle, hpat⟩) ⟨rfl, rfl, rfl, rfl, rfl, trivial⟩ (fun _ h => h) ?_))))))))
         rintro ⟨i, k3⟩ ⟨hi, hok, hle2, hJ⟩
         show TC _ _ _ _ [(0, v), (3, .pointer (some ⟨g3, 0, none⟩)), (181, fv), (182, .int .i64 (pos.length : Int)), (183, .int .i64 (i : Int))] _ _ (stRow v (ms ++ k3) :: .row fv 3 1 (pos).length ((pos).map nv) :: .blk g3 (.cells (Pc.cs p).toArray 130 (0, 0)) :: F)
         refine TC.seq (TC.region (TL.opP rfl (op_lss rfl rfl) (TL.nil (TQ.then (TC.seq ?_)))))
         refine TC.sp rfl (fun c10 => ?_) (fun c10 => ?_)
         ·have hil : i < pos.length := by omega
          obtain ⟨pa, hpa⟩ : ∃ pa, pos.getD i default = pa := ⟨_, rfl⟩
          have hdr : pos.drop i = pa :: pos.drop (i + 1) := drop_getD hil hpa
          rw [hdr] at hJ
          obtain ⟨A, B, hA1, hA2, hA3⟩ := hJ
          obtain ⟨KA, q2, KB, rfl, hK1, hK2⟩ := map_split hA1
          have hKl : ms.length + KA.length = pa := by rw [← hA2, ← hK1, List.length_map]
          have hpe2 : pa < e := by rw [← hle2]; simp only [List.length_append, List.length_cons]; omega
          have hle3 : ∀ s : RM, (ms ++ KA ++ s :: KB).length = e := fun s => by rw [← hle2]; simp
          refine TC.skip (TQ.then (TC.seq (TC.block (TC.seq (TC.region (TL.opV rfl (op_index tsl_int rfl rw1 rfl (by omega) (by omega)) (TL.opV rfl (op_loadR ts_int rfl rw1 (lkM (f := nv) (i := i) (d := default) (by omega) hpa (by omega))) (TL.as rfl rfl (TL.nil (TQ.then (TC.seq (TC.region (TL.mv rfl rfl (TL.mv rfl rfl (TL.mv rfl rfl (TL.opV rfl (op_lenV rfl un_sl_sealskinref12_Step rfl rw0) ?_))))))))))))))))
          rw [hle2]
          refine TL.opV rfl (op_index tsl_sealskinref12_Step rfl rw0 rfl (by omega) (by omega)) (TL.opP rfl (op_fieldA fld_sealskinref12_Step_Y rfl) ?_)
          refine TL.opX0 (OpX.storeRow (k := 1) (fun w => by kernel_rfl) rfl rfl rfl (ys := [.int .i64 ((e : Nat) : Int)]) rfl (by decide) (List.all_eq_true.1 rfl) (by first | omega | (simp only [List.length_append, List.length_cons, List.length_nil]; omega)) (st_rm (A := ms ++ KA) (B := KB) (m := (stB (pa + 1) 0, q2)) (m' := (stB (pa + 1) e, q2)) (j := 10) (by simp) (by decide) (by first | omega | (simp only [List.length_append, List.length_cons, List.length_nil]; omega)) rfl)) ?_; rintro _ _ rfl
          refine TL.hp (fun _ h => row_len12 h) (TL.nil (TQ.then (TC.seq (TC.region (TL.opP rfl (op_field fld_sealskinref12_Part_Lazy rfl) (TL.opV rfl (op_load ts_bool rfl m2 rfl) (TL.nil (TQ.then ?_))))))))
          refine TC.sp rfl (fun c11 => ?_) (fun c11 => ?_)
          ·have hfk : fork (pa + 1) e p.lz = stB e (pa + 1) := by unfold fork; rw [if_pos c11]
           have hle4 := hle3 (stB (pa + 1) e, q2)
           have hle5 := hle3 (stB e e, q2)
           refine TC.seq (TC.region (TL.mv rfl rfl (TL.mv rfl rfl (TL.opV rfl (op_index tsl_sealskinref12_Step rfl rw0 rfl (by omega) (by omega)) (TL.opP rfl (op_fieldA fld_sealskinref12_Step_X rfl) ?_)))))
           refine TL.opV rfl (op_loadR ts_int rfl rw0 (lk_rm (A := ms ++ KA) (B := KB) (m := (stB (pa + 1) e, q2)) (j := 9) rfl (by first | omega | (simp only [List.length_append, List.length_cons, List.length_nil]; omega)) rfl)) ?_
           refine TL.as rfl rfl (TL.nil (TQ.then (TC.seq (TC.region (TL.mv rfl rfl (TL.mv rfl rfl (TL.mv rfl rfl (TL.mv rfl rfl (TL.opV rfl (op_index tsl_sealskinref12_Step rfl rw0 rfl (by omega) (by omega)) (TL.opP rfl (op_fieldA fld_sealskinref12_Step_Y rfl) ?_))))))))))
           refine TL.opV rfl (op_loadR ts_int rfl rw0 (lk_rm (A := ms ++ KA) (B := KB) (m := (stB (pa + 1) e, q2)) (j := 10) rfl (by first | omega | (simp only [List.length_append, List.length_cons, List.length_nil]; omega)) rfl)) ?_
           refine TL.opV rfl (op_index tsl_sealskinref12_Step rfl rw0 rfl (by omega) (by omega)) (TL.opP rfl (op_fieldA fld_sealskinref12_Step_X rfl) ?_)
           refine TL.opX0 (OpX.storeRow (k := 1) (fun w => by kernel_rfl) rfl rfl rfl (ys := [.int .i64 ((e : Nat) : Int)]) rfl (by decide) (List.all_eq_true.1 rfl) (by first | omega | (simp only [List.length_append, List.length_cons, List.length_nil]; omega)) (st_rm (A := ms ++ KA) (B := KB) (m := (stB (pa + 1) e, q2)) (m' := (stB e e, q2)) (j := 9) rfl (by decide) (by first | omega | (simp only [List.length_append, List.length_cons, List.length_nil]; omega)) rfl)) ?_; rintro _ _ rfl
           refine TL.hp (fun _ h => row_len12 h) (TL.nil (TQ.then (TC.region (TL.mv rfl rfl (TL.mv rfl rfl (TL.mv rfl rfl (TL.opV rfl (op_index tsl_sealskinref12_Step rfl rw0 rfl (by omega) (by omega)) (TL.opP rfl (op_fieldA fld_sealskinref12_Step_Y rfl) ?_))))))))
           refine TL.opX0 (OpX.storeRow (k := 1) (fun w => by kernel_rfl) rfl rfl rfl (ys := [.int .i64 ((pa + 1 : Nat) : Int)]) rfl (by decide) (List.all_eq_true.1 rfl) (by first | omega | (simp only [List.length_append, List.length_cons, List.length_nil]; omega)) (st_rm (A := ms ++ KA) (B := KB) (m := (stB e e, q2)) (m' := (stB e (pa + 1), q2)) (j := 10) rfl (by decide) (by first | omega | (simp only [List.length_append, List.length_cons, List.length_nil]; omega)) rfl)) ?_; rintro _ _ rfl
           refine TL.hp (fun _ h => row_len12 h) (TL.nil (TQ.block_normal (TQ.then (TC.region (TL.opP rfl (op_add rfl rfl rfl (by omega) (by omega)) (TL.mv rfl rfl (TL.nil ?_)))))))
           exact TQ.round (i + 1, KA ++ (fork (pa + 1) e p.lz, q2) :: KB) (by (try dsimp only); exact ⟨by omega, ok_patch hok (fork_k _ _ _), by rw [← List.append_assoc]; exact hle3 _, by rw [List.map_append, List.map_cons, hK1, hK2]; exact hA3⟩) (by show pos.length - (i + 1) < pos.length - i; omega) ⟨rfl, rfl, rfl, rfl, rfl, trivial⟩ (fun _ h => by dsimp only; rw [← List.append_assoc, hfk]; exact h)
          ·have hfk : fork (pa + 1) e p.lz = stB (pa + 1) e := by unfold fork; rw [if_neg (by rw [c11]; decide)]
           refine TC.skip (TQ.block_normal (TQ.then (TC.region (TL.opP rfl (op_add rfl rfl rfl (by omega) (by omega)) (TL.mv rfl rfl (TL.nil ?_))))))
           exact TQ.round (i + 1, KA ++ (fork (pa + 1) e p.lz, q2) :: KB) (by (try dsimp only); exact ⟨by omega, ok_patch hok (fork_k _ _ _), by rw [← List.append_assoc]; exact hle3 _, by rw [List.map_append, List.map_cons, hK1, hK2]; exact hA3⟩) (by show pos.length - (i + 1) < pos.length - i; omega) ⟨rfl, rfl, rfl, rfl, rfl, trivial⟩ (fun _ h => by dsimp only; rw [← List.append_assoc, hfk]; exact h)
         ·refine TC.exit (TQ.then_exit (TQ.loop_exit (TQ.block_hit (TQ.block_normal (TQ.then (TC.seq (TC.region (TL.mv rfl rfl (TL.as rfl rfl (TL.nil (TQ.then (TC.ret ?_))))))))))))
          refine ret1 rfl rfl (fun w' hp => ?_)
          exact ⟨_, _, rfl, ⟨_, k3, rfl, ⟨hv, by rw [List.drop_of_length_le (by omega)] at hJ; exact hJ, hok⟩, rfl⟩, (hp.drop2.drop1)⟩
      ·omega

theorem pcA_ne {k : List Nd} (h : NdOk 200 (.alt k)) : k ≠ [] := by cases h with | alt h _ => exact h
theorem clen_alt (k : List Nd) : clen (.alt k) = clens k + 2 * (k.length - 1) := by rw [clen]
theorem hprog : ∀ (n : Nat) (rs : List Res) (t : Nd) (p : Pc), t.size ≤ n → n ≤ 1000 → RNd rs t p → NdOk 200 t → HProg rs t p
  | 0, rs, t, p, h, _, _, _ => by cases t <;> simp [Nd.size] at h <;> omega
  | n + 1, rs, t, p, h, hn, hR, hok => fun S w0 F lv ms hz hlv hb => by
    have kids : ∀ (k : List Nd) (ps : List Pc), sizes k ≤ n → RNds rs k ps → (∀ x ∈ k, NdOk 200 x) → ∀ j, j < ps.length → HProg rs (k.getD j .bol) (ps.getD j default) := fun k ps hk hps hko j hj => by
      obtain ⟨a, b⟩ := hps.get j hj
      exact hprog n rs _ _ (by have := size_mem b; omega) (by omega) a (hko _ b)
    have ln : ∀ (k : List Nd), k.length ≤ sizes k := fun k => by
      induction k with
      | nil => exact Nat.le_refl _
      | cons a r ih => simp only [sizes, List.length_cons]; have : 1 ≤ a.size := by cases a <;> simp [Nd.size] <;> omega
                       omega
    cases t with
    | cls neg sp =>
      unfold RNd at hR
      obtain ⟨a, b, _, s', c, d⟩ := hR
      exact xprogl_x rs p lv ms neg sp _ hlv (by simp only [clen] at hb; exact hb) (fun _ => ⟨by rw [pcN], fun _ => ⟨b, s', c, d⟩⟩) (fun h => by omega) (fun h => by omega) (.inl a)
    | bol =>
      unfold RNd at hR
      exact xprogl_x rs p lv ms false [] _ hlv (by simp only [clen] at hb; exact hb) (fun h => by omega) (fun _ => by rw [pcN]) (fun h => by omega) (.inr (.inl hR.1))
    | eol =>
      unfold RNd at hR
      exact xprogl_x rs p lv ms false [] _ hlv (by simp only [clen] at hb; exact hb) (fun h => by omega) (fun h => by omega) (fun _ => by rw [pcN]) (.inr (.inr hR.1))
    | seq k =>
      unfold RNd at hR
      obtain ⟨a, ps, b, c⟩ := hR
      cases hok with
      | seq hk =>
        simp only [Nd.size] at h
        rw [clen] at hb
        have hl := c.len
        have := ln k
        have hq := xprogs_x (S := S) (w0 := w0) (F := F) rs p lv ms k ps a hz (rdb_fz hz b) hl.symm (by omega) hlv hb (kids k ps (by omega) c hk)
        rw [pcN]; exact hq
    | alt k =>
      have hne := pcA_ne hok
      unfold RNd at hR
      obtain ⟨a, ps, b, c⟩ := hR
      cases hok with
      | alt _ hk =>
        simp only [Nd.size] at h
        rw [clen_alt] at hb
        have hl := c.len
        have := ln k
        have hq := xproga_x (S := S) (w0 := w0) (F := F) rs p lv ms k ps a hne hz (rdb_fz hz b) hl.symm (by omega) hlv hb (kids k ps (by omega) c hk)
        rw [pcN]; exact hq
    | rep k lo hi lz =>
      unfold RNd at hR
      obtain ⟨a, hl, hh, hz2, q, b, c⟩ := hR
      cases hok with
      | rep hk h0 h1 h2 h3 =>
        subst hl hh hz2
        exact xprogr_x rs p lv ms k q a h0 h1 h2 h3 hz (rdb_fz hz b) hlv hb (hprog n rs k q (by simp only [Nd.size] at h; omega) (by omega) c hk)
    | grp k num =>
      unfold RNd at hR
      obtain ⟨a, hl, q, b, c⟩ := hR
      cases hok with
      | grp hk h0 h1 =>
        rw [clen] at hb
        exact xprogg_x rs p lv ms k q num a hl (by omega) hz (rdb_fz hz b) hlv (by omega) (hprog n rs k q (by simp only [Nd.size] at h; omega) (by omega) c hk)
end Go.SK
