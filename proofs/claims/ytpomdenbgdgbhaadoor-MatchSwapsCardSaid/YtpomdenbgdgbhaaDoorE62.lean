/- Walks: layer 12, the program's reader: parts within parts. -/
import Derived.Test.YtpomdenbgdgbhaaDoorE61
set_option linter.unusedVariables false
set_option linter.unusedSimpArgs false
set_option maxRecDepth 100000
namespace Go.SK
open Go Go.RowKit Go.Proofs
variable {S : Nat → Prop} {w0 : World} {F L : List Res}
theorem notin_step {ns : List Int} {c : Int} {k : Nat} (h : c ∉ ns.take k) (hk : k < ns.length) (hne : ¬ c = ns.getD k 0) : c ∉ ns.take (k + 1) := by
  rw [List.take_add_one, List.getElem?_eq_getElem hk]
  rw [List.getD_eq_getElem?_getD, List.getElem?_eq_getElem hk] at hne
  intro hm
  rcases List.mem_append.1 hm with h1 | h1
  · exact h h1
  · exact hne (by simpa using h1)
theorem index32_x (ns : List Int) (v : Value) (c : Int) (hr : Rdb L v 1 ns.length (ns.map (Value.int .i32))) :
    CallX Tryd.prog 161 [v, .int .i32 c] S w0 (L) (fun u L' => ∃ k, u = .int .i64 k ∧ (0 ≤ k ↔ c ∈ ns) ∧ L' = L) := by
 intro w hp
 have hlen := hr.lenLe hp
 refine calls_start Tryd.func161 rfl rfl rfl (hp) ?_
 refine TC.seq (TC.region (TL.as rfl rfl (TL.nil (TQ.then (TC.seq (TC.seq (TC.region (TL.mv rfl rfl (TL.opV rfl (op_lenV rfl un_sl_int32 rfl hr) (TL.mv rfl rfl (TL.nil (TQ.then (TC.block (TC.loop (ι := Nat) (fun k => [(0, v), (1, .int .i32 c), (7, .int .i64 (ns.length : Int)), (8, .int .i64 (k : Int))]) (fun k => L) (fun k => k ≤ ns.length ∧ c ∉ ns.take k) (fun k => ns.length - k) (0) (⟨Nat.zero_le _, by simp⟩) ⟨rfl, rfl, rfl, rfl, trivial⟩ (fun _ h => h) ?_))))))))))))))
 rintro k ⟨hk, hni⟩
 refine TC.seq (TC.region (TL.opP rfl (op_lss rfl rfl) (TL.nil (TQ.then (TC.seq ?_)))))
 refine TC.sp rfl (fun c1 => ?_) (fun c1 => ?_)
 ·refine TC.skip (TQ.then (TC.seq (TC.block (TC.seq (TC.region (TL.mv rfl rfl (TL.as rfl rfl (TL.nil (TQ.then (TC.seq (TC.region (TL.mv rfl rfl (TL.mv rfl rfl (TL.mv rfl rfl (TL.opV rfl (op_index tsl_int32 rfl hr rfl (by omega) (by omega)) (TL.opV rfl (op_loadR ts_int32 rfl hr (lkM (i := k) (d := 0) (by omega) rfl (by omega))) (TL.opP rfl (op_eql rfl rfl) (TL.nil (TQ.then ?_)))))))))))))))))))
  refine TC.sp rfl (fun c2 => ?_) (fun c2 => ?_)
  ·refine TC.seq (TC.region (TL.mv rfl rfl (TL.as rfl rfl (TL.nil (TQ.then (TC.ret (TQ.block_ret (TQ.then_ret (TQ.loop_ret (TQ.block_ret (TQ.then_ret ?_)))))))))))
   refine ret1 rfl rfl (fun w' hp => ?_)
   exact ⟨_, _, rfl, ⟨_, rfl, ⟨fun _ => c2 ▸ getD_mem' (by omega), fun _ => by omega⟩, rfl⟩, (hp)⟩
  ·refine TC.skip (TQ.block_normal (TQ.then (TC.region (TL.opP rfl (op_add rfl rfl rfl (by omega) (by omega)) (TL.mv rfl rfl (TL.nil ?_))))))
   exact TQ.round (k + 1) (⟨by omega, notin_step hni (by omega) c2⟩) (by show _ - (k + 1) < _ - k; omega) ⟨rfl, rfl, rfl, rfl, trivial⟩ (fun _ h => h)
 ·refine TC.exit (TQ.then_exit (TQ.loop_exit (TQ.block_hit (TQ.then (TC.seq (TC.region (TL.as rfl rfl (TL.nil (TQ.then (TC.ret ?_))))))))))
  refine ret1 rfl rfl (fun w' hp => ?_)
  exact ⟨_, _, rfl, ⟨_, rfl, ⟨fun h => by omega, fun h => absurd h (by rw [List.take_of_length_le (by omega)] at hni; exact hni)⟩, rfl⟩, (hp)⟩

theorem contains32_x (ns : List Int) (v : Value) (c : Int) (hr : Rdb L v 1 ns.length (ns.map (Value.int .i32))) :
    CallX Tryd.prog 157 [v, .int .i32 c] S w0 (L) (fun u L' => u = .bool (decide (c ∈ ns)) ∧ L' = L) := by
 intro w hp
 refine calls_start Tryd.func157 rfl rfl rfl (hp) ?_
 refine TC.seq (TC.region (TL.as rfl rfl (TL.nil (TQ.then (TC.seq (TC.region (TL.mv rfl rfl (TL.opP rfl (op_move rfl) ?_))))))))
 refine TL.opX rfl (OpX.callX en_161 rfl (index32_x ns v c hr)) ?_; rintro _ _ ⟨k1, rfl, h1, rfl⟩
 refine TL.opP rfl (op_geq rfl rfl) (TL.as rfl rfl (TL.nil (TQ.then (TC.ret ?_))))
 refine ret1 rfl rfl (fun w' hp => ?_)
 exact ⟨_, _, rfl, ⟨by rw [decide_eq_decide.2 h1], rfl⟩, (hp)⟩

/-- What a reader of parts, n deep, is held to. -/
def HPart (l : List Int) (n : Nat) : Prop := ∀ (S : Nat → Prop) (w0 : World) (F : List Res) (lv : Value) (g i gn : Nat) (hxl : Rdb F lv 1 l.length (l.map (Value.int .i32))) (rs : List Res) (deep : Nat), deep ≤ 20 → i < l.length → l.length < i + n → gn ≤ i →
  CallX Tryd.prog 155 [ptrV g, .int .i64 (deep : Int)] S w0 (fz rs :: .blk g (.cells [lv, .int .i64 (i : Int), .int .i64 (gn : Int)].toArray 193 (0, 0)) :: F) (fun u L' => ∃ rs' i' g' v e, u = .tuple #[v, .int .i64 e] ∧ PRes rs rs' (pPart l n deep i gn) i' g' v e ∧ L' = fz rs' :: .blk g (.cells [lv, .int .i64 ((i' : Nat) : Int), .int .i64 ((g' : Nat) : Int)].toArray 193 (0, 0)) :: F)
section
variable {l : List Int} {P : Nat → Nat → PR Nd} {i g j j2 g' : Nat} {t n : Nd} {e lo hi : Int}
theorem counted_err (h : P i g = .err e j) : countedF l P i g = .err e j := by unfold countedF; rw [h]
theorem counted_a (h : P i g = .ok t j g') (h2 : nx l j = 42) : countedF l P i g = lazyF l t 0 (-1) (j + 1) g' := by unfold countedF; rw [h]; exact if_pos h2
theorem counted_b (h : P i g = .ok t j g') (h2 : nx l j = 43) : countedF l P i g = lazyF l t 1 (-1) (j + 1) g' := by unfold countedF; rw [h]; exact (if_neg (by omega)).trans (if_pos h2)
theorem counted_c (h : P i g = .ok t j g') (h2 : nx l j = 63) : countedF l P i g = lazyF l t 0 1 (j + 1) g' := by unfold countedF; rw [h]; exact (if_neg (by omega)).trans ((if_neg (by omega)).trans (if_pos h2))
theorem counted_d (h : P i g = .ok t j g') (h2 : nx l j = 123) {k gt : Nat} (h3 : timesF l (j + 1) = .ok (lo, hi) k gt) : countedF l P i g = lazyF l t lo hi k g' := by
  unfold countedF; rw [h]; refine (if_neg (by omega)).trans ((if_neg (by omega)).trans ((if_neg (by omega)).trans ((if_pos h2).trans ?_))); rw [h3]
theorem counted_de (h : P i g = .ok t j g') (h2 : nx l j = 123) {k : Nat} (h3 : timesF l (j + 1) = .err e k) : countedF l P i g = .err e k := by
  unfold countedF; rw [h]; refine (if_neg (by omega)).trans ((if_neg (by omega)).trans ((if_neg (by omega)).trans ((if_pos h2).trans ?_))); rw [h3]
theorem counted_no (h : P i g = .ok t j g') (h1 : ¬ nx l j = 42) (h2 : ¬ nx l j = 43) (h3 : ¬ nx l j = 63) (h4 : ¬ nx l j = 123) : countedF l P i g = .ok t j g' := by
  unfold countedF; rw [h]; exact (if_neg h1).trans ((if_neg h2).trans ((if_neg h3).trans (if_neg h4)))
theorem counted_end (h : P i g = .ok t j g') (h1 : ¬ j < l.length) : countedF l P i g = .ok t j g' := by
  have := nx_out (l := l) (i := j) (by omega)
  exact counted_no h (by omega) (by omega) (by omega) (by omega)
theorem lazyF_eq {lz : Bool} (hj : (if nx l j = 63 then j + 1 else j) = j2) (hl : decide (nx l j = 63) = lz) : lazyF l n lo hi j g = if isRepB (nx l j2) then .err 90 j2 else .ok (.rep n lo hi lz) j2 g := by
  subst hj hl
  unfold lazyF
  by_cases h : nx l j = 63
  · rw [if_pos h, if_pos h, decide_eq_true h]
  · rw [if_neg h, if_neg h, decide_eq_false h]
theorem rep_mem {c : Int} : c ∈ [42, 43, 63, 123] ↔ isRepB c := by unfold isRepB; simp
end
theorem pcounted_x (l : List Int) (lv : Value) (g i gn : Nat) (hxl : Rdb F lv 1 l.length (l.map (Value.int .i32))) (hln : l.length ≤ 200) (rs : List Res) (n deep : Nat) (hP : HPart l n) (hd : deep ≤ 20) (hi : i < l.length) (hn : l.length < i + n) (hgi : gn ≤ i) :
    CallX Tryd.prog 154 [.pointer (some ⟨g, 0, none⟩), .int .i64 (deep : Int)] S w0 (fz rs :: .blk g (.cells [lv, .int .i64 (((i : Nat) : Int) : Int), .int .i64 (((gn : Nat) : Int) : Int)].toArray 193 (0, 0)) :: F) (fun u L' => ∃ rs' i' g' v e, u = .tuple #[v, .int .i64 e] ∧ PRes rs rs' (countedF l (pPart l n deep) i gn) i' g' v e ∧ L' = fz rs' :: .blk g (.cells [lv, .int .i64 (((i' : Nat) : Int) : Int), .int .i64 (((g' : Nat) : Int) : Int)].toArray 193 (0, 0)) :: F) := by
 intro w hp
 refine calls_start Tryd.func154 rfl rfl rfl (hp) ?_
 refine TC.seq (TC.region (TL.as rfl rfl (TL.as rfl rfl (TL.nil (TQ.then (TC.seq (TC.region (TL.mv rfl rfl (TL.opP rfl (op_move rfl) ?_)))))))))
 refine TL.opX rfl (OpX.callX en_155 rfl (hP _ _ _ _ _ _ _ hxl rs deep hd hi hn hgi)) ?_; rintro _ _ ⟨rz1, iz1, gz1, vz1, ez1, rfl, hR1, rfl⟩
 have hvo := hR1.one
 refine TL.mv rfl rfl (TL.opP rfl (op_extract rfl rfl) (TL.opP rfl (op_extract rfl rfl) (TL.as rfl rfl (TL.as rfl rfl (TL.nil (TQ.then (TC.seq (TC.seq (TC.region (TL.mv rfl rfl (TL.opP rfl (op_neq rfl rfl) (TL.opP rfl (op_move rfl) ?_))))))))))))
 refine TL.sp (fun c1 => ?_) (fun c1 => ?_)
 ·obtain ⟨hE, rfl⟩ := hR1.bad c1
  refine TL.gFt rfl rfl rfl (TL.gFt rfl rfl rfl (TL.gFt rfl rfl rfl (TL.opP rfl (op_pickT rfl rfl) (TL.nil (TQ.then (TC.condT rfl (TC.seq (TC.region (TL.mv rfl rfl (TL.mv rfl rfl (TL.as rfl rfl (TL.as rfl rfl (TL.nil (TQ.then (TC.ret (TQ.then_ret ?_))))))))))))))))
  refine ret2 rfl rfl rfl (fun w' hp => ?_)
  exact ⟨_, _, rfl, ⟨_, _, _, _, _, rfl, by (rw [counted_err hE]; exact .err hR1.sub c1), rfl⟩, (hp)⟩
 ·obtain ⟨t, hE, hPN⟩ := hR1.good c1
  have hA := pPart_adv n deep _ _ _ _ _ hi hE
  have hA1 := hA.lt
  have hA2 := hA.le
  obtain rfl : ez1 = 0 := by omega
  refine TL.gT rfl rfl (TL.mv rfl rfl (TL.gT rfl rfl (TL.hp (fun _ h => h.pick1) ?_)))
  refine TL.opX rfl (OpX.callX en_126 rfl (pmore_x l _ _ _ _ hxl.cons hln)) ?_; rintro _ _ ⟨rfl, rfl⟩
  refine TL.gT rfl rfl (TL.opP rfl (op_not rfl rfl) (TL.opP rfl (op_pickF rfl rfl) (TL.nil (TQ.then ?_))))
  refine TC.sp rfl (fun c2 => ?_) (fun c2 => ?_)
  ·refine TC.seq (TC.region (TL.mv rfl rfl (TL.mv rfl rfl (TL.as rfl rfl (TL.as rfl rfl (TL.nil (TQ.then (TC.ret (TQ.then_ret ?_)))))))))
   refine ret2 rfl rfl rfl (fun w' hp => ?_)
   exact ⟨_, _, rfl, ⟨_, _, _, _, _, rfl, by (rw [counted_end hE (by omega)]; exact ⟨hR1.sub, hvo, rfl, rfl, rfl, hPN⟩), rfl⟩, (hp.pick1)⟩
  ·refine TC.skip (TQ.then (TC.seq (TC.region (TL.as rfl rfl (TL.as rfl rfl (TL.nil (TQ.then ?_)))))))
   refine TC.join (ι := Int × Int × Nat) (fun (lo, hi, j) => [(0, .pointer (some ⟨g, 0, none⟩)), (6, vz1), (8, .int .i64 lo), (9, .int .i64 hi)]) (fun (lo, hi, j) => fz rz1 :: .blk g (.cells [lv, .int .i64 (((j : Nat) : Int) : Int), .int .i64 (((gz1 : Nat) : Int) : Int)].toArray 193 (0, 0)) :: F) (fun (lo, hi, j) => countedF l (pPart l n deep) i gn = lazyF l t lo hi j gz1 ∧ j ≤ l.length) ?_ ?_
   ·refine TC.block (TC.seq (TC.region (TL.opP rfl (op_move rfl) ?_)))
    refine TL.opX rfl (OpX.callX en_145 rfl (pis_x l _ _ _ _ hxl.cons hln 42 (by omega))) ?_; rintro _ _ ⟨rfl, rfl⟩
    refine TL.as rfl rfl (TL.nil (TQ.then ?_))
    refine TC.sp rfl (fun c3 => ?_) (fun c3 => ?_)
    ·rw [if_pos c3]
     have hlt := nx_some c3 (by decide)
     refine TC.region (TL.as rfl rfl (TL.as rfl rfl (TL.nil (TQ.block_normal ?_))))
     exact TQ.join (0, -1, iz1 + 1) (⟨(counted_a hE c3), by omega⟩) ⟨rfl, rfl, rfl, rfl, trivial⟩ (fun _ h => h.pick1)
    ·rw [if_neg c3]
     refine TC.seq (TC.region (TL.opP rfl (op_move rfl) ?_))
     refine TL.opX rfl (OpX.callX en_145 rfl (pis_x l _ _ _ _ hxl.cons hln 43 (by omega))) ?_; rintro _ _ ⟨rfl, rfl⟩
     refine TL.as rfl rfl (TL.nil (TQ.then ?_))
     refine TC.sp rfl (fun c4 => ?_) (fun c4 => ?_)
     ·rw [if_pos c4]
      have hlt := nx_some c4 (by decide)
      refine TC.region (TL.as rfl rfl (TL.as rfl rfl (TL.nil (TQ.block_normal ?_))))
      exact TQ.join (1, -1, iz1 + 1) (⟨(counted_b hE c4), by omega⟩) ⟨rfl, rfl, rfl, rfl, trivial⟩ (fun _ h => h.pick1)
     ·rw [if_neg c4]
      refine TC.seq (TC.region (TL.opP rfl (op_move rfl) ?_))
      refine TL.opX rfl (OpX.callX en_145 rfl (pis_x l _ _ _ _ hxl.cons hln 63 (by omega))) ?_; rintro _ _ ⟨rfl, rfl⟩
      refine TL.as rfl rfl (TL.nil (TQ.then ?_))
      refine TC.sp rfl (fun c5 => ?_) (fun c5 => ?_)
      ·rw [if_pos c5]
       have hlt := nx_some c5 (by decide)
       refine TC.region (TL.as rfl rfl (TL.as rfl rfl (TL.nil (TQ.block_normal ?_))))
       exact TQ.join (0, 1, iz1 + 1) (⟨(counted_c hE c5), by omega⟩) ⟨rfl, rfl, rfl, rfl, trivial⟩ (fun _ h => h.pick1)
      ·rw [if_neg c5]
       refine TC.seq (TC.region (TL.opP rfl (op_move rfl) ?_))
       refine TL.opX rfl (OpX.callX en_145 rfl (pis_x l _ _ _ _ hxl.cons hln 123 (by omega))) ?_; rintro _ _ ⟨rfl, rfl⟩
       refine TL.as rfl rfl (TL.nil (TQ.then ?_))
       refine TC.sp rfl (fun c6 => ?_) (fun c6 => ?_)
       ·rw [if_pos c6]
        have hlt := nx_some c6 (by decide)
        refine TC.seq (TC.region (TL.opP rfl (op_move rfl) ?_))
        refine TL.opX rfl (OpX.callX en_156 rfl (ptimes_x l _ _ _ _ hxl.cons hln (by omega))) ?_; rintro _ _ ⟨it7, lo7, hi7, et7, rfl, hT7, rfl⟩
        refine TL.mv rfl rfl (TL.opP rfl (op_extract rfl rfl) (TL.opP rfl (op_extract rfl rfl) (TL.opP rfl (op_extract rfl rfl) (TL.as rfl rfl (TL.as rfl rfl (TL.as rfl rfl (TL.nil (TQ.then (TC.seq (TC.region (TL.mv rfl rfl (TL.opP rfl (op_neq rfl rfl) (TL.nil (TQ.then ?_))))))))))))))
        refine TC.sp rfl (fun c7 => ?_) (fun c7 => ?_)
        ·have hE2 := hT7.bad c7
         refine TC.seq (TC.region (TL.mv rfl rfl (TL.as rfl rfl (TL.as rfl rfl (TL.nil (TQ.then (TC.ret (TQ.block_ret (TQ.join_ret ?_)))))))))
         refine ret2 rfl rfl rfl (fun w' hp => ?_)
         exact ⟨_, _, rfl, ⟨_, _, _, _, _, rfl, by (rw [counted_de hE c6 hE2]; exact .err hR1.sub c7), rfl⟩, (hp.pick1)⟩
        ·obtain ⟨gt, hE2⟩ := hT7.good c7
         have hB := timesF_adv (by omega) hE2
         refine TC.skip (TQ.block_normal ?_)
         exact TQ.join (lo7, hi7, it7) (⟨(counted_d hE c6 hE2), by omega⟩) ⟨rfl, rfl, rfl, rfl, trivial⟩ (fun _ h => h.pick1)
       ·rw [if_neg c6]
        refine TC.seq (TC.region (TL.mv rfl rfl (TL.as rfl rfl (TL.as rfl rfl (TL.nil (TQ.then (TC.ret (TQ.block_ret (TQ.join_ret ?_)))))))))
        refine ret2 rfl rfl rfl (fun w' hp => ?_)
        exact ⟨_, _, rfl, ⟨_, _, _, _, _, rfl, by (rw [counted_no hE c3 c4 c5 c6]; exact ⟨hR1.sub, hvo, rfl, rfl, rfl, hPN⟩), rfl⟩, (hp.pick1)⟩
   ·rintro ⟨lo, hi, j⟩ ⟨hcf, hj⟩
    show TC _ _ _ _ [(0, .pointer (some ⟨g, 0, none⟩)), (6, vz1), (8, .int .i64 lo), (9, .int .i64 hi)] _ _ (fz rz1 :: .blk g (.cells [lv, .int .i64 (((j : Nat) : Int) : Int), .int .i64 (((gz1 : Nat) : Int) : Int)].toArray 193 (0, 0)) :: F)
    refine TC.seq (TC.region (TL.opP rfl (op_move rfl) ?_))
    refine TL.opX rfl (OpX.buildSlice (ps := #[(0, _)]) rfl (bs_p_match_node_1 _)) ?_; rintro _ _ ⟨g49, rfl, rfl⟩
    refine TL.hp (fun _ h => blk_row (k := 1) (m := 1) h rfl (by decide)) ?_
    skip
    refine TL.mv rfl rfl (TL.mv rfl rfl (TL.mv rfl rfl (TL.hp (fun _ h => h.pick2) ?_)))
    refine TL.opX rfl (OpX.callX en_145 rfl (pis_x l _ _ _ _ hxl.cons.cons hln 63 (by omega))) ?_; rintro _ _ ⟨rfl, rfl⟩
    obtain ⟨j2, hj2⟩ : ∃ j2, (if nx l j = 63 then j + 1 else j) = j2 := ⟨_, rfl⟩
    obtain ⟨lz, hlz⟩ : ∃ b, decide (nx l j = 63) = b := ⟨_, rfl⟩
    have hlf := lazyF_eq (l := l) (n := t) (lo := lo) (hi := hi) (g := gz1) hj2 hlz
    rw [hj2, hlz]
    have hj2b : j2 ≤ l.length := by
      rw [← hj2]; split
      · have := nx_some ‹_› (by decide); omega
      · omega
    refine TL.opP rfl (op_build (ps := #[(0, _), (3, _), (4, _), (5, _), (6, _)]) rfl (bl_match_node_03456 _ _ _ _ _)) ?_
    refine TL.opX rfl (OpX.box (cs := _) rfl rfl) ?_; rintro _ _ ⟨g55, rfl, rfl⟩
    refine TL.as rfl rfl (TL.nil (TQ.then (TC.seq (TC.seq (TC.region (TL.mv rfl rfl (TL.hp (fun _ h => h.pick1) ?_)))))))
    refine TL.opX rfl (OpX.callX en_126 rfl (pmore_x l _ _ _ _ hxl.cons.cons.cons hln)) ?_; rintro _ _ ⟨rfl, rfl⟩
    refine TL.opP rfl (op_move rfl) ?_
    refine TL.sp (fun c8 => ?_) (fun c8 => ?_)
    ·refine TL.gT rfl rfl ?_
     refine TL.opX rfl (OpX.buildSlice (ps := #[(0, _), (1, _), (2, _), (3, _)]) rfl (bs_int32_4 _ _ _ _)) ?_; rintro _ _ ⟨g59, rfl, rfl⟩
     refine TL.hp (fun _ h => blk_row (k := 1) (m := 4) h rfl (by decide)) (TL.gT rfl rfl (TL.mv rfl rfl (TL.gT rfl rfl (TL.hp (fun _ h => h.pick1) ?_))))
     refine TL.opX rfl (OpX.callX en_153 rfl (pnext_x l _ _ _ _ hxl.cons.cons.cons.cons hln (by omega))) ?_; rintro _ _ ⟨rfl, rfl⟩
     refine TL.gT rfl rfl ?_
     refine TL.opX rfl (OpX.callX en_157 rfl (contains32_x [42, 43, 63, 123] _ _ rw1)) ?_; rintro _ _ ⟨rfl, rfl⟩
     refine TL.opP rfl (op_pickT rfl rfl) (TL.nil (TQ.then ?_))
     refine TC.sp rfl (fun c9 => ?_) (fun c9 => ?_)
     ·refine TC.seq (TC.region (TL.as rfl rfl (TL.as rfl rfl (TL.nil (TQ.then (TC.ret (TQ.then_ret ?_)))))))
      refine ret2 rfl rfl rfl (fun w' hp => ?_)
      exact ⟨_, _, rfl, ⟨_, _, _, _, _, rfl, by (rw [hcf, hlf, if_pos (rep_mem.1 c9)]; exact .err hR1.sub (by decide)), rfl⟩, Hp.drop1 (Hp.tail (hp.drop1.pick1.pick3.pick3))⟩
     ·refine TC.skip (TQ.then (TC.seq (TC.region (TL.mv rfl rfl (TL.as rfl rfl (TL.as rfl rfl (TL.nil (TQ.then (TC.ret ?_)))))))))
      refine ret2 rfl rfl rfl (fun w' hp => ?_)
      exact ⟨_, _, rfl, ⟨_, _, _, _, _, rfl, by (rw [hcf, hlf, if_neg (fun h => c9 (rep_mem.2 h))]; exact .rep hR1.sub hPN), rfl⟩, fz_blk (Hp.pick1 (fz_row (hp.drop1.pick1.pick3.pick3)))⟩
    ·refine TL.gFf rfl rfl rfl (TL.gFf rfl rfl rfl (TL.gFf rfl rfl rfl (TL.gFf rfl rfl rfl (TL.opP rfl (op_pickF rfl rfl) (TL.nil (TQ.then (TC.condF rfl (TC.skip (TQ.then (TC.seq (TC.region (TL.mv rfl rfl (TL.as rfl rfl (TL.as rfl rfl (TL.nil (TQ.then (TC.ret ?_)))))))))))))))))
     refine ret2 rfl rfl rfl (fun w' hp => ?_)
     exact ⟨_, _, rfl, ⟨_, _, _, _, _, rfl, by (rw [hcf, hlf, if_neg (by unfold isRepB; rw [nx_out (by omega)]; decide)]; exact .rep hR1.sub hPN), rfl⟩, fz_blk (Hp.pick1 (fz_row (hp.pick1.pick3.pick3)))⟩

theorem one_one {v : Value} (h : v.oneCell' = true) : ∀ u ∈ [v], u.oneCell' = true := fun u hu => by rw [List.mem_singleton.1 hu]; exact h
theorem one_snoc {vs : List Value} {v : Value} (h : ∀ u ∈ vs, u.oneCell' = true) (hv : v.oneCell' = true) : ∀ u ∈ vs ++ [v], u.oneCell' = true := fun u hu => by
  rcases List.mem_append.1 hu with hu | hu
  · exact h u hu
  · exact one_one hv u hu
theorem row_lenL {S : Nat → Prop} {w0 w : World} {L : List Res} {v : Value} {e m : Nat} {xs : List Value} (h : Hp S w0 w (.row v e 1 m xs :: L)) : Hp S w0 w (.row v e 1 xs.length xs :: L) := by
  have h1 : w.ownsRow 0 e 1 v m xs := h.at_ _ (.head _)
  have h2 : xs.length = m := by have := h1.1; omega
  rw [h2]; exact h
theorem PNds.single {rs : List Res} {k : List Nd} {v : Value} (h : PNds rs k [v]) : ∃ t, k = [t] ∧ PNd rs t v := by
  cases k with
  | nil => unfold PNds at h; cases h
  | cons t k =>
    have hl := h.len
    unfold PNds at h
    obtain ⟨v', r, e, a, b⟩ := h
    cases e
    cases k with
    | nil => exact ⟨t, rfl, a⟩
    | cons s k => cases hl
section
variable {l : List Int} {P : Nat → Nat → PR Nd} {f i g j g' deep : Nat} {t : Nd} {acc : List Nd} {e : Int}
theorem rowGo_on (h1 : i < l.length) (h2 : nx l i ≠ 124) (h3 : nx l i ≠ 41) (h : countedF l P i g = .ok t j g') : rowGo l P (f + 1) i g acc = rowGo l P f j g' (acc ++ [t]) := by rw [rowGo, if_pos ⟨h1, h2, h3⟩, h]
theorem rowGo_err (h1 : i < l.length) (h2 : nx l i ≠ 124) (h3 : nx l i ≠ 41) (h : countedF l P i g = .err e j) : rowGo l P (f + 1) i g acc = .err e j := by rw [rowGo, if_pos ⟨h1, h2, h3⟩, h]
theorem rowGo_end (h : ¬ (i < l.length ∧ nx l i ≠ 124 ∧ nx l i ≠ 41)) : rowGo l P (f + 1) i g acc = .ok (.seq acc) i g := by rw [rowGo, if_neg h]
theorem altGo_on (h1 : nx l i = 124) (h : rowF l P (i + 1) g = .ok t j g') : altGo l P (f + 1) i g acc = altGo l P f j g' (acc ++ [t]) := by rw [altGo, if_pos h1, h]
theorem altGo_err (h1 : nx l i = 124) (h : rowF l P (i + 1) g = .err e j) : altGo l P (f + 1) i g acc = .err e j := by rw [altGo, if_pos h1, h]
theorem altGo_end (h1 : ¬ nx l i = 124) : altGo l P (f + 1) i g acc = .ok (.alt acc) i g := by rw [altGo, if_neg h1]
theorem either_deep (h : 20 < deep) : eitherF l P deep i g = .err 4 i := if_pos h
theorem either_err (h : ¬ (20 : Int) < (deep : Int)) (h2 : rowF l P i g = .err e j) : eitherF l P deep i g = .err e j := by unfold eitherF; rw [if_neg (by omega), h2]
theorem either_ok (h : ¬ (20 : Int) < (deep : Int)) (h2 : rowF l P i g = .ok t j g') : eitherF l P deep i g = altGo l P (l.length + 1 - j) j g' [t] := by unfold eitherF; rw [if_neg (by omega), h2]
end
theorem prow_x (l : List Int) (lv : Value) (g i gn : Nat) (hxl : Rdb F lv 1 l.length (l.map (Value.int .i32))) (hln : l.length ≤ 200) (rs : List Res) (n deep : Nat) (hP : HPart l n) (hd : deep ≤ 20) (hi : i ≤ l.length) (hn : l.length < i + n) (hgi : gn ≤ i) :
    CallX Tryd.prog 144 [.pointer (some ⟨g, 0, none⟩), .int .i64 (deep : Int)] S w0 (fz rs :: .blk g (.cells [lv, .int .i64 (((i : Nat) : Int) : Int), .int .i64 (((gn : Nat) : Int) : Int)].toArray 193 (0, 0)) :: F) (fun u L' => ∃ rs' i' g' v e, u = .tuple #[v, .int .i64 e] ∧ PRes rs rs' (rowF l (pPart l n deep) i gn) i' g' v e ∧ L' = fz rs' :: .blk g (.cells [lv, .int .i64 (((i' : Nat) : Int) : Int), .int .i64 (((g' : Nat) : Int) : Int)].toArray 193 (0, 0)) :: F) := by
 intro w hp
 refine calls_start Tryd.func144 rfl rfl rfl (hp) ?_
 refine TC.seq (TC.region (TL.as rfl rfl (TL.as rfl rfl (TL.nil (TQ.then (TC.seq (TC.region (TL.opP rfl (op_build (ps := #[(0, _)]) rfl (bl_match_node_0 _)) ?_))))))))
 refine TL.opX rfl (OpX.box (cs := _) rfl rfl) ?_; rintro _ _ ⟨g10, rfl, rfl⟩
 refine TL.hp (fun _ h => new_nil 146 1 h) (TL.as rfl rfl (TL.nil (TQ.then (TC.seq (TC.block ?_)))))
 refine TC.loop (ι := Nat × Nat × Nat × List Nd × List Value × Value × List Res) (fun (f, k, gk, acc, vs, kv, rs1) => [(0, .pointer (some ⟨g, 0, none⟩)), (1, .int .i64 (deep : Int)), (6, .pointer (some ⟨g10, 0, none⟩))]) (fun (f, k, gk, acc, vs, kv, rs1) => .blk g10 (.cells (nodeC 4 false nilS kv 0 0 false 0).toArray 198 (0, 0)) :: .row kv 146 1 (vs).length (vs) :: fz rs1 :: .blk g (.cells [lv, .int .i64 (((k : Nat) : Int) : Int), .int .i64 (((gk : Nat) : Int) : Int)].toArray 193 (0, 0)) :: F) (fun (f, k, gk, acc, vs, kv, rs1) => k ≤ l.length ∧ l.length < k + f ∧ l.length < k + n ∧ gk ≤ k ∧ acc.length ≤ k + 1 ∧ kv.oneCell' = true ∧ (∀ u ∈ vs, u.oneCell' = true) ∧ rs ⊆ rs1 ∧ PNds rs1 acc vs ∧ rowGo l (pPart l n deep) f k gk acc = rowF l (pPart l n deep) i gn) (fun (f, k, gk, acc, vs, kv, rs1) => l.length - k) ((l.length + 1 - i, i, gn, [], [], .slice none 0 0, rs)) (⟨hi, by omega, hn, hgi, Nat.zero_le _, rfl, by simp, fun _ hx => hx, by unfold PNds; rfl, rfl⟩) ⟨rfl, rfl, rfl, trivial⟩ (fun _ h => h.pick3.pick3.pick2.pick3) ?_
 rintro ⟨f, k, gk, acc, vs, kv, rs1⟩ ⟨hk, hf, hkn, hgk, hal, hkv, hvs1, hrs, hvs, hg⟩
 obtain ⟨f, rfl⟩ : ∃ f', f = f' + 1 := ⟨f - 1, by omega⟩
 have hvl := hvs.len
 show TC _ _ _ _ [(0, .pointer (some ⟨g, 0, none⟩)), (1, .int .i64 (deep : Int)), (6, .pointer (some ⟨g10, 0, none⟩))] _ _ (.blk g10 (.cells (nodeC 4 false nilS kv 0 0 false 0).toArray 198 (0, 0)) :: .row kv 146 1 (vs).length (vs) :: fz rs1 :: .blk g (.cells [lv, .int .i64 (((k : Nat) : Int) : Int), .int .i64 (((gk : Nat) : Int) : Int)].toArray 193 (0, 0)) :: F)
 refine TC.seq (TC.seq (TC.region (TL.mv rfl rfl (TL.hp (fun _ h => h.pick3) ?_))))
 refine TL.opX rfl (OpX.callX en_126 rfl (pmore_x l _ _ _ _ hxl.cons.cons.cons hln)) ?_; rintro _ _ ⟨rfl, rfl⟩
 refine TL.opP rfl (op_move rfl) ?_
 refine TL.sp (fun c1 => ?_) (fun c1 => ?_)
 ·refine TL.gT rfl rfl (TL.mv rfl rfl (TL.gT rfl rfl ?_))
  refine TL.opX rfl (OpX.callX en_153 rfl (pnext_x l _ _ _ _ hxl.cons.cons.cons hln (by omega))) ?_; rintro _ _ ⟨rfl, rfl⟩
  refine TL.gT rfl rfl (TL.opP rfl (op_neq rfl rfl) (TL.opP rfl (op_pickT rfl rfl) (TL.opP rfl (op_move rfl) ?_)))
  refine TL.sp (fun c2 => ?_) (fun c2 => ?_)
  ·refine TL.gT rfl rfl (TL.mv rfl rfl (TL.gT rfl rfl ?_))
   refine TL.opX rfl (OpX.callX en_153 rfl (pnext_x l _ _ _ _ hxl.cons.cons.cons hln (by omega))) ?_; rintro _ _ ⟨rfl, rfl⟩
   refine TL.gT rfl rfl (TL.opP rfl (op_neq rfl rfl) (TL.opP rfl (op_pickT rfl rfl) (TL.nil (TQ.then ?_))))
   refine TC.sp rfl (fun c3 => ?_) (fun c3 => ?_)
   ·refine TC.skip (TQ.then (TC.block (TC.seq (TC.region (TL.mv rfl rfl (TL.mv rfl rfl (TL.hp (fun _ h => h.pick3) ?_)))))))
    refine TL.opX rfl (OpX.callX en_154 rfl (pcounted_x l _ _ _ _ hxl.cons.cons hln rs1 n deep hP hd (by omega) (by omega) (by omega))) ?_; rintro _ _ ⟨rz4, iz4, gz4, vz4, ez4, rfl, hR4, rfl⟩
    have hvo := hR4.one
    refine TL.mv rfl rfl (TL.opP rfl (op_extract rfl rfl) (TL.opP rfl (op_extract rfl rfl) (TL.as rfl rfl (TL.as rfl rfl (TL.nil (TQ.then (TC.seq (TC.seq (TC.region (TL.mv rfl rfl (TL.opP rfl (op_neq rfl rfl) (TL.nil (TQ.then ?_)))))))))))))
    refine TC.sp rfl (fun c4 => ?_) (fun c4 => ?_)
    ·obtain ⟨hE, rfl⟩ := hR4.bad c4
     refine TC.seq (TC.region (TL.mv rfl rfl (TL.as rfl rfl (TL.as rfl rfl (TL.nil (TQ.then (TC.ret (TQ.then_ret (TQ.block_ret (TQ.loop_ret (TQ.block_ret (TQ.then_ret ?_))))))))))))
     refine ret2 rfl rfl rfl (fun w' hp => ?_)
     exact ⟨_, _, rfl, ⟨_, _, _, _, _, rfl, by (rw [← hg, rowGo_err (by omega) c2 c3 hE]; exact .err (fun x hx => hR4.sub (hrs hx)) c4), rfl⟩, Hp.drop1 (Hp.tail (hp.pick1.pick2.pick2.pick3))⟩
    ·obtain ⟨t, hE, hPN⟩ := hR4.good c4
     have hA := countedF_adv (pPart_adv n deep) (by omega) hE
     have hA1 := hA.lt
     have hA2 := hA.le
     have hA3 := hA.g1
     refine TC.skip (TQ.then (TC.region (TL.mv rfl rfl (TL.mv rfl rfl (TL.opP rfl (op_nilCheck rfl) (TL.opP rfl (op_field fld_match_node_kids rfl) (TL.opV rfl (op_load ts_sl_p_match_node rfl m2 rfl) (TL.opP rfl (op_move rfl) ?_))))))))
     refine TL.opX rfl (OpX.buildSlice (ps := #[(0, _)]) rfl (bs_p_match_node_1 _)) ?_; rintro _ _ ⟨g38, rfl, rfl⟩
     refine TL.hp (fun _ h => blk_row (k := 1) (m := 1) h rfl (by decide)) (TL.hp (fun _ h => h.pick4) ?_)
     refine TL.opX rfl (OpX.append (bytes := 8) tsl_p_match_node (by decide) (by decide) rfl rw1 (one_one hvo) (by omega) (zs := vs ++ [vz4]) rfl) ?_; rintro v5 _ rfl
     refine TL.know (fun _ h => row1 h) (fun o5 => (TL.hp (fun _ h => row_lenL h) (TL.opP rfl (op_nilCheck rfl) (TL.opP rfl (op_field fld_match_node_kids rfl) (TL.hp (fun _ h => h.pick4) ?_)))))
     refine TL.opX0 (OpX.store1 ts_sl_p_match_node rfl rfl (by first | rfl | assumption) rfl rfl) ?_; rintro _ _ rfl
     refine TL.nil (TQ.block_normal ?_)
     exact TQ.round (f, iz4, gz4, acc ++ [t], vs ++ [vz4], v5, rz4) (⟨hA2, by omega, by omega, by omega, by rw [List.length_append, List.length_singleton]; omega, by assumption, one_snoc hvs1 hvo, fun x hx => hR4.sub (hrs hx), (hvs.mono hR4.sub _ _).snoc hPN, by rw [← hg, rowGo_on (by omega) c2 c3 hE]⟩) (by show _ - _ < _ - k; omega) ⟨rfl, rfl, rfl, trivial⟩ (fun _ h => h.drop2)
   ·refine TC.exit (TQ.then_exit (TQ.loop_exit (TQ.block_hit (TQ.then (TC.seq (TC.region (TL.mv rfl rfl (TL.as rfl rfl (TL.as rfl rfl (TL.nil (TQ.then (TC.ret ?_))))))))))))
    refine ret2 rfl rfl rfl (fun w' hp => ?_)
    exact ⟨_, _, rfl, ⟨_, _, _, _, _, rfl, by (rw [← hg, rowGo_end (by omega)]; exact .seq hrs hvs), rfl⟩, fz_blk (Hp.pick1 (fz_row (hp.pick1.pick3.pick3)))⟩
  ·refine TL.gFf rfl rfl rfl (TL.gFf rfl rfl rfl (TL.gFf rfl rfl rfl (TL.opP rfl (op_pickF rfl rfl) (TL.nil (TQ.then (TC.condF rfl (TC.exit (TQ.then_exit (TQ.loop_exit (TQ.block_hit (TQ.then (TC.seq (TC.region (TL.mv rfl rfl (TL.as rfl rfl (TL.as rfl rfl (TL.nil (TQ.then (TC.ret ?_)))))))))))))))))))
   refine ret2 rfl rfl rfl (fun w' hp => ?_)
   exact ⟨_, _, rfl, ⟨_, _, _, _, _, rfl, by (rw [← hg, rowGo_end (by omega)]; exact .seq hrs hvs), rfl⟩, fz_blk (Hp.pick1 (fz_row (hp.pick1.pick3.pick3)))⟩
 ·refine TL.gFf rfl rfl rfl (TL.gFf rfl rfl rfl (TL.gFf rfl rfl rfl (TL.opP rfl (op_pickF rfl rfl) (TL.mv rfl rfl (TL.gFf rfl rfl rfl (TL.gFf rfl rfl rfl (TL.gFf rfl rfl rfl (TL.opP rfl (op_pickF rfl rfl) (TL.nil (TQ.then (TC.condF rfl (TC.exit (TQ.then_exit (TQ.loop_exit (TQ.block_hit (TQ.then (TC.seq (TC.region (TL.mv rfl rfl (TL.as rfl rfl (TL.as rfl rfl (TL.nil (TQ.then (TC.ret ?_))))))))))))))))))))))))
  refine ret2 rfl rfl rfl (fun w' hp => ?_)
  exact ⟨_, _, rfl, ⟨_, _, _, _, _, rfl, by (rw [← hg, rowGo_end (by omega)]; exact .seq hrs hvs), rfl⟩, fz_blk (Hp.pick1 (fz_row (hp.pick1.pick3.pick3)))⟩

theorem peither_x (l : List Int) (lv : Value) (g i gn : Nat) (hxl : Rdb F lv 1 l.length (l.map (Value.int .i32))) (hln : l.length ≤ 200) (rs : List Res) (n deep : Nat) (hP : HPart l n) (hd : deep ≤ 21) (hi : i ≤ l.length) (hn : l.length < i + n) (hgi : gn ≤ i) :
    CallX Tryd.prog 125 [.pointer (some ⟨g, 0, none⟩), .int .i64 (deep : Int)] S w0 (fz rs :: .blk g (.cells [lv, .int .i64 (((i : Nat) : Int) : Int), .int .i64 (((gn : Nat) : Int) : Int)].toArray 193 (0, 0)) :: F) (fun u L' => ∃ rs' i' g' v e, u = .tuple #[v, .int .i64 e] ∧ PRes rs rs' (eitherF l (pPart l n deep) deep i gn) i' g' v e ∧ L' = fz rs' :: .blk g (.cells [lv, .int .i64 (((i' : Nat) : Int) : Int), .int .i64 (((g' : Nat) : Int) : Int)].toArray 193 (0, 0)) :: F) := by
 intro w hp
 refine calls_start Tryd.func125 rfl rfl rfl (hp) ?_
 refine TC.seq (TC.region (TL.as rfl rfl (TL.as rfl rfl (TL.nil (TQ.then (TC.seq (TC.seq (TC.region (TL.mv rfl rfl (TL.opP rfl (op_gtr rfl rfl) (TL.nil (TQ.then ?_))))))))))))
 refine TC.sp rfl (fun c1 => ?_) (fun c1 => ?_)
 ·refine TC.seq (TC.region (TL.as rfl rfl (TL.as rfl rfl (TL.nil (TQ.then (TC.ret (TQ.then_ret ?_)))))))
  refine ret2 rfl rfl rfl (fun w' hp => ?_)
  exact ⟨_, _, rfl, ⟨_, _, _, _, _, rfl, by (rw [either_deep (by omega)]; exact .err (fun _ hx => hx) (by decide)), rfl⟩, (hp)⟩
 ·refine TC.skip (TQ.then (TC.seq (TC.region (TL.mv rfl rfl (TL.opP rfl (op_move rfl) ?_)))))
  refine TL.opX rfl (OpX.callX en_144 rfl (prow_x l _ _ _ _ hxl hln rs n deep hP (by omega) (by omega) (by omega) (by omega))) ?_; rintro _ _ ⟨rz1, iz1, gz1, vz1, ez1, rfl, hR1, rfl⟩
  have hvo := hR1.one
  refine TL.mv rfl rfl (TL.opP rfl (op_extract rfl rfl) (TL.opP rfl (op_extract rfl rfl) (TL.as rfl rfl (TL.as rfl rfl (TL.nil (TQ.then (TC.seq (TC.seq (TC.region (TL.mv rfl rfl (TL.opP rfl (op_neq rfl rfl) (TL.nil (TQ.then ?_)))))))))))))
  refine TC.sp rfl (fun c2 => ?_) (fun c2 => ?_)
  ·obtain ⟨hE, rfl⟩ := hR1.bad c2
   refine TC.seq (TC.region (TL.mv rfl rfl (TL.as rfl rfl (TL.as rfl rfl (TL.nil (TQ.then (TC.ret (TQ.then_ret ?_))))))))
   refine ret2 rfl rfl rfl (fun w' hp => ?_)
   exact ⟨_, _, rfl, ⟨_, _, _, _, _, rfl, by (rw [either_err c1 hE]; exact .err hR1.sub c2), rfl⟩, (hp)⟩
  ·obtain ⟨t, hE, hPN⟩ := hR1.good c2
   obtain ⟨a1, a2, a3, a4, a5, a6⟩ := rowF_adv (pPart_adv n deep) hi hE
   refine TC.skip (TQ.then (TC.seq (TC.region (TL.opP rfl (op_move rfl) ?_))))
   refine TL.opX rfl (OpX.buildSlice (ps := #[(0, _)]) rfl (bs_p_match_node_1 _)) ?_; rintro _ _ ⟨g21, rfl, rfl⟩
   refine TL.hp (fun _ h => blk_row (k := 1) (m := 1) h rfl (by decide)) ?_
   skip
   refine TL.opP rfl (op_build (ps := #[(0, _), (3, _)]) rfl (bl_match_node_03 _ _)) ?_
   refine TL.opX rfl (OpX.box (cs := _) rfl rfl) ?_; rintro _ _ ⟨g23, rfl, rfl⟩
   refine TL.as rfl rfl (TL.nil (TQ.then (TC.seq (TC.block ?_))))
   refine TC.loop (ι := Nat × Nat × Nat × List Nd × List Value × Value × List Res) (fun (f, k, gk, acc, vs, kv, rs1) => [(0, .pointer (some ⟨g, 0, none⟩)), (1, .int .i64 (deep : Int)), (8, .pointer (some ⟨g23, 0, none⟩))]) (fun (f, k, gk, acc, vs, kv, rs1) => .blk g23 (.cells (nodeC 5 false nilS kv 0 0 false 0).toArray 198 (0, 0)) :: .row kv 146 1 (vs).length (vs) :: fz rs1 :: .blk g (.cells [lv, .int .i64 (((k : Nat) : Int) : Int), .int .i64 (((gk : Nat) : Int) : Int)].toArray 193 (0, 0)) :: F) (fun (f, k, gk, acc, vs, kv, rs1) => k ≤ l.length ∧ l.length < k + f ∧ l.length < k + n ∧ gk ≤ k ∧ acc.length ≤ k + 1 ∧ kv.oneCell' = true ∧ (∀ u ∈ vs, u.oneCell' = true) ∧ rs ⊆ rs1 ∧ PNds rs1 acc vs ∧ altGo l (pPart l n deep) f k gk acc = eitherF l (pPart l n deep) deep i gn) (fun (f, k, gk, acc, vs, kv, rs1) => l.length - k) ((l.length + 1 - iz1, iz1, gz1, [t], [vz1], .slice (some ⟨g21, 0, none⟩) 1 1, rz1)) (⟨a2, by omega, by omega, by omega, by (show 1 ≤ _; omega), rfl, one_one hvo, hR1.sub, by (unfold PNds; exact ⟨_, [], rfl, hPN, by unfold PNds; rfl⟩), by rw [either_ok c1 hE]⟩) ⟨rfl, rfl, rfl, trivial⟩ (fun _ h => h) ?_
   clear hvo hPN hE a1 a2 a3 a4 a5 a6
   rintro ⟨f, k, gk, acc, vs, kv, rs1⟩ ⟨hk, hf, hkn, hgk, hal, hkv, hvs1, hrs, hvs, hg⟩
   obtain ⟨f, rfl⟩ : ∃ f', f = f' + 1 := ⟨f - 1, by omega⟩
   have hvl := hvs.len
   show TC _ _ _ _ [(0, .pointer (some ⟨g, 0, none⟩)), (1, .int .i64 (deep : Int)), (8, .pointer (some ⟨g23, 0, none⟩))] _ _ (.blk g23 (.cells (nodeC 5 false nilS kv 0 0 false 0).toArray 198 (0, 0)) :: .row kv 146 1 (vs).length (vs) :: fz rs1 :: .blk g (.cells [lv, .int .i64 (((k : Nat) : Int) : Int), .int .i64 (((gk : Nat) : Int) : Int)].toArray 193 (0, 0)) :: F)
   refine TC.seq (TC.seq (TC.region (TL.mv rfl rfl (TL.hp (fun _ h => h.pick3) ?_))))
   refine TL.opX rfl (OpX.callX en_145 rfl (pis_x l _ _ _ _ hxl.cons.cons.cons hln 124 (by omega))) ?_; rintro _ _ ⟨rfl, rfl⟩
   refine TL.nil (TQ.then ?_)
   refine TC.sp rfl (fun c3 => ?_) (fun c3 => ?_)
   ·rw [if_pos c3]
    have hlt := nx_some c3 (by decide)
    refine TC.skip (TQ.then (TC.block (TC.seq (TC.seq (TC.region (TL.mv rfl rfl (TL.mv rfl rfl (TL.hp (fun _ h => h.pick3) ?_))))))))
    refine TL.opX rfl (OpX.callX en_144 rfl (prow_x l _ _ _ _ hxl.cons.cons hln rs1 n deep hP (by omega) (by omega) (by omega) (by omega))) ?_; rintro _ _ ⟨rz3, iz3, gz3, vz3, ez3, rfl, hR3, rfl⟩
    have hvo := hR3.one
    refine TL.mv rfl rfl (TL.opP rfl (op_extract rfl rfl) (TL.opP rfl (op_extract rfl rfl) (TL.as rfl rfl (TL.as rfl rfl (TL.nil (TQ.then (TC.seq (TC.region (TL.mv rfl rfl (TL.opP rfl (op_neq rfl rfl) (TL.nil (TQ.then ?_))))))))))))
    refine TC.sp rfl (fun c4 => ?_) (fun c4 => ?_)
    ·obtain ⟨hE, rfl⟩ := hR3.bad c4
     refine TC.seq (TC.region (TL.mv rfl rfl (TL.as rfl rfl (TL.as rfl rfl (TL.nil (TQ.then (TC.ret (TQ.then_ret (TQ.block_ret (TQ.loop_ret (TQ.block_ret (TQ.then_ret ?_))))))))))))
     refine ret2 rfl rfl rfl (fun w' hp => ?_)
     exact ⟨_, _, rfl, ⟨_, _, _, _, _, rfl, by (rw [← hg, altGo_err c3 hE]; exact .err (fun x hx => hR3.sub (hrs hx)) c4), rfl⟩, Hp.drop1 (Hp.tail (hp.pick1.pick2.pick2.pick3))⟩
    ·obtain ⟨t, hE, hPN⟩ := hR3.good c4
     obtain ⟨a1, hA2, a3, a4, a5, a6⟩ := rowF_adv (pPart_adv n deep) (by omega) hE
     refine TC.skip (TQ.then (TC.region (TL.mv rfl rfl (TL.mv rfl rfl (TL.opP rfl (op_nilCheck rfl) (TL.opP rfl (op_field fld_match_node_kids rfl) (TL.opV rfl (op_load ts_sl_p_match_node rfl m2 rfl) (TL.opP rfl (op_move rfl) ?_))))))))
     refine TL.opX rfl (OpX.buildSlice (ps := #[(0, _)]) rfl (bs_p_match_node_1 _)) ?_; rintro _ _ ⟨g41, rfl, rfl⟩
     refine TL.hp (fun _ h => blk_row (k := 1) (m := 1) h rfl (by decide)) (TL.hp (fun _ h => h.pick4) ?_)
     refine TL.opX rfl (OpX.append (bytes := 8) tsl_p_match_node (by decide) (by decide) rfl rw1 (one_one hvo) (by omega) (zs := vs ++ [vz3]) rfl) ?_; rintro v4 _ rfl
     refine TL.know (fun _ h => row1 h) (fun o4 => (TL.hp (fun _ h => row_lenL h) (TL.opP rfl (op_nilCheck rfl) (TL.opP rfl (op_field fld_match_node_kids rfl) (TL.hp (fun _ h => h.pick4) ?_)))))
     refine TL.opX0 (OpX.store1 ts_sl_p_match_node rfl rfl (by first | rfl | assumption) rfl rfl) ?_; rintro _ _ rfl
     refine TL.nil (TQ.block_normal ?_)
     exact TQ.round (f, iz3, gz3, acc ++ [t], vs ++ [vz3], v4, rz3) (⟨hA2, by omega, by omega, by omega, by rw [List.length_append, List.length_singleton]; omega, by assumption, one_snoc hvs1 hvo, fun x hx => hR3.sub (hrs hx), (hvs.mono hR3.sub _ _).snoc hPN, by rw [← hg, altGo_on c3 hE]⟩) (by show _ - _ < _ - k; omega) ⟨rfl, rfl, rfl, trivial⟩ (fun _ h => h.drop2)
   ·rw [if_neg c3]
    refine TC.exit (TQ.then_exit (TQ.loop_exit (TQ.block_hit (TQ.then (TC.seq (TC.seq (TC.region (TL.mv rfl rfl (TL.opP rfl (op_nilCheck rfl) (TL.opP rfl (op_field fld_match_node_kids rfl) (TL.opV rfl (op_load ts_sl_p_match_node rfl m1 rfl) (TL.opV rfl (op_lenV rfl un_sl_p_match_node rfl rw2) (TL.opP rfl (op_eql rfl rfl) (TL.nil (TQ.then ?_)))))))))))))))
    refine TC.sp rfl (fun c5 => ?_) (fun c5 => ?_)
    ·obtain ⟨v0, rfl⟩ : ∃ v0, vs = [v0] := List.length_eq_one_iff.1 (by omega)
     obtain ⟨t0, rfl, hPN⟩ := hvs.single
     refine TC.seq (TC.region (TL.mv rfl rfl (TL.opP rfl (op_nilCheck rfl) (TL.opP rfl (op_field fld_match_node_kids rfl) (TL.opV rfl (op_load ts_sl_p_match_node rfl m1 rfl) (TL.opV rfl (op_index tsl_p_match_node rfl rw2 rfl (by omega) (by omega)) (TL.opV rfl (op_loadR ts_p_match_node rfl rw2 rfl) (TL.as rfl rfl (TL.as rfl rfl (TL.nil (TQ.then (TC.ret (TQ.then_ret ?_)))))))))))))
     refine ret2 rfl rfl rfl (fun w' hp => ?_)
     exact ⟨_, _, rfl, ⟨_, _, _, _, _, rfl, by (rw [← hg, altGo_end c3]; exact .alt1 hrs (hvs1 _ (.head _)) hPN), rfl⟩, Hp.drop1 (Hp.tail (hp.pick1.pick3.pick3))⟩
    ·refine TC.skip (TQ.then (TC.seq (TC.region (TL.mv rfl rfl (TL.as rfl rfl (TL.as rfl rfl (TL.nil (TQ.then (TC.ret ?_)))))))))
     refine ret2 rfl rfl rfl (fun w' hp => ?_)
     exact ⟨_, _, rfl, ⟨_, _, _, _, _, rfl, by (rw [← hg, altGo_end c3]; exact .alt hrs hvs (by omega)), rfl⟩, fz_blk (Hp.pick1 (fz_row (hp.pick1.pick3.pick3)))⟩

section
variable {l : List Int} {E : Nat → Nat → PR Nd} {i g j g' : Nat} {t : Nd} {e : Int}
theorem part_a (h : nx l i = 46) : partF l E i g = .ok (.cls true [(10, 10)]) (i + 1) g := if_pos h
theorem part_b (h : nx l i = 94) : partF l E i g = .ok .bol (i + 1) g := (if_neg (by omega)).trans (if_pos h)
theorem part_c (h : nx l i = 36) : partF l E i g = .ok .eol (i + 1) g := (if_neg (by omega)).trans ((if_neg (by omega)).trans (if_pos h))
theorem part_d (h : nx l i = 91) : partF l E i g = setN (setF l (i + 1)) g := (if_neg (by omega)).trans ((if_neg (by omega)).trans ((if_neg (by omega)).trans ((if_pos h).trans (by unfold setN; cases setF l (i + 1) <;> rfl))))
theorem part_e (h : nx l i = 92) : partF l E i g = escN (escF l (i + 1)) g := (if_neg (by omega)).trans ((if_neg (by omega)).trans ((if_neg (by omega)).trans ((if_neg (by omega)).trans ((if_pos h).trans (by unfold escN; cases escF l (i + 1) <;> rfl)))))
theorem part_40 (h : nx l i = 40) : partF l E i g = match E (i + 1) (g + 1) with | .err e j => .err e j | .ok n j g' => if nx l j = 41 then .ok (.grp n (g + 1)) (j + 1) g' else .err 90 j :=
  (if_neg (by omega)).trans ((if_neg (by omega)).trans ((if_neg (by omega)).trans ((if_neg (by omega)).trans ((if_neg (by omega)).trans (if_pos h)))))
theorem part_f (h : nx l i = 40) (h2 : E (i + 1) (g + 1) = .err e j) : partF l E i g = .err e j := by rw [part_40 h, h2]
theorem part_g (h : nx l i = 40) (h2 : E (i + 1) (g + 1) = .ok t j g') (h3 : nx l j = 41) : partF l E i g = .ok (.grp t (g + 1)) (j + 1) g' := by rw [part_40 h, h2]; exact if_pos h3
theorem part_h (h : nx l i = 40) (h2 : E (i + 1) (g + 1) = .ok t j g') (h3 : ¬ nx l j = 41) : partF l E i g = .err 90 j := by rw [part_40 h, h2]; exact if_neg h3
theorem part_i (h : badB (nx l i)) : partF l E i g = .err 90 i := by
  have := h
  unfold badB at this
  exact (if_neg (by omega)).trans ((if_neg (by omega)).trans ((if_neg (by omega)).trans ((if_neg (by omega)).trans ((if_neg (by omega)).trans ((if_neg (by omega)).trans (if_pos h))))))
theorem part_j (h1 : ¬ nx l i = 46) (h2 : ¬ nx l i = 94) (h3 : ¬ nx l i = 36) (h4 : ¬ nx l i = 91) (h5 : ¬ nx l i = 92) (h6 : ¬ nx l i = 40) (h : ¬ badB (nx l i)) : partF l E i g = .ok (.cls false [(nx l i, nx l i)]) (i + 1) g :=
  (if_neg h1).trans ((if_neg h2).trans ((if_neg h3).trans ((if_neg h4).trans ((if_neg h5).trans ((if_neg h6).trans (if_neg h))))))
end
theorem ppart_x (l : List Int) (lv : Value) (g i gn : Nat) (hxl : Rdb F lv 1 l.length (l.map (Value.int .i32))) (hln : l.length ≤ 200) (rs : List Res) (n deep : Nat) (hP : HPart l n) (hd : deep ≤ 20) (hi : i < l.length) (hn : l.length < i + (n + 1)) (hgi : gn ≤ i) :
    CallX Tryd.prog 155 [.pointer (some ⟨g, 0, none⟩), .int .i64 (deep : Int)] S w0 (fz rs :: .blk g (.cells [lv, .int .i64 (((i : Nat) : Int) : Int), .int .i64 (((gn : Nat) : Int) : Int)].toArray 193 (0, 0)) :: F) (fun u L' => ∃ rs' i' g' v e, u = .tuple #[v, .int .i64 e] ∧ PRes rs rs' (pPart l (n + 1) deep i gn) i' g' v e ∧ L' = fz rs' :: .blk g (.cells [lv, .int .i64 (((i' : Nat) : Int) : Int), .int .i64 (((g' : Nat) : Int) : Int)].toArray 193 (0, 0)) :: F) := by
 intro w hp
 refine calls_start Tryd.func155 rfl rfl rfl (hp) ?_
 refine TC.seq (TC.region (TL.as rfl rfl (TL.as rfl rfl (TL.nil (TQ.then (TC.seq (TC.region (TL.mv rfl rfl (TL.hp (fun _ h => h.pick1) ?_)))))))))
 refine TL.opX rfl (OpX.callX en_153 rfl (pnext_x l _ _ _ _ hxl.cons hln (by omega))) ?_; rintro _ _ ⟨rfl, rfl⟩
 refine TL.as rfl rfl (TL.nil (TQ.then (TC.seq (TC.region (TL.mv rfl rfl (TL.opP rfl (op_nilCheck rfl) (TL.opP rfl (op_field fld_match_reader_at rfl) (TL.opV rfl (op_load ts_int rfl m0 rfl) (TL.opP rfl (op_add (r := ((i + 1 : Nat) : Int)) rfl rfl (by omega) (by omega) (by omega)) (TL.opP rfl (op_nilCheck rfl) (TL.opP rfl (op_field fld_match_reader_at rfl) ?_)))))))))))
 refine TL.opX0 (OpX.store1 ts_int rfl rfl (by first | rfl | assumption) rfl rfl) ?_; rintro _ _ rfl
 refine TL.nil (TQ.then (TC.seq (TC.seq (TC.region (TL.mv rfl rfl (TL.nil (TQ.then (TC.block (TC.seq (TC.region (TL.opP rfl (op_eql rfl rfl) (TL.as rfl rfl (TL.nil (TQ.then ?_))))))))))))))
 refine TC.sp rfl (fun c1 => ?_) (fun c1 => ?_)
 ·refine TC.seq (TC.region (TL.opP rfl (op_build (ps := #[(0, _), (1, _)]) rfl (bl_match_span_01 _ _)) ?_))
  refine TL.opX rfl (OpX.buildSlice (ps := #[(0, _)]) rfl (bs_match_span_1 (10, 10))) ?_; rintro _ _ ⟨g23, rfl, rfl⟩
  refine TL.hp (fun _ h => blk_row (k := 2) (m := 1) h rfl (by decide)) (TL.opP rfl (op_build (ps := #[(0, _), (1, _), (2, _)]) rfl (bl_match_node_012 _ _ _)) ?_)
  refine TL.opX rfl (OpX.box (cs := _) rfl rfl) ?_; rintro _ _ ⟨g25, rfl, rfl⟩
  refine TL.as rfl rfl (TL.as rfl rfl (TL.nil (TQ.then (TC.ret (TQ.block_ret (TQ.then_ret ?_))))))
  refine ret2 rfl rfl rfl (fun w' hp => ?_)
  exact ⟨_, _, rfl, ⟨_, _, _, _, _, rfl, by (rw [show pPart l (n + 1) deep i gn = _ from part_a c1]; exact .cls (sp := [(10, 10)]) (fun _ hx => hx)), rfl⟩, fz_blk (Hp.pick1 (fz_row (hp.pick2.pick1.pick3.pick3)))⟩
 ·refine TC.seq (TC.region (TL.opP rfl (op_eql rfl rfl) (TL.as rfl rfl (TL.nil (TQ.then ?_)))))
  refine TC.sp rfl (fun c2 => ?_) (fun c2 => ?_)
  ·refine TC.seq (TC.region (TL.opP rfl (op_build (ps := #[(0, _)]) rfl (bl_match_node_0 _)) ?_))
   refine TL.opX rfl (OpX.box (cs := _) rfl rfl) ?_; rintro _ _ ⟨g29, rfl, rfl⟩
   refine TL.as rfl rfl (TL.as rfl rfl (TL.nil (TQ.then (TC.ret (TQ.block_ret (TQ.then_ret ?_))))))
   refine ret2 rfl rfl rfl (fun w' hp => ?_)
   exact ⟨_, _, rfl, ⟨_, _, _, _, _, rfl, by (rw [show pPart l (n + 1) deep i gn = _ from part_b c2]; exact .bol), rfl⟩, fz_blk (hp.pick1.pick2.pick2)⟩
  ·refine TC.seq (TC.region (TL.opP rfl (op_eql rfl rfl) (TL.as rfl rfl (TL.nil (TQ.then ?_)))))
   refine TC.sp rfl (fun c3 => ?_) (fun c3 => ?_)
   ·refine TC.seq (TC.region (TL.opP rfl (op_build (ps := #[(0, _)]) rfl (bl_match_node_0 _)) ?_))
    refine TL.opX rfl (OpX.box (cs := _) rfl rfl) ?_; rintro _ _ ⟨g33, rfl, rfl⟩
    refine TL.as rfl rfl (TL.as rfl rfl (TL.nil (TQ.then (TC.ret (TQ.block_ret (TQ.then_ret ?_))))))
    refine ret2 rfl rfl rfl (fun w' hp => ?_)
    exact ⟨_, _, rfl, ⟨_, _, _, _, _, rfl, by (rw [show pPart l (n + 1) deep i gn = _ from part_c c3]; exact .eol), rfl⟩, fz_blk (hp.pick1.pick2.pick2)⟩
   ·refine TC.seq (TC.region (TL.opP rfl (op_eql rfl rfl) (TL.as rfl rfl (TL.nil (TQ.then ?_)))))
    refine TC.sp rfl (fun c4 => ?_) (fun c4 => ?_)
    ·refine TC.seq (TC.region (TL.mv rfl rfl (TL.hp (fun _ h => h.pick1) ?_)))
     refine TL.opX rfl (OpX.callX en_158 rfl (pset_x l _ _ (i + 1) _ hxl hln rs (by omega))) ?_; rintro _ _ ⟨rz2, iz2, gz2, vz2, ez2, rfl, hR2, rfl⟩
     refine TL.opP rfl (op_extract rfl rfl) (TL.opP rfl (op_extract rfl rfl) (TL.as rfl rfl (TL.as rfl rfl (TL.nil (TQ.then (TC.ret (TQ.block_ret (TQ.then_ret ?_))))))))
     refine ret2 rfl rfl rfl (fun w' hp => ?_)
     exact ⟨_, _, rfl, ⟨_, _, _, _, _, rfl, by (rw [show pPart l (n + 1) deep i gn = _ from part_d c4]; exact hR2), rfl⟩, (hp)⟩
    ·refine TC.seq (TC.region (TL.opP rfl (op_eql rfl rfl) (TL.as rfl rfl (TL.nil (TQ.then ?_)))))
     refine TC.sp rfl (fun c5 => ?_) (fun c5 => ?_)
     ·refine TC.seq (TC.region (TL.mv rfl rfl (TL.hp (fun _ h => h.pick1) ?_)))
      refine TL.opX rfl (OpX.callX en_159 rfl (pesc_x l _ _ (i + 1) _ hxl hln rs)) ?_; rintro _ _ ⟨rz3, iz3, gz3, vz3, ez3, rfl, hR3, rfl⟩
      refine TL.opP rfl (op_extract rfl rfl) (TL.opP rfl (op_extract rfl rfl) (TL.as rfl rfl (TL.as rfl rfl (TL.nil (TQ.then (TC.ret (TQ.block_ret (TQ.then_ret ?_))))))))
      refine ret2 rfl rfl rfl (fun w' hp => ?_)
      exact ⟨_, _, rfl, ⟨_, _, _, _, _, rfl, by (rw [show pPart l (n + 1) deep i gn = _ from part_e c5]; exact hR3), rfl⟩, (hp)⟩
     ·refine TC.seq (TC.region (TL.opP rfl (op_eql rfl rfl) (TL.as rfl rfl (TL.nil (TQ.then ?_)))))
      refine TC.sp rfl (fun c6 => ?_) (fun c6 => ?_)
      ·refine TC.seq (TC.region (TL.mv rfl rfl (TL.opP rfl (op_nilCheck rfl) (TL.opP rfl (op_field fld_match_reader_groups rfl) (TL.opV rfl (op_load ts_int rfl m0 rfl) (TL.opP rfl (op_add (r := ((gn + 1 : Nat) : Int)) rfl rfl (by omega) (by omega) (by omega)) (TL.opP rfl (op_nilCheck rfl) (TL.opP rfl (op_field fld_match_reader_groups rfl) ?_))))))))
       refine TL.opX0 (OpX.store1 ts_int rfl rfl (by first | rfl | assumption) rfl rfl) ?_; rintro _ _ rfl
       refine TL.nil (TQ.then (TC.seq (TC.region (TL.mv rfl rfl (TL.opP rfl (op_nilCheck rfl) (TL.opP rfl (op_field fld_match_reader_groups rfl) (TL.opV rfl (op_load ts_int rfl m0 rfl) (TL.as rfl rfl (TL.nil (TQ.then (TC.seq (TC.region (TL.mv rfl rfl (TL.mv rfl rfl (TL.opP rfl (op_add (r := ((deep + 1 : Nat) : Int)) rfl rfl (by omega) (by omega) (by omega)) (TL.hp (fun _ h => h.pick1) ?_))))))))))))))))
       refine TL.opX rfl (OpX.callX en_125 rfl (peither_x l _ _ (i + 1) (gn + 1) hxl hln rs n (deep + 1) hP (by omega) (by omega) (by omega) (by omega))) ?_; rintro _ _ ⟨rz4, iz4, gz4, vz4, ez4, rfl, hR4, rfl⟩
       have hvo := hR4.one
       refine TL.mv rfl rfl (TL.opP rfl (op_extract rfl rfl) (TL.opP rfl (op_extract rfl rfl) (TL.as rfl rfl (TL.as rfl rfl (TL.nil (TQ.then (TC.seq (TC.seq (TC.region (TL.mv rfl rfl (TL.opP rfl (op_neq rfl rfl) (TL.nil (TQ.then ?_)))))))))))))
       refine TC.sp rfl (fun c7 => ?_) (fun c7 => ?_)
       ·obtain ⟨hE, rfl⟩ := hR4.bad c7
        refine TC.seq (TC.region (TL.mv rfl rfl (TL.as rfl rfl (TL.as rfl rfl (TL.nil (TQ.then (TC.ret (TQ.then_ret (TQ.block_ret (TQ.then_ret ?_))))))))))
        refine ret2 rfl rfl rfl (fun w' hp => ?_)
        exact ⟨_, _, rfl, ⟨_, _, _, _, _, rfl, by (rw [show pPart l (n + 1) deep i gn = _ from part_f c6 hE]; exact .err hR4.sub c7), rfl⟩, (hp)⟩
       ·obtain ⟨t, hE, hPN⟩ := hR4.good c7
        refine TC.skip (TQ.then (TC.seq (TC.seq (TC.region (TL.mv rfl rfl (TL.hp (fun _ h => h.pick1) ?_))))))
        refine TL.opX rfl (OpX.callX en_145 rfl (pis_x l _ _ _ _ hxl.cons hln 41 (by omega))) ?_; rintro _ _ ⟨rfl, rfl⟩
        refine TL.opP rfl (op_not rfl rfl) (TL.nil (TQ.then ?_))
        refine TC.sp rfl (fun c8 => ?_) (fun c8 => ?_)
        ·rw [if_neg c8]
         refine TC.seq (TC.region (TL.as rfl rfl (TL.as rfl rfl (TL.nil (TQ.then (TC.ret (TQ.then_ret (TQ.block_ret (TQ.then_ret ?_)))))))))
         refine ret2 rfl rfl rfl (fun w' hp => ?_)
         exact ⟨_, _, rfl, ⟨_, _, _, _, _, rfl, by (rw [show pPart l (n + 1) deep i gn = _ from part_h c6 hE c8]; exact .err hR4.sub (by decide)), rfl⟩, (hp.pick1)⟩
        ·rw [if_pos c8]
         refine TC.skip (TQ.then (TC.seq (TC.region (TL.opP rfl (op_move rfl) ?_))))
         refine TL.opX rfl (OpX.buildSlice (ps := #[(0, _)]) rfl (bs_p_match_node_1 _)) ?_; rintro _ _ ⟨g73, rfl, rfl⟩
         refine TL.hp (fun _ h => blk_row (k := 1) (m := 1) h rfl (by decide)) (TL.mv rfl rfl (TL.opP rfl (op_build (ps := #[(0, _), (3, _), (7, _)]) rfl (bl_match_node_037 _ _ _)) ?_))
         refine TL.opX rfl (OpX.box (cs := _) rfl rfl) ?_; rintro _ _ ⟨g76, rfl, rfl⟩
         refine TL.as rfl rfl (TL.as rfl rfl (TL.nil (TQ.then (TC.ret (TQ.block_ret (TQ.then_ret ?_))))))
         refine ret2 rfl rfl rfl (fun w' hp => ?_)
         exact ⟨_, _, rfl, ⟨_, _, _, _, _, rfl, by (rw [show pPart l (n + 1) deep i gn = _ from part_g c6 hE c8]; exact .grp hR4.sub hPN), rfl⟩, fz_blk (Hp.pick1 (fz_row (hp.pick2.pick1.pick3.pick3)))⟩
      ·refine TC.seq (TC.seq (TC.region (TL.opP rfl (op_eql rfl rfl) (TL.as rfl rfl (TL.nil (TQ.then ?_))))))
       refine TC.sp rfl (fun c9 => ?_) (fun c9 => ?_)
       ·refine TC.skip (TQ.then (TC.condT rfl (TC.seq (TC.region (TL.mv rfl rfl (TL.opP rfl (op_nilCheck rfl) (TL.opP rfl (op_field fld_match_reader_at rfl) (TL.opV rfl (op_load ts_int rfl m0 rfl) (TL.opP rfl (op_sub (r := ((i : Nat) : Int)) rfl rfl (by omega) (by omega) (by omega)) (TL.opP rfl (op_nilCheck rfl) (TL.opP rfl (op_field fld_match_reader_at rfl) ?_)))))))))))
        refine TL.opX0 (OpX.store1 ts_int rfl rfl (by first | rfl | assumption) rfl rfl) ?_; rintro _ _ rfl
        refine TL.nil (TQ.then (TC.seq (TC.region (TL.as rfl rfl (TL.as rfl rfl (TL.nil (TQ.then (TC.ret (TQ.block_ret (TQ.then_ret ?_))))))))))
        refine ret2 rfl rfl rfl (fun w' hp => ?_)
        exact ⟨_, _, rfl, ⟨_, _, _, _, _, rfl, by (rw [show pPart l (n + 1) deep i gn = _ from part_i (by unfold badB; omega)]; exact .err (fun _ hx => hx) (by decide)), rfl⟩, (hp.pick1)⟩
       ·refine TC.seq (TC.region (TL.opP rfl (op_eql rfl rfl) (TL.as rfl rfl (TL.nil (TQ.then ?_)))))
        refine TC.sp rfl (fun c10 => ?_) (fun c10 => ?_)
        ·refine TC.skip (TQ.then (TC.condT rfl (TC.seq (TC.region (TL.mv rfl rfl (TL.opP rfl (op_nilCheck rfl) (TL.opP rfl (op_field fld_match_reader_at rfl) (TL.opV rfl (op_load ts_int rfl m0 rfl) (TL.opP rfl (op_sub (r := ((i : Nat) : Int)) rfl rfl (by omega) (by omega) (by omega)) (TL.opP rfl (op_nilCheck rfl) (TL.opP rfl (op_field fld_match_reader_at rfl) ?_)))))))))))
         refine TL.opX0 (OpX.store1 ts_int rfl rfl (by first | rfl | assumption) rfl rfl) ?_; rintro _ _ rfl
         refine TL.nil (TQ.then (TC.seq (TC.region (TL.as rfl rfl (TL.as rfl rfl (TL.nil (TQ.then (TC.ret (TQ.block_ret (TQ.then_ret ?_))))))))))
         refine ret2 rfl rfl rfl (fun w' hp => ?_)
         exact ⟨_, _, rfl, ⟨_, _, _, _, _, rfl, by (rw [show pPart l (n + 1) deep i gn = _ from part_i (by unfold badB; omega)]; exact .err (fun _ hx => hx) (by decide)), rfl⟩, (hp.pick1)⟩
        ·refine TC.seq (TC.region (TL.opP rfl (op_eql rfl rfl) (TL.as rfl rfl (TL.nil (TQ.then ?_)))))
         refine TC.sp rfl (fun c11 => ?_) (fun c11 => ?_)
         ·refine TC.skip (TQ.then (TC.condT rfl (TC.seq (TC.region (TL.mv rfl rfl (TL.opP rfl (op_nilCheck rfl) (TL.opP rfl (op_field fld_match_reader_at rfl) (TL.opV rfl (op_load ts_int rfl m0 rfl) (TL.opP rfl (op_sub (r := ((i : Nat) : Int)) rfl rfl (by omega) (by omega) (by omega)) (TL.opP rfl (op_nilCheck rfl) (TL.opP rfl (op_field fld_match_reader_at rfl) ?_)))))))))))
          refine TL.opX0 (OpX.store1 ts_int rfl rfl (by first | rfl | assumption) rfl rfl) ?_; rintro _ _ rfl
          refine TL.nil (TQ.then (TC.seq (TC.region (TL.as rfl rfl (TL.as rfl rfl (TL.nil (TQ.then (TC.ret (TQ.block_ret (TQ.then_ret ?_))))))))))
          refine ret2 rfl rfl rfl (fun w' hp => ?_)
          exact ⟨_, _, rfl, ⟨_, _, _, _, _, rfl, by (rw [show pPart l (n + 1) deep i gn = _ from part_i (by unfold badB; omega)]; exact .err (fun _ hx => hx) (by decide)), rfl⟩, (hp.pick1)⟩
         ·refine TC.seq (TC.region (TL.opP rfl (op_eql rfl rfl) (TL.as rfl rfl (TL.nil (TQ.then ?_)))))
          refine TC.sp rfl (fun c12 => ?_) (fun c12 => ?_)
          ·refine TC.skip (TQ.then (TC.condT rfl (TC.seq (TC.region (TL.mv rfl rfl (TL.opP rfl (op_nilCheck rfl) (TL.opP rfl (op_field fld_match_reader_at rfl) (TL.opV rfl (op_load ts_int rfl m0 rfl) (TL.opP rfl (op_sub (r := ((i : Nat) : Int)) rfl rfl (by omega) (by omega) (by omega)) (TL.opP rfl (op_nilCheck rfl) (TL.opP rfl (op_field fld_match_reader_at rfl) ?_)))))))))))
           refine TL.opX0 (OpX.store1 ts_int rfl rfl (by first | rfl | assumption) rfl rfl) ?_; rintro _ _ rfl
           refine TL.nil (TQ.then (TC.seq (TC.region (TL.as rfl rfl (TL.as rfl rfl (TL.nil (TQ.then (TC.ret (TQ.block_ret (TQ.then_ret ?_))))))))))
           refine ret2 rfl rfl rfl (fun w' hp => ?_)
           exact ⟨_, _, rfl, ⟨_, _, _, _, _, rfl, by (rw [show pPart l (n + 1) deep i gn = _ from part_i (by unfold badB; omega)]; exact .err (fun _ hx => hx) (by decide)), rfl⟩, (hp.pick1)⟩
          ·refine TC.seq (TC.region (TL.opP rfl (op_eql rfl rfl) (TL.as rfl rfl (TL.nil (TQ.then ?_)))))
           refine TC.sp rfl (fun c13 => ?_) (fun c13 => ?_)
           ·refine TC.skip (TQ.then (TC.condT rfl (TC.seq (TC.region (TL.mv rfl rfl (TL.opP rfl (op_nilCheck rfl) (TL.opP rfl (op_field fld_match_reader_at rfl) (TL.opV rfl (op_load ts_int rfl m0 rfl) (TL.opP rfl (op_sub (r := ((i : Nat) : Int)) rfl rfl (by omega) (by omega) (by omega)) (TL.opP rfl (op_nilCheck rfl) (TL.opP rfl (op_field fld_match_reader_at rfl) ?_)))))))))))
            refine TL.opX0 (OpX.store1 ts_int rfl rfl (by first | rfl | assumption) rfl rfl) ?_; rintro _ _ rfl
            refine TL.nil (TQ.then (TC.seq (TC.region (TL.as rfl rfl (TL.as rfl rfl (TL.nil (TQ.then (TC.ret (TQ.block_ret (TQ.then_ret ?_))))))))))
            refine ret2 rfl rfl rfl (fun w' hp => ?_)
            exact ⟨_, _, rfl, ⟨_, _, _, _, _, rfl, by (rw [show pPart l (n + 1) deep i gn = _ from part_i (by unfold badB; omega)]; exact .err (fun _ hx => hx) (by decide)), rfl⟩, (hp.pick1)⟩
           ·refine TC.region (TL.opP rfl (op_eql rfl rfl) (TL.as rfl rfl (TL.nil (TQ.then ?_))))
            refine TC.sp rfl (fun c14 => ?_) (fun c14 => ?_)
            ·refine TC.seq (TC.region (TL.mv rfl rfl (TL.opP rfl (op_nilCheck rfl) (TL.opP rfl (op_field fld_match_reader_at rfl) (TL.opV rfl (op_load ts_int rfl m0 rfl) (TL.opP rfl (op_sub (r := ((i : Nat) : Int)) rfl rfl (by omega) (by omega) (by omega)) (TL.opP rfl (op_nilCheck rfl) (TL.opP rfl (op_field fld_match_reader_at rfl) ?_))))))))
             refine TL.opX0 (OpX.store1 ts_int rfl rfl (by first | rfl | assumption) rfl rfl) ?_; rintro _ _ rfl
             refine TL.nil (TQ.then (TC.seq (TC.region (TL.as rfl rfl (TL.as rfl rfl (TL.nil (TQ.then (TC.ret (TQ.block_ret (TQ.then_ret ?_))))))))))
             refine ret2 rfl rfl rfl (fun w' hp => ?_)
             exact ⟨_, _, rfl, ⟨_, _, _, _, _, rfl, by (rw [show pPart l (n + 1) deep i gn = _ from part_i (by unfold badB; omega)]; exact .err (fun _ hx => hx) (by decide)), rfl⟩, (hp.pick1)⟩
            ·refine TC.skip (TQ.block_normal (TQ.then (TC.seq (TC.region (TL.mv rfl rfl (TL.mv rfl rfl (TL.opP rfl (op_build (ps := #[(0, _), (1, _)]) rfl (bl_match_span_01 _ _)) ?_)))))))
             refine TL.opX rfl (OpX.buildSlice (ps := #[(0, _)]) rfl (bs_match_span_1 (nx l i, nx l i))) ?_; rintro _ _ ⟨g94, rfl, rfl⟩
             refine TL.hp (fun _ h => blk_row (k := 2) (m := 1) h rfl (by decide)) (TL.opP rfl (op_build (ps := #[(0, _), (2, _)]) rfl (bl_match_node_02 _ _)) ?_)
             refine TL.opX rfl (OpX.box (cs := _) rfl rfl) ?_; rintro _ _ ⟨g96, rfl, rfl⟩
             refine TL.as rfl rfl (TL.as rfl rfl (TL.nil (TQ.then (TC.ret ?_))))
             refine ret2 rfl rfl rfl (fun w' hp => ?_)
             exact ⟨_, _, rfl, ⟨_, _, _, _, _, rfl, by (rw [show pPart l (n + 1) deep i gn = _ from part_j c1 c2 c3 c4 c5 c6 (by unfold badB; omega)]; exact .cls (sp := [(nx l i, nx l i)]) (fun _ hx => hx)), rfl⟩, fz_blk (Hp.pick1 (fz_row (hp.pick2.pick1.pick3.pick3)))⟩

theorem hpart {l : List Int} (hln : l.length ≤ 200) : ∀ n, HPart l n
  | 0 => fun S w0 F lv g i gn hxl rs deep hd hi hn hgi => by omega
  | n + 1 => fun S w0 F lv g i gn hxl rs deep hd hi hn hgi => ppart_x l lv g i gn hxl hln rs n deep (hpart hln n) hd hi (by omega) hgi
end Go.SK
