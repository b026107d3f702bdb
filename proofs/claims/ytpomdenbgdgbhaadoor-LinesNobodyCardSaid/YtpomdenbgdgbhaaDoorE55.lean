/- Walks: layer 11, the document's own swaps and moves; rows of places alike. -/
import Derived.Test.YtpomdenbgdgbhaaDoorE54
set_option linter.unusedVariables false
set_option linter.unusedSimpArgs false
set_option maxRecDepth 100000
namespace Go.SK
open Go Go.RowKit Go.Proofs
variable {S : Nat → Prop} {w0 : World} {F L : List Res}
theorem putq_len (q : ByteArray) : (⟨2, ((dec q).length : Int), q⟩ : Part) = putP q := by unfold putP; rw [rcount_dec]
theorem swE_one {s q : ByteArray} (h1 : valid s = true) (h2 : valid q = true) (h : (dec s).length = 0) : swE s q = 1 := by
  unfold swE
  rw [if_neg (by rw [h1, h2]; simp)]
  exact if_pos (by rw [← enc_dec h1, List.length_eq_zero_iff.1 h]; rfl)
theorem swE_zero {s q : ByteArray} (h1 : valid s = true) (h2 : valid q = true) (h : 0 < (dec s).length) : swE s q = 0 := by
  unfold swE
  rw [if_neg (by rw [h1, h2]; simp)]
  exact if_neg (by rintro rfl; exact absurd h (by decide))
theorem rs_next {p t : List Int} {w : ByteArray} {i s : Nat} (h : i < t.length) : rsGo p t w (t.length - i) i s = if i < s then rsGo p t w (t.length - (i + 1)) (i + 1) s else if stands p t i = true then putP w :: dropP (p.length : Int) :: rsGo p t w (t.length - (i + 1)) (i + 1) (i + p.length) else keepP 1 :: rsGo p t w (t.length - (i + 1)) (i + 1) s := by
  rw [show t.length - i = (t.length - (i + 1)) + 1 by omega]; rfl
theorem rs_small (p t : List Int) (w : ByteArray) (hw : w.size < 9223372036854775807) : ∀ (f i s : Nat), ∀ x ∈ rsGo p t w f i s, x.text.size < 9223372036854775807
  | 0, i, s, x, h => by cases h
  | f + 1, i, s, x, h => by
    rw [rsGo] at h
    split at h
    · exact rs_small p t w hw f _ _ x h
    · split at h
      · rcases List.mem_cons.1 h with rfl | h
        · exact hw
        · rcases List.mem_cons.1 h with rfl | h
          · (show (0 : Nat) < 9223372036854775807; decide)
          · exact rs_small p t w hw f _ _ x h
      · rcases List.mem_cons.1 h with rfl | h
        · (show (0 : Nat) < 9223372036854775807; decide)
        · exact rs_small p t w hw f _ _ x h
theorem bs_api_Part_2 (p q : Part) : ∀ w : World, (Instr.buildSlice 36 2 #[(0, p.val), (1, q.val)]).run Tryd.prog w = .ok (.slice (some ⟨w.heap.size, 0, none⟩) 2 2) (w.alloc (.cells (encs [p, q]).toArray 104 (0, 0))) := by
  intro w; kernel_rfl
theorem yswap_x (l : List Int) (lv : Value) (g : Nat) (hyl : Rdb F lv 1 l.length (l.map (Value.int .i32))) (s q : ByteArray) (hs : s.size ≤ 65536) (hq : q.size ≤ 1048576) (hln : l.length ≤ 65536) :
    CallX Tryd.prog 44 [.pointer (some ⟨g, 0, none⟩), .string s, .string q] S w0 (.blk g (.cells [lv].toArray 56 (0, 0)) :: F) (fun u L' => ∃ v', u = .tuple #[v', .int .i64 (swE s q)] ∧ L' = .row v' 104 3 (if swE s q = 0 then swapF (dec s) l q else []).length (encs (if swE s q = 0 then swapF (dec s) l q else [])) :: .blk g (.cells [lv].toArray 56 (0, 0)) :: F) := by
 intro w hp
 have hyll := hyl.cons.lenLe hp
 have hds := dec_len s
 have hdq := dec_len q
 refine calls_start Tryd.func44 rfl rfl rfl (hp) ?_
 refine TC.seq (TC.region (TL.opP rfl (op_assign rfl) (TL.opP rfl (op_assign rfl) (TL.nil (TQ.then (TC.seq (TC.region (TL.opP rfl (op_move rfl) ?_))))))))
 refine TL.opX rfl (OpX.callX en_64 rfl (ychars_x s (by omega))) ?_; rintro _ _ ⟨w1, rfl, rfl⟩
 refine TL.opP rfl (op_move rfl) (TL.opP rfl (op_extract rfl rfl) (TL.opP rfl (op_extract rfl rfl) (TL.opP rfl (op_assign rfl) (TL.opP rfl (op_assign rfl) (TL.nil (TQ.then (TC.seq (TC.region (TL.opP rfl (op_move rfl) ?_)))))))))
 refine TL.opX rfl (OpX.callX en_64 rfl (ychars_x q (by omega))) ?_; rintro _ _ ⟨w2, rfl, rfl⟩
 refine TL.opP rfl (op_move rfl) (TL.opP rfl (op_extract rfl rfl) (TL.opP rfl (op_extract rfl rfl) (TL.opP rfl (op_assign rfl) (TL.opP rfl (op_assign rfl) (TL.nil (TQ.then (TC.seq (TC.seq (TC.region (TL.opP rfl (op_move rfl) (TL.opP rfl (op_not rfl rfl) (TL.opP rfl (op_move rfl) ?_))))))))))))
 first | refine TL.splitD (fun c1 => ?_) (fun c1 => ?_) | refine TL.splitB (fun c1 => ?_) (fun c1 => ?_)
 ·refine TL.gFt rfl rfl rfl (TL.gFt rfl rfl rfl (TL.opP rfl (op_pickT rfl rfl) (TL.nil (TQ.then (TC.condT rfl (TC.seq (TC.region (TL.opP rfl (op_assign rfl) (TL.opP rfl (op_assign rfl) (TL.nil (TQ.then (TC.ret (TQ.then_ret ?_)))))))))))))
  refine ret2 rfl rfl rfl (fun w' hp => ?_)
  first
    | (have h1 : swE s q = 21 := if_pos (by first | exact .inl (by simpa using c1) | exact .inr (by simpa using c2))
       exact ⟨_, _, rfl, ⟨.slice none 0 0, by rw [h1], by rw [h1]; rfl⟩, new_nil _ 3 (hp.drop1.tail)⟩)
    | (have h1 : swE s q = 1 := swE_one (by simpa using c1) (by simpa using c2) (by omega)
       exact ⟨_, _, rfl, ⟨.slice none 0 0, by rw [h1], by rw [h1]; rfl⟩, new_nil _ 3 (hp.drop1.tail)⟩)
    | (have h1 : swE s q = 0 := swE_zero hv1 hv2 hp0
       have h2 := (swap_law (p := dec s) (t := l) (w := q) hne (by omega) (by omega) hv2 (by rw [rcount_dec]; omega)).2
       exact ⟨_, _, rfl, ⟨_, by rw [h1], by (rw [h1, if_pos rfl, ← h2]; first | done | rfl)⟩, (hp.drop1.tail)⟩)
 ·refine TL.gT rfl rfl (TL.opP rfl (op_move rfl) (TL.gT rfl rfl (TL.opP rfl (op_not rfl rfl) (TL.opP rfl (op_pickF rfl rfl) (TL.nil (TQ.then ?_))))))
  first | refine TC.condD rfl (fun c2 => ?_) (fun c2 => ?_) | refine TC.condB rfl (fun c2 => ?_) (fun c2 => ?_)
  ·refine TC.seq (TC.region (TL.opP rfl (op_assign rfl) (TL.opP rfl (op_assign rfl) (TL.nil (TQ.then (TC.ret (TQ.then_ret ?_)))))))
   refine ret2 rfl rfl rfl (fun w' hp => ?_)
   first
     | (have h1 : swE s q = 21 := if_pos (by first | exact .inl (by simpa using c1) | exact .inr (by simpa using c2))
        exact ⟨_, _, rfl, ⟨.slice none 0 0, by rw [h1], by rw [h1]; rfl⟩, new_nil _ 3 (hp.drop1.tail)⟩)
     | (have h1 : swE s q = 1 := swE_one (by simpa using c1) (by simpa using c2) (by omega)
        exact ⟨_, _, rfl, ⟨.slice none 0 0, by rw [h1], by rw [h1]; rfl⟩, new_nil _ 3 (hp.drop1.tail)⟩)
     | (have h1 : swE s q = 0 := swE_zero hv1 hv2 hp0
        have h2 := (swap_law (p := dec s) (t := l) (w := q) hne (by omega) (by omega) hv2 (by rw [rcount_dec]; omega)).2
        exact ⟨_, _, rfl, ⟨_, by rw [h1], by (rw [h1, if_pos rfl, ← h2]; first | done | rfl)⟩, (hp.drop1.tail)⟩)
  ·refine TC.skip (TQ.then (TC.seq (TC.seq (TC.region (TL.opP rfl (op_move rfl) (TL.opV rfl (op_lenV rfl un_sl_int32 rfl rw1) (TL.opP rfl (op_eql rfl rfl) (TL.nil (TQ.then ?_)))))))))
   first | refine TC.condD rfl (fun c3 => ?_) (fun c3 => ?_) | refine TC.condB rfl (fun c3 => ?_) (fun c3 => ?_)
   ·refine TC.seq (TC.region (TL.opP rfl (op_assign rfl) (TL.opP rfl (op_assign rfl) (TL.nil (TQ.then (TC.ret (TQ.then_ret ?_)))))))
    refine ret2 rfl rfl rfl (fun w' hp => ?_)
    first
      | (have h1 : swE s q = 21 := if_pos (by first | exact .inl (by simpa using c1) | exact .inr (by simpa using c2))
         exact ⟨_, _, rfl, ⟨.slice none 0 0, by rw [h1], by rw [h1]; rfl⟩, new_nil _ 3 (hp.drop1.tail)⟩)
      | (have h1 : swE s q = 1 := swE_one (by simpa using c1) (by simpa using c2) (by omega)
         exact ⟨_, _, rfl, ⟨.slice none 0 0, by rw [h1], by rw [h1]; rfl⟩, new_nil _ 3 (hp.drop1.tail)⟩)
      | (have h1 : swE s q = 0 := swE_zero hv1 hv2 hp0
         have h2 := (swap_law (p := dec s) (t := l) (w := q) hne (by omega) (by omega) hv2 (by rw [rcount_dec]; omega)).2
         exact ⟨_, _, rfl, ⟨_, by rw [h1], by (rw [h1, if_pos rfl, ← h2]; first | done | rfl)⟩, (hp.drop1.tail)⟩)
   ·have hv1 : valid s = true := by simpa using c1
    have hv2 : valid q = true := by simpa using c2
    have hne : dec s ≠ [] := fun e => c3 (by rw [e]; rfl)
    have hp0 : 0 < (dec s).length := List.length_pos_iff.2 hne
    refine TC.skip (TQ.then (TC.seq (TC.region (TL.opP rfl (op_assign rfl) (TL.nil (TQ.then (TC.seq (TC.region (TL.opP rfl (op_assign rfl) (TL.nil (TQ.then (TC.seq (TC.seq (TC.region (TL.opP rfl (op_move rfl) (TL.opP rfl (op_nilCheck rfl) (TL.opP rfl (op_field fld_sealskinref11_Index_L rfl) (TL.opV rfl (op_load ts_sl_int32 rfl m2 rfl) (TL.opV rfl (op_lenV rfl un_sl_int32 rfl hyl.cons.cons.cons) (TL.opP rfl (op_move rfl) (TL.nil (TQ.then (TC.block (TC.hp (fun _ h => new_nil 104 3 h) (TC.loop (ι := Nat × Nat × List Part × Value) (fun (i, sk, ps, pv) => [(0, .pointer (some ⟨g, 0, none⟩)), (2, .string q), (8, w1), (10, w2), (12, pv), (13, .int .i64 (sk : Int)), (38, .int .i64 (l.length : Int)), (39, .int .i64 (i : Int))]) (fun (i, sk, ps, pv) => .row pv 104 3 ps.length (encs ps) :: .blk g (.cells [lv].toArray 56 (0, 0)) :: .row w1 21 1 (dec s).length ((dec s).map (Value.int .i32)) :: .row w2 21 1 (dec q).length ((dec q).map (Value.int .i32)) :: F) (fun (i, sk, ps, pv) => i ≤ l.length ∧ sk ≤ i + 65536 ∧ ps.length ≤ 2 * i ∧ ps ++ (rsGo (dec s) l q (l.length - i) i sk) = (rsGo (dec s) l q l.length 0 0)) (fun (i, sk, ps, pv) => l.length - i) ((0, 0, [], .slice none 0 0)) (⟨Nat.zero_le _, by omega, Nat.le_refl _, rfl⟩) ⟨rfl, rfl, rfl, rfl, rfl, rfl, rfl, rfl, trivial⟩ (fun _ h => h.pick1.pick2.pick3.pick3) ?_)))))))))))))))))))))))))
    rintro ⟨i, sk, ps, pv⟩ ⟨hi, hsk, hpl, hgo⟩
    show TC _ _ _ _ [(0, .pointer (some ⟨g, 0, none⟩)), (2, .string q), (8, w1), (10, w2), (12, pv), (13, .int .i64 (sk : Int)), (38, .int .i64 (l.length : Int)), (39, .int .i64 (i : Int))] _ _ (.row pv 104 3 ps.length (encs ps) :: .blk g (.cells [lv].toArray 56 (0, 0)) :: .row w1 21 1 (dec s).length ((dec s).map (Value.int .i32)) :: .row w2 21 1 (dec q).length ((dec q).map (Value.int .i32)) :: F)
    refine TC.seq (TC.region (TL.opP rfl (op_lss rfl rfl) (TL.nil (TQ.then (TC.seq ?_)))))
    first | refine TC.condD rfl (fun c4 => ?_) (fun c4 => ?_) | refine TC.condB rfl (fun c4 => ?_) (fun c4 => ?_)
    ·have hun := rs_next (p := dec s) (t := l) (w := q) (s := sk) (show i < l.length by omega)
     refine TC.skip (TQ.then (TC.seq (TC.block (TC.seq (TC.region (TL.opP rfl (op_move rfl) (TL.opP rfl (op_assign rfl) (TL.nil (TQ.then (TC.seq (TC.seq (TC.region (TL.opP rfl (op_move rfl) (TL.opP rfl (op_move rfl) (TL.opP rfl (op_lss rfl rfl) (TL.nil (TQ.then ?_)))))))))))))))))
     first | refine TC.condD rfl (fun c5 => ?_) (fun c5 => ?_) | refine TC.condB rfl (fun c5 => ?_) (fun c5 => ?_)
     ·refine TC.exit (TQ.then_exit (TQ.block_hit (TQ.then (TC.region (TL.opP rfl (op_add rfl rfl rfl (by omega) (by omega)) (TL.opP rfl (op_move rfl) (TL.nil ?_)))))))
      exact TQ.round (i + 1, sk, ps, pv) (⟨by omega, by omega, by omega, by rw [← hgo, hun, if_pos (by omega)]⟩) (by show _ - (i + 1) < _ - i; omega) ⟨rfl, rfl, rfl, rfl, rfl, rfl, rfl, rfl, trivial⟩ (fun _ h => h)
     ·refine TC.skip (TQ.then (TC.seq (TC.seq (TC.region (TL.opP rfl (op_move rfl) (TL.opP rfl (op_move rfl) (TL.opP rfl (op_move rfl) (TL.hp (fun _ h => h.pick1) ?_))))))))
      refine TL.opX rfl (OpX.callX en_67 rfl (ystands_x l _ _ hyl.cons.cons.cons (dec s) _ i (by omega) (by omega) rw1)) ?_; rintro _ _ ⟨rfl, rfl⟩
      refine TL.nil (TQ.then ?_)
      first | refine TC.condD rfl (fun c6 => ?_) (fun c6 => ?_) | refine TC.condB rfl (fun c6 => ?_) (fun c6 => ?_)
      ·refine TC.seq (TC.region (TL.opP rfl (op_move rfl) (TL.opP rfl (op_move rfl) (TL.opV rfl (op_lenV rfl un_sl_int32 rfl rw3) (TL.opP rfl (op_move rfl) (TL.opP rfl (op_build (ps := #[(0, _), (1, _), (2, _)]) rfl (bl_api_Part_012 _ _ _)) (TL.opP rfl (op_move rfl) (TL.opV rfl (op_lenV rfl un_sl_int32 rfl rw2) (TL.opP rfl (op_build (ps := #[(0, _), (1, _)]) rfl (bl_api_Part_01 _ _)) ?_)))))))))
       refine TL.opX rfl (OpX.buildSlice (ps := #[(0, _), (1, _)]) rfl (bs_api_Part_2 (⟨2, ((dec q).length : Int), q⟩ : Part) (dropP ((dec s).length : Int)))) ?_; rintro _ _ ⟨g57, rfl, rfl⟩
       refine TL.hp (fun _ h => blk_row (k := 3) (m := 2) h rfl (by decide)) (TL.hp (fun _ h => h.pick2) ?_)
       refine TL.opX rfl (OpX.append (bytes := 32) tsl_api_Part (by decide) (by decide) rfl rw1 (encs_one _) (by omega) (zs := encs (ps ++ [putP q, dropP ((dec s).length : Int)])) (by rw [putq_len, encs_append])) ?_; rintro v4 _ rfl
       refine TL.know (fun _ h => row1 h) (fun o4 => (TL.hp (fun _ h => row_len3 h) (TL.opP rfl (op_assign rfl) (TL.nil (TQ.then (TC.seq (TC.region (TL.opP rfl (op_move rfl) (TL.opP rfl (op_move rfl) (TL.opV rfl (op_lenV rfl un_sl_int32 rfl rw3) (TL.opP rfl (op_add rfl rfl rfl (by omega) (by omega)) (TL.opP rfl (op_assign rfl) (TL.nil (TQ.then (TC.exit (TQ.then_exit (TQ.block_hit (TQ.then (TC.region (TL.opP rfl (op_add rfl rfl rfl (by omega) (by omega)) (TL.opP rfl (op_move rfl) (TL.nil ?_))))))))))))))))))))))
       exact TQ.round (i + 1, i + (dec s).length, ps ++ [putP q, dropP ((dec s).length : Int)], v4) (⟨by omega, by omega, by rw [List.length_append]; show _ + 2 ≤ _; omega, by rw [← hgo, hun, if_neg (by omega), if_pos c6]; simp⟩) (by show _ - (i + 1) < _ - i; omega) ⟨rfl, rfl, rfl, rfl, rfl, rfl, rfl, rfl, trivial⟩ (fun _ h => h.drop1)
      ·refine TC.skip (TQ.then (TC.region (TL.opP rfl (op_move rfl) (TL.opP rfl (op_build (ps := #[(0, _), (1, _)]) rfl (bl_api_Part_01 _ _)) ?_))))
       refine TL.opX rfl (OpX.buildSlice (ps := #[(0, _)]) rfl (bs_api_Part_1 (keepP 1))) ?_; rintro _ _ ⟨g65, rfl, rfl⟩
       refine TL.hp (fun _ h => blk_row (k := 3) (m := 1) h rfl (by decide)) (TL.hp (fun _ h => h.pick2) ?_)
       refine TL.opX rfl (OpX.append (bytes := 32) tsl_api_Part (by decide) (by decide) rfl rw1 (encs_one _) (by omega) (zs := encs (ps ++ [keepP 1])) (by rw [encs_append])) ?_; rintro v5 _ rfl
       refine TL.know (fun _ h => row1 h) (fun o5 => (TL.hp (fun _ h => row_len3 h) (TL.opP rfl (op_assign rfl) (TL.nil (TQ.block_normal (TQ.then (TC.region (TL.opP rfl (op_add rfl rfl rfl (by omega) (by omega)) (TL.opP rfl (op_move rfl) (TL.nil ?_))))))))))
       exact TQ.round (i + 1, sk, ps ++ [keepP 1], v5) (⟨by omega, by omega, by rw [List.length_append]; show _ + 1 ≤ _; omega, by rw [← hgo, hun, if_neg (by omega), if_neg (by rw [c6]; decide)]; simp⟩) (by show _ - (i + 1) < _ - i; omega) ⟨rfl, rfl, rfl, rfl, rfl, rfl, rfl, rfl, trivial⟩ (fun _ h => h.drop1)
    ·obtain rfl : i = l.length := by omega
     rw [Nat.sub_self, show (rsGo (dec s) l q 0 l.length sk) = [] from rfl, List.append_nil] at hgo
     subst hgo
     refine TC.exit (TQ.then_exit (TQ.loop_exit (TQ.block_hit (TQ.then (TC.seq (TC.region (TL.opP rfl (op_move rfl) ?_)))))))
     refine TL.opX rfl (OpX.callX en_80 rfl (rnorm_x (rsGo (dec s) l q l.length 0 0) _ (rs_small _ _ _ (by omega) _ _ _) (by omega) rw0)) ?_; rintro w6 _ ⟨_, rfl, rfl⟩
     refine TL.opP rfl (op_assign rfl) (TL.opP rfl (op_assign rfl) (TL.nil (TQ.then (TC.ret ?_))))
     refine ret2 rfl rfl rfl (fun w' hp => ?_)
     first
       | (have h1 : swE s q = 21 := if_pos (by first | exact .inl (by simpa using c1) | exact .inr (by simpa using c2))
          exact ⟨_, _, rfl, ⟨.slice none 0 0, by rw [h1], by rw [h1]; rfl⟩, new_nil _ 3 (hp.drop4.drop3.drop1)⟩)
       | (have h1 : swE s q = 1 := swE_one (by simpa using c1) (by simpa using c2) (by omega)
          exact ⟨_, _, rfl, ⟨.slice none 0 0, by rw [h1], by rw [h1]; rfl⟩, new_nil _ 3 (hp.drop4.drop3.drop1)⟩)
       | (have h1 : swE s q = 0 := swE_zero hv1 hv2 hp0
          have h2 := (swap_law (p := dec s) (t := l) (w := q) hne (by omega) (by omega) hv2 (by rw [rcount_dec]; omega)).2
          exact ⟨_, _, rfl, ⟨_, by rw [h1], by (rw [h1, if_pos rfl, ← h2]; first | done | rfl)⟩, (hp.drop4.drop3.drop1)⟩)

theorem mvD_len {n a b : Nat} (hab : a ≤ b) (hbn : b ≤ n) : (mvD n a b).length = n := by unfold mvD; simp; omega
theorem mvD_start {n a : Nat} (h : a ≤ n) : mvD n a a = List.replicate n false := by
  unfold mvD; rw [Nat.sub_self, List.replicate_zero, List.nil_append, List.replicate_append_replicate]; congr 1; omega
theorem mvD_step {n a i : Nat} (h : a ≤ i) (hi : i < n) : (mvD n a i).set i true = mvD n a (i + 1) := by
  unfold mvD
  have e : List.replicate a false ++ (List.replicate (i - a) true ++ List.replicate (n - i) false) = (List.replicate a false ++ List.replicate (i - a) true) ++ false :: List.replicate (n - i - 1) false := by rw [rep_cons (n := n - i) (by omega)]; simp
  rw [e, set_mid (by simp; omega), show i + 1 - a = (i - a) + 1 by omega, List.replicate_succ', show n - (i + 1) = n - i - 1 by omega]; simp
theorem mv_clb {n a b q : Nat} {t : List Int} (hs : ∀ x ∈ t, scalar x) (ht : t.length ≤ n) (hab : a ≤ b) (hbn : b ≤ n) (hq : q ≤ n) (hn : n ≤ 65536) : CLB (mvP n q t) (mvD n a b) := by
  refine ⟨?_, by rw [mvD_len hab hbn]; unfold mvP; simp, ?_, ?_⟩
  · intro u hu
    rcases List.mem_or_eq_of_mem_set hu with h | h
    · rw [(List.mem_replicate.1 h).2]; intro x hx; cases hx
    · rw [h]; exact hs
  · rw [mvP_split t hq, psum_append, psum_rep, psum_addH, psum_rep, mvD_len hab hbn]; omega
  · have := List.count_le_length (a := false) (l := mvD n a b)
    rw [mvD_len hab hbn] at this; omega
theorem ymove_x (l : List Int) (lv : Value) (g : Nat) (hyl : Rdb F lv 1 l.length (l.map (Value.int .i32))) (f m t : Int) (hln : l.length ≤ 65536) (hsc : ∀ c ∈ l, scalar c) :
    CallX Tryd.prog 26 [.pointer (some ⟨g, 0, none⟩), .int .i64 f, .int .i64 m, .int .i64 t] S w0 (.blk g (.cells [lv].toArray 56 (0, 0)) :: F) (fun u L' => ∃ v', u = .tuple #[v', .int .i64 (mvE l f m t)] ∧ L' = .row v' 104 3 (mvF l f m t).length (encs (mvF l f m t)) :: .blk g (.cells [lv].toArray 56 (0, 0)) :: F) := by
 intro w hp
 have hyll := hyl.cons.lenLe hp
 have hbl := begs_len l
 refine calls_start Tryd.func26 rfl rfl rfl (hp) ?_
 refine TC.seq (TC.region (TL.opP rfl (op_assign rfl) (TL.opP rfl (op_assign rfl) (TL.nil (TQ.then (TC.seq (TC.region (TL.opP rfl (op_move rfl) ?_))))))))
 refine TL.opX rfl (OpX.callX en_38 rfl (ybegins_x l _ _ hyl (by omega))) ?_; rintro w1 _ ⟨_, rfl, rfl⟩
 refine TL.opP rfl (op_assign rfl) (TL.nil (TQ.then ?_))
 refine TC.join (ι := Unit) (fun _u => [(0, .pointer (some ⟨g, 0, none⟩)), (1, .int .i64 f), (2, .int .i64 m), (3, .int .i64 t), (10, w1)]) (fun _u => .row w1 3 1 (begs l).length ((begs l).map nv) :: .blk g (.cells [lv].toArray 56 (0, 0)) :: F) (fun _u => ¬ mvBad l f m t) ?_ ?_
 ·refine TC.seq (TC.region (TL.opP rfl (op_move rfl) (TL.opP rfl (op_lss rfl rfl) (TL.opP rfl (op_move rfl) ?_))))
  first | refine TL.splitD (fun c1 => ?_) (fun c1 => ?_) | refine TL.splitB (fun c1 => ?_) (fun c1 => ?_)
  ·refine TL.gFt rfl rfl rfl (TL.gFt rfl rfl rfl (TL.opP rfl (op_pickT rfl rfl) (TL.opP rfl (op_move rfl) (TL.gFt rfl rfl rfl (TL.gFt rfl rfl rfl (TL.gFt rfl rfl rfl (TL.gFt rfl rfl rfl (TL.opP rfl (op_pickT rfl rfl) (TL.opP rfl (op_move rfl) (TL.gFt rfl rfl rfl (TL.gFt rfl rfl rfl (TL.gFt rfl rfl rfl (TL.gFt rfl rfl rfl (TL.gFt rfl rfl rfl (TL.gFt rfl rfl rfl (TL.gFt rfl rfl rfl (TL.opP rfl (op_pickT rfl rfl) (TL.opP rfl (op_move rfl) (TL.gFt rfl rfl rfl (TL.gFt rfl rfl rfl (TL.opP rfl (op_pickT rfl rfl) (TL.opP rfl (op_move rfl) (TL.gFt rfl rfl rfl (TL.gFt rfl rfl rfl (TL.gFt rfl rfl rfl (TL.gFt rfl rfl rfl (TL.opP rfl (op_pickT rfl rfl) (TL.opP rfl (op_move rfl) (TL.gFt rfl rfl rfl (TL.gFt rfl rfl rfl ?_))))))))))))))))))))))))))))))
   refine TL.gFt rfl rfl rfl (TL.gFt rfl rfl rfl (TL.gU rfl rfl rfl (TL.gU rfl rfl rfl (TL.gU rfl rfl rfl (TL.gU rfl rfl rfl (TL.gU rfl rfl rfl (TL.gFt rfl rfl rfl (TL.opP rfl (op_pickT rfl rfl) (TL.nil (TQ.then (TC.condT rfl (TC.seq (TC.region (TL.opP rfl (op_assign rfl) (TL.opP rfl (op_assign rfl) (TL.nil (TQ.then (TC.ret (TQ.join_ret ?_)))))))))))))))))))
   refine ret2 rfl rfl rfl (fun w' hp => ?_)
   first
     | (have hb : mvBad l f m t := by (unfold mvBad; omega)
        exact ⟨_, _, rfl, ⟨.slice none 0 0, by rw [show mvE l f m t = 1 from if_pos hb], by rw [show mvF l f m t = [] from if_pos hb]; rfl⟩, new_nil _ 3 (hp.tail)⟩)
     | exact ⟨_, _, rfl, ⟨_, by rw [show mvE l jf jm jt = 0 from if_neg hnb], by (rw [show mvF l jf jm jt = closeF (mvP l.length (bg l jt) ((l.drop (bg l jf)).take (bg l ((jf : Int) + jm) - bg l jf))) (mvD l.length (bg l jf) (bg l ((jf : Int) + jm))) from if_neg hnb, ba, bb, bq]; first | done | rfl)⟩, (hp.tail)⟩
  ·refine TL.gT rfl rfl (TL.opP rfl (op_move rfl) (TL.gT rfl rfl (TL.opP rfl (op_lss rfl rfl) (TL.opP rfl (op_pickF rfl rfl) (TL.opP rfl (op_move rfl) ?_)))))
   first | refine TL.splitD (fun c2 => ?_) (fun c2 => ?_) | refine TL.splitB (fun c2 => ?_) (fun c2 => ?_)
   ·refine TL.gFt rfl rfl rfl (TL.gFt rfl rfl rfl (TL.gFt rfl rfl rfl (TL.gFt rfl rfl rfl (TL.opP rfl (op_pickT rfl rfl) (TL.opP rfl (op_move rfl) (TL.gFt rfl rfl rfl (TL.gFt rfl rfl rfl (TL.gFt rfl rfl rfl (TL.gFt rfl rfl rfl (TL.gFt rfl rfl rfl (TL.gFt rfl rfl rfl (TL.gFt rfl rfl rfl (TL.opP rfl (op_pickT rfl rfl) (TL.opP rfl (op_move rfl) (TL.gFt rfl rfl rfl (TL.gFt rfl rfl rfl (TL.opP rfl (op_pickT rfl rfl) (TL.opP rfl (op_move rfl) (TL.gFt rfl rfl rfl (TL.gFt rfl rfl rfl (TL.gFt rfl rfl rfl (TL.gFt rfl rfl rfl (TL.opP rfl (op_pickT rfl rfl) (TL.opP rfl (op_move rfl) (TL.gFt rfl rfl rfl (TL.gFt rfl rfl rfl (TL.gFt rfl rfl rfl (TL.gFt rfl rfl rfl (TL.gU rfl rfl rfl (TL.gU rfl rfl rfl (TL.gU rfl rfl rfl ?_)))))))))))))))))))))))))))))))
    refine TL.gU rfl rfl rfl (TL.gU rfl rfl rfl (TL.gFt rfl rfl rfl (TL.opP rfl (op_pickT rfl rfl) (TL.nil (TQ.then (TC.condT rfl (TC.seq (TC.region (TL.opP rfl (op_assign rfl) (TL.opP rfl (op_assign rfl) (TL.nil (TQ.then (TC.ret (TQ.join_ret ?_))))))))))))))
    refine ret2 rfl rfl rfl (fun w' hp => ?_)
    first
      | (have hb : mvBad l f m t := by (unfold mvBad; omega)
         exact ⟨_, _, rfl, ⟨.slice none 0 0, by rw [show mvE l f m t = 1 from if_pos hb], by rw [show mvF l f m t = [] from if_pos hb]; rfl⟩, new_nil _ 3 (hp.tail)⟩)
      | exact ⟨_, _, rfl, ⟨_, by rw [show mvE l jf jm jt = 0 from if_neg hnb], by (rw [show mvF l jf jm jt = closeF (mvP l.length (bg l jt) ((l.drop (bg l jf)).take (bg l ((jf : Int) + jm) - bg l jf))) (mvD l.length (bg l jf) (bg l ((jf : Int) + jm))) from if_neg hnb, ba, bb, bq]; first | done | rfl)⟩, (hp.tail)⟩
   ·refine TL.gT rfl rfl (TL.opP rfl (op_move rfl) (TL.gT rfl rfl (TL.opP rfl (op_move rfl) (TL.gT rfl rfl (TL.opV rfl (op_lenV rfl un_sl_int rfl rw0) (TL.gT rfl rfl (TL.opP rfl (op_geq rfl rfl) (TL.opP rfl (op_pickF rfl rfl) (TL.opP rfl (op_move rfl) ?_)))))))))
    first | refine TL.splitD (fun c3 => ?_) (fun c3 => ?_) | refine TL.splitB (fun c3 => ?_) (fun c3 => ?_)
    ·refine TL.gFt rfl rfl rfl (TL.gFt rfl rfl rfl (TL.gFt rfl rfl rfl (TL.gFt rfl rfl rfl (TL.gFt rfl rfl rfl (TL.gFt rfl rfl rfl (TL.gFt rfl rfl rfl (TL.opP rfl (op_pickT rfl rfl) (TL.opP rfl (op_move rfl) (TL.gFt rfl rfl rfl (TL.gFt rfl rfl rfl (TL.opP rfl (op_pickT rfl rfl) (TL.opP rfl (op_move rfl) (TL.gFt rfl rfl rfl (TL.gFt rfl rfl rfl (TL.gFt rfl rfl rfl (TL.gFt rfl rfl rfl (TL.opP rfl (op_pickT rfl rfl) (TL.opP rfl (op_move rfl) (TL.gFt rfl rfl rfl (TL.gFt rfl rfl rfl (TL.gFt rfl rfl rfl (TL.gFt rfl rfl rfl (TL.gU rfl rfl rfl (TL.gU rfl rfl rfl (TL.gU rfl rfl rfl (TL.gU rfl rfl rfl (TL.gU rfl rfl rfl (TL.gFt rfl rfl rfl (TL.opP rfl (op_pickT rfl rfl) (TL.nil (TQ.then (TC.condT rfl (TC.seq (TC.region ?_))))))))))))))))))))))))))))))))))
     refine TL.opP rfl (op_assign rfl) (TL.opP rfl (op_assign rfl) (TL.nil (TQ.then (TC.ret (TQ.join_ret ?_)))))
     refine ret2 rfl rfl rfl (fun w' hp => ?_)
     first
       | (have hb : mvBad l f m t := by (unfold mvBad; omega)
          exact ⟨_, _, rfl, ⟨.slice none 0 0, by rw [show mvE l f m t = 1 from if_pos hb], by rw [show mvF l f m t = [] from if_pos hb]; rfl⟩, new_nil _ 3 (hp.tail)⟩)
       | exact ⟨_, _, rfl, ⟨_, by rw [show mvE l jf jm jt = 0 from if_neg hnb], by (rw [show mvF l jf jm jt = closeF (mvP l.length (bg l jt) ((l.drop (bg l jf)).take (bg l ((jf : Int) + jm) - bg l jf))) (mvD l.length (bg l jf) (bg l ((jf : Int) + jm))) from if_neg hnb, ba, bb, bq]; first | done | rfl)⟩, (hp.tail)⟩
    ·refine TL.gT rfl rfl (TL.opP rfl (op_move rfl) (TL.gT rfl rfl (TL.opP rfl (op_move rfl) (TL.gT rfl rfl (TL.opV rfl (op_lenV rfl un_sl_int rfl rw0) (TL.gT rfl rfl (TL.opP rfl (op_sub rfl rfl rfl (by omega) (by omega)) (TL.gT rfl rfl (TL.opP rfl (op_move rfl) (TL.gT rfl rfl (TL.opP rfl (op_sub rfl rfl rfl (by omega) (by omega)) (TL.gT rfl rfl (TL.opP rfl (op_gtr rfl rfl) (TL.opP rfl (op_pickF rfl rfl) (TL.opP rfl (op_move rfl) ?_)))))))))))))))
     first | refine TL.splitD (fun c4 => ?_) (fun c4 => ?_) | refine TL.splitB (fun c4 => ?_) (fun c4 => ?_)
     ·refine TL.gFt rfl rfl rfl (TL.gFt rfl rfl rfl (TL.opP rfl (op_pickT rfl rfl) (TL.opP rfl (op_move rfl) (TL.gFt rfl rfl rfl (TL.gFt rfl rfl rfl (TL.gFt rfl rfl rfl (TL.gFt rfl rfl rfl (TL.opP rfl (op_pickT rfl rfl) (TL.opP rfl (op_move rfl) (TL.gFt rfl rfl rfl (TL.gFt rfl rfl rfl (TL.gFt rfl rfl rfl (TL.gFt rfl rfl rfl (TL.gU rfl rfl rfl (TL.gU rfl rfl rfl (TL.gU rfl rfl rfl (TL.gU rfl rfl rfl (TL.gU rfl rfl rfl (TL.gFt rfl rfl rfl (TL.opP rfl (op_pickT rfl rfl) (TL.nil (TQ.then (TC.condT rfl (TC.seq (TC.region (TL.opP rfl (op_assign rfl) (TL.opP rfl (op_assign rfl) (TL.nil (TQ.then (TC.ret (TQ.join_ret ?_)))))))))))))))))))))))))))))))
      refine ret2 rfl rfl rfl (fun w' hp => ?_)
      first
        | (have hb : mvBad l f m t := by (unfold mvBad; omega)
           exact ⟨_, _, rfl, ⟨.slice none 0 0, by rw [show mvE l f m t = 1 from if_pos hb], by rw [show mvF l f m t = [] from if_pos hb]; rfl⟩, new_nil _ 3 (hp.tail)⟩)
        | exact ⟨_, _, rfl, ⟨_, by rw [show mvE l jf jm jt = 0 from if_neg hnb], by (rw [show mvF l jf jm jt = closeF (mvP l.length (bg l jt) ((l.drop (bg l jf)).take (bg l ((jf : Int) + jm) - bg l jf))) (mvD l.length (bg l jf) (bg l ((jf : Int) + jm))) from if_neg hnb, ba, bb, bq]; first | done | rfl)⟩, (hp.tail)⟩
     ·refine TL.gT rfl rfl (TL.opP rfl (op_move rfl) (TL.gT rfl rfl (TL.opP rfl (op_lss rfl rfl) (TL.opP rfl (op_pickF rfl rfl) (TL.opP rfl (op_move rfl) ?_)))))
      first | refine TL.splitD (fun c5 => ?_) (fun c5 => ?_) | refine TL.splitB (fun c5 => ?_) (fun c5 => ?_)
      ·refine TL.gFt rfl rfl rfl (TL.gFt rfl rfl rfl (TL.gFt rfl rfl rfl (TL.gFt rfl rfl rfl (TL.opP rfl (op_pickT rfl rfl) (TL.opP rfl (op_move rfl) (TL.gFt rfl rfl rfl (TL.gFt rfl rfl rfl (TL.gFt rfl rfl rfl (TL.gFt rfl rfl rfl (TL.gU rfl rfl rfl (TL.gU rfl rfl rfl (TL.gU rfl rfl rfl (TL.gU rfl rfl rfl (TL.gU rfl rfl rfl (TL.gFt rfl rfl rfl (TL.opP rfl (op_pickT rfl rfl) (TL.nil (TQ.then (TC.condT rfl (TC.seq (TC.region (TL.opP rfl (op_assign rfl) (TL.opP rfl (op_assign rfl) (TL.nil (TQ.then (TC.ret (TQ.join_ret ?_)))))))))))))))))))))))))))
       refine ret2 rfl rfl rfl (fun w' hp => ?_)
       first
         | (have hb : mvBad l f m t := by (unfold mvBad; omega)
            exact ⟨_, _, rfl, ⟨.slice none 0 0, by rw [show mvE l f m t = 1 from if_pos hb], by rw [show mvF l f m t = [] from if_pos hb]; rfl⟩, new_nil _ 3 (hp.tail)⟩)
         | exact ⟨_, _, rfl, ⟨_, by rw [show mvE l jf jm jt = 0 from if_neg hnb], by (rw [show mvF l jf jm jt = closeF (mvP l.length (bg l jt) ((l.drop (bg l jf)).take (bg l ((jf : Int) + jm) - bg l jf))) (mvD l.length (bg l jf) (bg l ((jf : Int) + jm))) from if_neg hnb, ba, bb, bq]; first | done | rfl)⟩, (hp.tail)⟩
      ·refine TL.gT rfl rfl (TL.opP rfl (op_move rfl) (TL.gT rfl rfl (TL.opP rfl (op_move rfl) (TL.gT rfl rfl (TL.opV rfl (op_lenV rfl un_sl_int rfl rw0) (TL.gT rfl rfl (TL.opP rfl (op_geq rfl rfl) (TL.opP rfl (op_pickF rfl rfl) (TL.opP rfl (op_move rfl) ?_)))))))))
       first | refine TL.splitD (fun c6 => ?_) (fun c6 => ?_) | refine TL.splitB (fun c6 => ?_) (fun c6 => ?_)
       ·refine TL.gFt rfl rfl rfl (TL.gFt rfl rfl rfl (TL.gFt rfl rfl rfl (TL.gFt rfl rfl rfl (TL.gU rfl rfl rfl (TL.gU rfl rfl rfl (TL.gU rfl rfl rfl (TL.gU rfl rfl rfl (TL.gU rfl rfl rfl (TL.gFt rfl rfl rfl (TL.opP rfl (op_pickT rfl rfl) (TL.nil (TQ.then (TC.condT rfl (TC.seq (TC.region (TL.opP rfl (op_assign rfl) (TL.opP rfl (op_assign rfl) (TL.nil (TQ.then (TC.ret (TQ.join_ret ?_)))))))))))))))))))))
        refine ret2 rfl rfl rfl (fun w' hp => ?_)
        first
          | (have hb : mvBad l f m t := by (unfold mvBad; omega)
             exact ⟨_, _, rfl, ⟨.slice none 0 0, by rw [show mvE l f m t = 1 from if_pos hb], by rw [show mvF l f m t = [] from if_pos hb]; rfl⟩, new_nil _ 3 (hp.tail)⟩)
          | exact ⟨_, _, rfl, ⟨_, by rw [show mvE l jf jm jt = 0 from if_neg hnb], by (rw [show mvF l jf jm jt = closeF (mvP l.length (bg l jt) ((l.drop (bg l jf)).take (bg l ((jf : Int) + jm) - bg l jf))) (mvD l.length (bg l jf) (bg l ((jf : Int) + jm))) from if_neg hnb, ba, bb, bq]; first | done | rfl)⟩, (hp.tail)⟩
       ·refine TL.gT rfl rfl (TL.opP rfl (op_move rfl) (TL.gT rfl rfl (TL.opP rfl (op_move rfl) (TL.gT rfl rfl (TL.opP rfl (op_gtr rfl rfl) (TL.gT rfl rfl (TL.opP rfl (op_move rfl) ?_)))))))
        first | refine TL.splitD (fun c7 => ?_) (fun c7 => ?_) | refine TL.splitB (fun c7 => ?_) (fun c7 => ?_)
        ·refine TL.gT rfl rfl (TL.opP rfl (op_move rfl) (TL.gT rfl rfl (TL.opP rfl (op_move rfl) (TL.gT rfl rfl (TL.opP rfl (op_move rfl) (TL.gT rfl rfl (TL.opP rfl (op_add rfl rfl rfl (by omega) (by omega)) (TL.gT rfl rfl (TL.opP rfl (op_lss rfl rfl) (TL.gT rfl rfl (TL.opP rfl (op_pickT rfl rfl) (TL.opP rfl (op_pickF rfl rfl) (TL.nil (TQ.then ?_))))))))))))))
         first | refine TC.condD rfl (fun c8 => ?_) (fun c8 => ?_) | refine TC.condB rfl (fun c8 => ?_) (fun c8 => ?_)
         ·refine TC.seq (TC.region (TL.opP rfl (op_assign rfl) (TL.opP rfl (op_assign rfl) (TL.nil (TQ.then (TC.ret (TQ.join_ret ?_)))))))
          refine ret2 rfl rfl rfl (fun w' hp => ?_)
          first
            | (have hb : mvBad l f m t := by (unfold mvBad; omega)
               exact ⟨_, _, rfl, ⟨.slice none 0 0, by rw [show mvE l f m t = 1 from if_pos hb], by rw [show mvF l f m t = [] from if_pos hb]; rfl⟩, new_nil _ 3 (hp.tail)⟩)
            | exact ⟨_, _, rfl, ⟨_, by rw [show mvE l jf jm jt = 0 from if_neg hnb], by (rw [show mvF l jf jm jt = closeF (mvP l.length (bg l jt) ((l.drop (bg l jf)).take (bg l ((jf : Int) + jm) - bg l jf))) (mvD l.length (bg l jf) (bg l ((jf : Int) + jm))) from if_neg hnb, ba, bb, bq]; first | done | rfl)⟩, (hp.tail)⟩
         ·refine TC.skip ?_
          exact TQ.join (()) (by unfold mvBad; omega) ⟨rfl, rfl, rfl, rfl, rfl, trivial⟩ (fun _ h => h)
        ·refine TL.gFf rfl rfl rfl (TL.gFf rfl rfl rfl (TL.gFf rfl rfl rfl (TL.gFf rfl rfl rfl (TL.gFf rfl rfl rfl (TL.gT rfl rfl (TL.opP rfl (op_pickF rfl rfl) (TL.opP rfl (op_pickF rfl rfl) (TL.nil (TQ.then (TC.condF rfl (TC.skip ?_)))))))))))
         exact TQ.join (()) (by unfold mvBad; omega) ⟨rfl, rfl, rfl, rfl, rfl, trivial⟩ (fun _ h => h)
 ·rintro _ (hnb : ¬ mvBad l f m t)
  obtain ⟨jf, jm, jt, a, b, q, rfl, rfl, rfl, g1, g2, ga, gb, gq, ba, bb, bq, hab, hbn, hqn, hq1, hq2⟩ := mv_facts hnb
  have hts : ∀ x ∈ ((l.drop a).take (b - a)), scalar x := fun x hx => hsc x (List.mem_of_mem_drop (List.mem_of_mem_take hx))
  have hsl : ((l.drop a).take (b - a)).length = b - a := by rw [List.length_take, List.length_drop]; omega
  have hclb := mv_clb hts (by omega) hab hbn hqn hln
  refine TC.seq (TC.region (TL.opP rfl (op_assign rfl) (TL.nil (TQ.then (TC.seq (TC.seq (TC.draw [] (.cons (.p, 0) (.cons (.p, 1) (.cons (.p, 2) (.cons (.p, 4) (.cons (.p, 5) (.cons (.p, 8) (.cons (.p, 9) (.cons (.p, 10) (.cons (.p, 11) (.cons (.p, 16) (.cons (.t, 3) (.cons (.t, 6) (.cons (.t, 7) (.cons (.t, 12) (.cons (.t, 13) (.cons (.t, 14) (.cons (.t, 15) (.nil)))))))))))))))))) mo (by kernel_rfl) (TR.p rfl rfl wt0 (op_move rfl) (TR.p rfl rfl wt0 (op_nilCheck rfl) (TR.p rfl rfl wt0 (op_field fld_sealskinref11_Index_L rfl) (TR.p rfl rfl wt0 (op_move rfl) (TR.p rfl rfl wt0 (op_move rfl) (TR.p rfl rfl wt0 (op_move rfl) (TR.p rfl rfl wt0 (op_move rfl) (TR.p rfl rfl wt0 (op_move rfl) (TR.p rfl rfl wt0 (op_add rfl rfl rfl (by omega) (by omega)) ?_))))))))))))))))
  refine TR.p rfl rfl wt0 (op_move rfl) (TR.t rfl rfl wt0 (op_load ts_sl_int32 rfl m1 rfl) (fun _ h => h) (TR.t rfl rfl wt0 (op_index tsl_int rfl rw0 rfl (by omega) (by omega)) (fun _ h => h) (TR.t rfl rfl wt0 (op_loadR ts_int rfl rw0 (lkM (f := nv) (i := jf) (d := 0) (by omega) ga (by omega))) (fun _ h => h) (TR.t rfl rfl wt0 (op_index tsl_int rfl rw0 rfl (by omega) (by omega)) (fun _ h => h) (TR.t rfl rfl wt0 (op_loadR ts_int rfl rw0 (lkM (f := nv) (i := (jf + jm)) (d := 0) (by omega) gb (by omega))) (fun _ h => h) (TR.t rfl rfl wt0 (op_cut a b tsl_int32 rfl hyl.cons.cons (vlo := (some _)) (vhi := (some _)) rfl rfl (.inr ⟨_, _, rfl, by omega⟩) (.inr ⟨_, _, rfl, by omega⟩) (by omega) (by omega)) (fun _ h => h) ?_))))))
  refine TR.t rfl rfl wt0 (op_lenV rfl un_sl_int32 rfl (Rdb.cut hyl.cons.cons a b (by omega) (by omega))) (fun _ h => h) (TR.nil (TQ.then (TC.block (TC.loop (ι := Nat) (fun i => [(0, .pointer (some ⟨g, 0, none⟩)), (1, .int .i64 (jf : Int)), (2, .int .i64 (jm : Int)), (3, .int .i64 (jt : Int)), (10, w1), (11, .string (enc (((l.drop a).take (b - a)).take i))), (75, Value.cut lv a b 1), (76, .int .i64 ((b - a : Nat) : Int)), (77, .int .i64 (i : Int))]) (fun i => .row w1 3 1 (begs l).length ((begs l).map nv) :: .blk g (.cells [lv].toArray 56 (0, 0)) :: F) (fun i => i ≤ b - a) (fun i => b - a - i) (0) (Nat.zero_le _) ⟨rfl, rfl, rfl, rfl, rfl, rfl, rfl, rfl, rfl, trivial⟩ (fun _ h => h) ?_))))
  rintro i (hi : i ≤ b - a)
  have hes := (enc_size (((l.drop a).take (b - a)).take i)).2
  rw [List.length_take] at hes
  refine TC.seq (TC.region (TL.opP rfl (op_lss rfl rfl) (TL.nil (TQ.then (TC.seq ?_)))))
  first | refine TC.condD rfl (fun c9 => ?_) (fun c9 => ?_) | refine TC.condB rfl (fun c9 => ?_) (fun c9 => ?_)
  ·obtain ⟨c, hc⟩ : ∃ c, ((l.drop a).take (b - a)).getD i 0 = c := ⟨_, rfl⟩
   have hc1 := (enc_size [c]).2
   simp only [List.length_singleton] at hc1
   refine TC.skip (TQ.then (TC.seq (TC.block (TC.seq (TC.region (TL.opV rfl (op_index tsl_int32 rfl (ints_cut hyl a b hab hbn).cons.cons rfl (by omega) (by omega)) (TL.opV rfl (op_loadR ts_int32 rfl (ints_cut hyl a b hab hbn).cons.cons (lkM (d := 0) (by omega) hc (by omega))) (TL.opP rfl (op_assign rfl) (TL.nil (TQ.then (TC.region (TL.opP rfl (op_move rfl) (TL.opP rfl (op_move rfl) (TL.opP rfl (op_unrune1 rfl un_string rfl) (TL.opP rfl (op_sadde rfl rfl (by omega)) (TL.opP rfl (op_assign rfl) (TL.nil (TQ.block_normal (TQ.then (TC.region (TL.opP rfl (op_add rfl rfl rfl (by omega) (by omega)) (TL.opP rfl (op_move rfl) (TL.nil ?_)))))))))))))))))))))))
   exact TQ.round (i + 1) (by show i + 1 ≤ _; omega) (by show _ - (i + 1) < _ - i; omega) ⟨rfl, rfl, rfl, rfl, rfl, gs rfl (by rw [take_succ_get (by omega) hc]), rfl, rfl, rfl, trivial⟩ (fun _ h => h)
  ·obtain rfl : i = b - a := by omega
   refine TC.re (t := 11) (v' := .string (enc ((l.drop a).take (b - a)))) rfl (by rw [List.take_of_length_le (Nat.le_of_eq hsl)]) (TC.exit (TQ.then_exit (TQ.loop_exit (TQ.block_hit (TQ.then ?_)))))
   refine TC.join (ι := Nat × Value × Value) (fun (g14, zv, zw) => [(0, .pointer (some ⟨g, 0, none⟩)), (1, .int .i64 (jf : Int)), (2, .int .i64 (jm : Int)), (3, .int .i64 (jt : Int)), (10, w1), (11, .string (enc ((l.drop a).take (b - a)))), (14, .pointer (some ⟨g14, 0, none⟩))]) (fun (g14, zv, zw) => .blk g14 (.cells [zv, zw].toArray 101 (0, 0)) :: .row zv 9 1 (List.replicate (l.length + 1) ([] : List Int)).length ((List.replicate (l.length + 1) ([] : List Int)).map sv) :: .row zw 4 1 (List.replicate l.length false).length ((List.replicate l.length false).map bv) :: .row w1 3 1 (begs l).length ((begs l).map nv) :: .blk g (.cells [lv].toArray 56 (0, 0)) :: F) (fun (g14, zv, zw) => zv.oneCell' = true ∧ zw.oneCell' = true) ?_ ?_
   ·refine TC.draw [15] (.cons (.p, 0) (.cons (.p, 1) (.cons (.p, 2) (.cons (.p, 7) (.cons (.p, 8) (.cons (.p, 9) (.cons (.t, 3) (.cons (.t, 4) (.cons (.p, 5) (.cons (.t, 10) (.cons (.t, 11) (.alt (.cons (.o, 6) (.alt (.cons (.o, 12) (.cons (.p, 13) (.cons (.o, 14) (.cons (.z, 15) (.nil))))) (.cons (.o, 14) (.cons (.o, 12) (.cons (.p, 13) (.cons (.z, 15) (.nil))))))) (.alt (.cons (.o, 12) (.alt (.cons (.o, 6) (.cons (.p, 13) (.cons (.o, 14) (.cons (.z, 15) (.nil))))) (.cons (.o, 14) (.cons (.o, 6) (.cons (.p, 13) (.cons (.z, 15) (.nil))))))) (.cons (.o, 14) (.alt (.cons (.o, 6) (.cons (.o, 12) (.cons (.p, 13) (.cons (.z, 15) (.nil))))) (.cons (.o, 12) (.cons (.o, 6) (.cons (.p, 13) (.cons (.z, 15) (.nil)))))))))))))))))))) mo (by kernel_rfl) ?_
    refine TR.p rfl rfl wt0 (op_move rfl) (TR.p rfl rfl wt0 (op_nilCheck rfl) (TR.p rfl rfl wt0 (op_field fld_sealskinref11_Index_L rfl) (TR.p rfl rfl wt0 (op_move rfl) (TR.p rfl rfl wt0 (op_nilCheck rfl) (TR.p rfl rfl wt0 (op_field fld_sealskinref11_Index_L rfl) (TR.t rfl rfl wt0 (op_load ts_sl_int32 rfl m1 rfl) (fun _ h => h) (TR.t rfl rfl wt0 (op_lenV rfl un_sl_int32 rfl hyl.cons.cons) (fun _ h => h) (TR.p rfl rfl wt0 (op_add rfl rfl rfl (by omega) (by omega)) (TR.t rfl rfl wt0 (op_load ts_sl_int32 rfl m1 rfl) (fun _ h => h) (TR.t rfl rfl wt0 (op_lenV rfl un_sl_int32 rfl hyl.cons.cons) (fun _ h => h) ?_))))))))))
    refine TR.alt ?_ ?_
    ·refine TR.o rfl rfl wt0 (OpX.make (m := (l.length + 1)) (zs := ((List.replicate (l.length + 1) ([] : List Int)).map sv)) tsl_string rfl rfl (by omega) (by decide) (by omega) (made_str _)) (by rintro v2 _ rfl; intro w h; exact h.tail) ?_; rintro v2 _ rfl
     refine TR.know (fun _ h => row1 h) (fun o2 => (TR.hp (fun _ h => row_lenM h) ?_))
     refine TR.alt ?_ ?_
     ·refine TR.o rfl rfl wt0 (OpX.make (m := l.length) (zs := ((List.replicate l.length false).map bv)) tsl_bool rfl rfl (by omega) (by decide) (by omega) (made_bool _)) (by rintro v3 _ rfl; intro w h; exact h.drop1.tail) ?_; rintro v3 _ rfl
      refine TR.know (fun _ h => row1 h) (fun o3 => (TR.hp (fun _ h => row_lenM h) (TR.p rfl rfl wt0 (op_build (ps := #[(0, _), (1, _)]) rfl (bl_sealskinref03_Wide_01 _ _)) ?_)))
      refine TR.o rfl rfl wt0 (OpX.alloc tz_sealskinref03_Wide rfl) (by rintro _ _ ⟨g14, rfl, rfl⟩; intro w h; exact h.drop2.drop1.tail) ?_; rintro _ _ ⟨g14, rfl, rfl⟩
      refine TR.z0 rfl wt0 (OpX.storeS tst_sealskinref03_Wide rfl rfl rfl rfl rfl (by first | exact (List.all_eq_true.1 rfl) | (intro u hu; simp only [List.mem_cons, List.not_mem_nil, or_false] at hu; rcases hu with rfl | rfl <;> assumption))) ?_; rintro _ _ rfl
      refine TR.nil ?_
      exact TQ.join (g14, v2, v3) (⟨by assumption, by assumption⟩) ⟨rfl, rfl, rfl, rfl, rfl, rfl, rfl, trivial⟩ (fun _ h => h.pick4.pick4.pick3.pick4.pick4)
     ·refine TR.o rfl rfl wt0 (OpX.alloc tz_sealskinref03_Wide rfl) (by rintro _ _ ⟨g14, rfl, rfl⟩; intro w h; exact h.drop1.tail) ?_; rintro _ _ ⟨g14, rfl, rfl⟩
      refine TR.o rfl rfl wt0 (OpX.make (m := l.length) (zs := ((List.replicate l.length false).map bv)) tsl_bool rfl rfl (by omega) (by decide) (by omega) (made_bool _)) (by rintro v4 _ rfl; intro w h; exact h.drop2.drop1.tail) ?_; rintro v4 _ rfl
      refine TR.know (fun _ h => row1 h) (fun o4 => (TR.hp (fun _ h => row_lenM h) (TR.p rfl rfl wt0 (op_build (ps := #[(0, _), (1, _)]) rfl (bl_sealskinref03_Wide_01 _ _)) (TR.hp (fun _ h => h.pick1) ?_))))
      refine TR.z0 rfl wt0 (OpX.storeS tst_sealskinref03_Wide rfl rfl rfl rfl rfl (by first | exact (List.all_eq_true.1 rfl) | (intro u hu; simp only [List.mem_cons, List.not_mem_nil, or_false] at hu; rcases hu with rfl | rfl <;> assumption))) ?_; rintro _ _ rfl
      refine TR.nil ?_
      exact TQ.join (g14, v2, v4) (⟨by assumption, by assumption⟩) ⟨rfl, rfl, rfl, rfl, rfl, rfl, rfl, trivial⟩ (fun _ h => h.pick4.pick4.pick3.pick4.pick4)
    ·refine TR.alt ?_ ?_
     ·refine TR.o rfl rfl wt0 (OpX.make (m := l.length) (zs := ((List.replicate l.length false).map bv)) tsl_bool rfl rfl (by omega) (by decide) (by omega) (made_bool _)) (by rintro v5 _ rfl; intro w h; exact h.tail) ?_; rintro v5 _ rfl
      refine TR.know (fun _ h => row1 h) (fun o5 => (TR.hp (fun _ h => row_lenM h) ?_))
      refine TR.alt ?_ ?_
      ·refine TR.o rfl rfl wt0 (OpX.make (m := (l.length + 1)) (zs := ((List.replicate (l.length + 1) ([] : List Int)).map sv)) tsl_string rfl rfl (by omega) (by decide) (by omega) (made_str _)) (by rintro v6 _ rfl; intro w h; exact h.drop1.tail) ?_; rintro v6 _ rfl
       refine TR.know (fun _ h => row1 h) (fun o6 => (TR.hp (fun _ h => row_lenM h) (TR.p rfl rfl wt0 (op_build (ps := #[(0, _), (1, _)]) rfl (bl_sealskinref03_Wide_01 _ _)) ?_)))
       refine TR.o rfl rfl wt0 (OpX.alloc tz_sealskinref03_Wide rfl) (by rintro _ _ ⟨g14, rfl, rfl⟩; intro w h; exact h.drop2.drop1.tail) ?_; rintro _ _ ⟨g14, rfl, rfl⟩
       refine TR.z0 rfl wt0 (OpX.storeS tst_sealskinref03_Wide rfl rfl rfl rfl rfl (by first | exact (List.all_eq_true.1 rfl) | (intro u hu; simp only [List.mem_cons, List.not_mem_nil, or_false] at hu; rcases hu with rfl | rfl <;> assumption))) ?_; rintro _ _ rfl
       refine TR.nil ?_
       exact TQ.join (g14, v6, v5) (⟨by assumption, by assumption⟩) ⟨rfl, rfl, rfl, rfl, rfl, rfl, rfl, trivial⟩ (fun _ h => h)
      ·refine TR.o rfl rfl wt0 (OpX.alloc tz_sealskinref03_Wide rfl) (by rintro _ _ ⟨g14, rfl, rfl⟩; intro w h; exact h.drop1.tail) ?_; rintro _ _ ⟨g14, rfl, rfl⟩
       refine TR.o rfl rfl wt0 (OpX.make (m := (l.length + 1)) (zs := ((List.replicate (l.length + 1) ([] : List Int)).map sv)) tsl_string rfl rfl (by omega) (by decide) (by omega) (made_str _)) (by rintro v7 _ rfl; intro w h; exact h.drop2.drop1.tail) ?_; rintro v7 _ rfl
       refine TR.know (fun _ h => row1 h) (fun o7 => (TR.hp (fun _ h => row_lenM h) (TR.p rfl rfl wt0 (op_build (ps := #[(0, _), (1, _)]) rfl (bl_sealskinref03_Wide_01 _ _)) (TR.hp (fun _ h => h.pick1) ?_))))
       refine TR.z0 rfl wt0 (OpX.storeS tst_sealskinref03_Wide rfl rfl rfl rfl rfl (by first | exact (List.all_eq_true.1 rfl) | (intro u hu; simp only [List.mem_cons, List.not_mem_nil, or_false] at hu; rcases hu with rfl | rfl <;> assumption))) ?_; rintro _ _ rfl
       refine TR.nil ?_
       exact TQ.join (g14, v7, v5) (⟨by assumption, by assumption⟩) ⟨rfl, rfl, rfl, rfl, rfl, rfl, rfl, trivial⟩ (fun _ h => h)
     ·refine TR.o rfl rfl wt0 (OpX.alloc tz_sealskinref03_Wide rfl) (by rintro _ _ ⟨g14, rfl, rfl⟩; intro w h; exact h.tail) ?_; rintro _ _ ⟨g14, rfl, rfl⟩
      refine TR.alt ?_ ?_
      ·refine TR.o rfl rfl wt0 (OpX.make (m := (l.length + 1)) (zs := ((List.replicate (l.length + 1) ([] : List Int)).map sv)) tsl_string rfl rfl (by omega) (by decide) (by omega) (made_str _)) (by rintro v8 _ rfl; intro w h; exact h.drop1.tail) ?_; rintro v8 _ rfl
       refine TR.know (fun _ h => row1 h) (fun o8 => (TR.hp (fun _ h => row_lenM h) ?_))
       refine TR.o rfl rfl wt0 (OpX.make (m := l.length) (zs := ((List.replicate l.length false).map bv)) tsl_bool rfl rfl (by omega) (by decide) (by omega) (made_bool _)) (by rintro v9 _ rfl; intro w h; exact h.drop2.drop1.tail) ?_; rintro v9 _ rfl
       refine TR.know (fun _ h => row1 h) (fun o9 => (TR.hp (fun _ h => row_lenM h) (TR.p rfl rfl wt0 (op_build (ps := #[(0, _), (1, _)]) rfl (bl_sealskinref03_Wide_01 _ _)) (TR.hp (fun _ h => h.pick2) ?_))))
       refine TR.z0 rfl wt0 (OpX.storeS tst_sealskinref03_Wide rfl rfl rfl rfl rfl (by first | exact (List.all_eq_true.1 rfl) | (intro u hu; simp only [List.mem_cons, List.not_mem_nil, or_false] at hu; rcases hu with rfl | rfl <;> assumption))) ?_; rintro _ _ rfl
       refine TR.nil ?_
       exact TQ.join (g14, v8, v9) (⟨by assumption, by assumption⟩) ⟨rfl, rfl, rfl, rfl, rfl, rfl, rfl, trivial⟩ (fun _ h => h.pick4.pick4.pick3.pick4.pick4)
      ·refine TR.o rfl rfl wt0 (OpX.make (m := l.length) (zs := ((List.replicate l.length false).map bv)) tsl_bool rfl rfl (by omega) (by decide) (by omega) (made_bool _)) (by rintro v10 _ rfl; intro w h; exact h.drop1.tail) ?_; rintro v10 _ rfl
       refine TR.know (fun _ h => row1 h) (fun o10 => (TR.hp (fun _ h => row_lenM h) ?_))
       refine TR.o rfl rfl wt0 (OpX.make (m := (l.length + 1)) (zs := ((List.replicate (l.length + 1) ([] : List Int)).map sv)) tsl_string rfl rfl (by omega) (by decide) (by omega) (made_str _)) (by rintro v11 _ rfl; intro w h; exact h.drop2.drop1.tail) ?_; rintro v11 _ rfl
       refine TR.know (fun _ h => row1 h) (fun o11 => (TR.hp (fun _ h => row_lenM h) (TR.p rfl rfl wt0 (op_build (ps := #[(0, _), (1, _)]) rfl (bl_sealskinref03_Wide_01 _ _)) (TR.hp (fun _ h => h.pick2) ?_))))
       refine TR.z0 rfl wt0 (OpX.storeS tst_sealskinref03_Wide rfl rfl rfl rfl rfl (by first | exact (List.all_eq_true.1 rfl) | (intro u hu; simp only [List.mem_cons, List.not_mem_nil, or_false] at hu; rcases hu with rfl | rfl <;> assumption))) ?_; rintro _ _ rfl
       refine TR.nil ?_
       exact TQ.join (g14, v11, v10) (⟨by assumption, by assumption⟩) ⟨rfl, rfl, rfl, rfl, rfl, rfl, rfl, trivial⟩ (fun _ h => h)
   ·rintro ⟨g14, zv, zw⟩ ⟨oz1, oz2⟩
    show TC _ _ _ _ [(0, .pointer (some ⟨g, 0, none⟩)), (1, .int .i64 (jf : Int)), (2, .int .i64 (jm : Int)), (3, .int .i64 (jt : Int)), (10, w1), (11, .string (enc ((l.drop a).take (b - a)))), (14, .pointer (some ⟨g14, 0, none⟩))] _ _ (.blk g14 (.cells [zv, zw].toArray 101 (0, 0)) :: .row zv 9 1 (List.replicate (l.length + 1) ([] : List Int)).length ((List.replicate (l.length + 1) ([] : List Int)).map sv) :: .row zw 4 1 (List.replicate l.length false).length ((List.replicate l.length false).map bv) :: .row w1 3 1 (begs l).length ((begs l).map nv) :: .blk g (.cells [lv].toArray 56 (0, 0)) :: F)
    refine TC.seq (TC.draw [8] (.cons (.p, 0) (.cons (.p, 2) (.cons (.p, 3) (.cons (.p, 6) (.cons (.t, 1) (.cons (.t, 4) (.cons (.t, 5) (.cons (.t, 7) (.cons (.z, 8) (.nil)))))))))) mo (by kernel_rfl) (TR.p rfl rfl wt0 (op_field fld_sealskinref03_Wide_Puts rfl) (TR.p rfl rfl wt0 (op_move rfl) (TR.p rfl rfl wt0 (op_move rfl) (TR.p rfl rfl wt0 (op_move rfl) (TR.t rfl rfl wt0 (op_load ts_sl_string rfl m0 rfl) (fun _ h => h) (TR.t rfl rfl wt0 (op_index tsl_int rfl rw3 rfl (by omega) (by omega)) (fun _ h => h) (TR.t rfl rfl wt0 (op_loadR ts_int rfl rw3 (lkM (f := nv) (i := jt) (d := 0) (by omega) gq (by omega))) (fun _ h => h) ?_))))))))
    refine TR.t rfl rfl wt0 (op_index tsl_string rfl rw1 rfl (by first | omega | (rw [List.length_replicate]; omega)) (by first | omega | (rw [List.length_replicate]; omega))) (fun _ h => h) ?_
    refine TR.hp (fun _ h => h.pick1) ?_
    refine TR.z0 rfl wt0 (OpX.storeRow (k := 1) (fun w => by kernel_rfl) rfl rfl rfl (ys := [sv ((l.drop a).take (b - a))]) rfl (by decide) (by first | exact (List.all_eq_true.1 rfl) | (intro u hu; simp only [List.mem_cons, List.not_mem_nil, or_false] at hu; rcases hu with rfl | rfl <;> assumption)) (by rw [List.length_replicate]; omega) (stM (i := q) (by rw [List.length_replicate]; omega) (by omega))) ?_; rintro _ _ rfl
    refine TR.hp (fun _ h => row_lenM h) (TR.nil (TQ.then (TC.seq (TC.seq (TC.region (TL.opP rfl (op_move rfl) (TL.opP rfl (op_move rfl) (TL.opV rfl (op_index tsl_int rfl rw3 rfl (by omega) (by omega)) (TL.opV rfl (op_loadR ts_int rfl rw3 (lkM (f := nv) (i := jf) (d := 0) (by omega) ga (by omega))) (TL.opP rfl (op_assign rfl) (TL.nil (TQ.then (TC.block ?_)))))))))))))
    refine TC.loop (ι := Nat) (fun i => [(0, .pointer (some ⟨g, 0, none⟩)), (1, .int .i64 (jf : Int)), (2, .int .i64 (jm : Int)), (3, .int .i64 (jt : Int)), (10, w1), (14, .pointer (some ⟨g14, 0, none⟩)), (15, .int .i64 (i : Int))]) (fun i => .blk g14 (.cells [zv, zw].toArray 101 (0, 0)) :: .row zv 9 1 (mvP l.length q ((l.drop a).take (b - a))).length ((mvP l.length q ((l.drop a).take (b - a))).map sv) :: .row zw 4 1 (mvD l.length a i).length ((mvD l.length a i).map bv) :: .row w1 3 1 (begs l).length ((begs l).map nv) :: .blk g (.cells [lv].toArray 56 (0, 0)) :: F) (fun i => a ≤ i ∧ i ≤ b) (fun i => b - i) (a) (⟨Nat.le_refl _, hab⟩) ⟨rfl, rfl, rfl, rfl, rfl, rfl, rfl, trivial⟩ (fun _ h => by rw [mvD_start (by omega)]; exact h.pick4.pick4.pick4.pick3.pick4) ?_
    rintro i ⟨hai, hib⟩
    refine TC.seq (TC.seq (TC.region (TL.opP rfl (op_move rfl) (TL.opP rfl (op_move rfl) (TL.opP rfl (op_move rfl) (TL.opP rfl (op_move rfl) (TL.opP rfl (op_add rfl rfl rfl (by omega) (by omega)) (TL.opV rfl (op_index tsl_int rfl rw3 rfl (by omega) (by omega)) (TL.opV rfl (op_loadR ts_int rfl rw3 (lkM (f := nv) (i := (jf + jm)) (d := 0) (by omega) gb (by omega))) (TL.opP rfl (op_lss rfl rfl) (TL.nil (TQ.then ?_))))))))))))
    first | refine TC.condD rfl (fun c10 => ?_) (fun c10 => ?_) | refine TC.condB rfl (fun c10 => ?_) (fun c10 => ?_)
    ·refine TC.skip (TQ.then (TC.seq (TC.block (TC.region (TL.opP rfl (op_field fld_sealskinref03_Wide_Drop rfl) (TL.opV rfl (op_load ts_sl_bool rfl m0 rfl) (TL.opP rfl (op_move rfl) ?_)))))))
     refine TL.opV rfl (op_index tsl_bool rfl rw2 rfl (by first | omega | (rw [mvD_len (by omega) (by omega)]; omega)) (by first | omega | (rw [mvD_len (by omega) (by omega)]; omega))) ?_
     refine TL.hp (fun _ h => h.pick2) ?_
     refine TL.opX0 (OpX.storeRow (k := 1) (fun w => by kernel_rfl) rfl rfl rfl (ys := [bv true]) rfl (by decide) (by first | exact (List.all_eq_true.1 rfl) | (intro u hu; simp only [List.mem_cons, List.not_mem_nil, or_false] at hu; rcases hu with rfl | rfl <;> assumption)) (by rw [mvD_len (by omega) (by omega)]; omega) (stM (i := i) (by rw [mvD_len (by omega) (by omega)]; omega) (by omega))) ?_; rintro _ _ rfl
     refine TL.hp (fun _ h => row_lenM h) (TL.nil (TQ.block_normal (TQ.then (TC.region (TL.opP rfl (op_move rfl) (TL.opP rfl (op_add rfl rfl rfl (by omega) (by omega)) (TL.opP rfl (op_assign rfl) (TL.nil ?_))))))))
     exact TQ.round (i + 1) (⟨by omega, by omega⟩) (by show _ - (i + 1) < _ - i; omega) ⟨rfl, rfl, rfl, rfl, rfl, rfl, rfl, trivial⟩ (fun _ h => by rw [← mvD_step hai (by omega)]; exact h.pick4.pick4.pick2.pick4.pick4)
    ·obtain rfl : i = b := by omega
     refine TC.exit (TQ.then_exit (TQ.loop_exit (TQ.block_hit (TQ.then (TC.seq (TC.region (TL.opV rfl (op_loadS tst_sealskinref03_Wide rfl m0 rfl) ?_)))))))
     refine TL.opX rfl (OpX.callX en_70 rfl (close_x _ _ _ _ hclb rw1 rw2)) ?_; rintro _ _ ⟨w12, rfl, rfl⟩
     refine TL.opP rfl (op_assign rfl) (TL.opP rfl (op_assign rfl) (TL.nil (TQ.then (TC.ret ?_))))
     refine ret2 rfl rfl rfl (fun w' hp => ?_)
     first
       | (have hb : mvBad l f m t := by (unfold mvBad; omega)
          exact ⟨_, _, rfl, ⟨.slice none 0 0, by rw [show mvE l f m t = 1 from if_pos hb], by rw [show mvF l f m t = [] from if_pos hb]; rfl⟩, new_nil _ 3 (hp.drop4.drop3.drop2.drop1)⟩)
       | exact ⟨_, _, rfl, ⟨_, by rw [show mvE l jf jm jt = 0 from if_neg hnb], by (rw [show mvF l jf jm jt = closeF (mvP l.length (bg l jt) ((l.drop (bg l jf)).take (bg l ((jf : Int) + jm) - bg l jf))) (mvD l.length (bg l jf) (bg l ((jf : Int) + jm))) from if_neg hnb, ba, bb, bq]; first | done | rfl)⟩, (hp.drop4.drop3.drop2.drop1)⟩

theorem take_getDN {l : List Nat} {k x : Nat} (h : k < l.length) (hx : l.getD k 0 = x) : l.take (k + 1) = l.take k ++ [x] := by
  rw [List.take_add_one, List.getElem?_eq_getElem h, ← hx, List.getD_eq_getElem?_getD, List.getElem?_eq_getElem h]; rfl
theorem take_eq_all' {a b : List Nat} {k : Nat} (h : a.take k = b.take k) (ha : a.length ≤ k) (hb : b.length ≤ k) : a = b := by rw [List.take_of_length_le ha, List.take_of_length_le hb] at h; exact h
theorem nat_ne {a b : Nat} (h : ¬ ((a : Int) ≠ (b : Int))) : a = b := by omega
theorem eqints_calls (a b : List Nat) (va vb : Value) (w : World) (ha : RdRow w va 1 a.length (a.map nv)) (hb : RdRow w vb 1 b.length (b.map nv)) :
    Calls Tryd.prog 24 (List.toArray [va, vb]) w fun e w' => e = .returned (.bool (decide (a = b))) ∧ Kp NoB w w' := by
 have hlen : a.length ≤ 9223372036854775807 := by obtain ⟨_, A, c, _, h1, h2, _⟩ := ha; simp only [maxLen] at h2; omega
 refine calls_start Tryd.func24 rfl rfl rfl (Hp.i2 (r := .rd va 1 a.length (a.map nv)) (s := .rd vb 1 b.length (b.map nv)) ha hb) ?_
 refine TC.seq (TC.region (TL.opP rfl (op_assign rfl) (TL.nil (TQ.then (TC.seq (TC.seq (TC.region (TL.opP rfl (op_move rfl) (TL.opV rfl (op_lenV rfl un_sl_int rfl rd0) (TL.opP rfl (op_move rfl) (TL.opV rfl (op_lenV rfl un_sl_int rfl rd1) (TL.opP rfl (op_neq rfl rfl) (TL.nil (TQ.then ?_))))))))))))))
 first | refine TC.condD rfl (fun c1 => ?_) (fun c1 => ?_) | refine TC.condB rfl (fun c1 => ?_) (fun c1 => ?_)
 ·refine TC.seq (TC.region (TL.opP rfl (op_assign rfl) (TL.nil (TQ.then (TC.ret (TQ.then_ret ?_))))))
  refine ret1 rfl rfl (fun w' hp => ?_)
  first
    | exact ⟨by rw [decide_eq_false (by rintro rfl; omega)], hp.kp⟩
    | exact ⟨by rw [decide_eq_false (by rintro rfl; exact c3 rfl)], hp.kp⟩
    | exact ⟨by rw [decide_eq_true (take_eq_all' htk (by omega) (by omega))], hp.kp⟩
 ·refine TC.skip (TQ.then (TC.seq (TC.seq (TC.region (TL.opP rfl (op_move rfl) (TL.opV rfl (op_lenV rfl un_sl_int rfl rd0) (TL.opP rfl (op_move rfl) (TL.nil (TQ.then (TC.block (TC.loop (ι := Nat) (fun k => [(0, va), (1, vb), (12, .int .i64 (a.length : Int)), (13, .int .i64 (k : Int))]) (fun k => [.rd va 1 a.length (a.map nv), .rd vb 1 b.length (b.map nv)]) (fun k => k ≤ a.length ∧ a.take k = b.take k) (fun k => a.length - k) (0) (⟨Nat.zero_le _, rfl⟩) ⟨rfl, rfl, rfl, rfl, trivial⟩ (fun _ h => h) ?_)))))))))))
  rintro k ⟨hk, htk⟩
  refine TC.seq (TC.region (TL.opP rfl (op_lss rfl rfl) (TL.nil (TQ.then (TC.seq ?_)))))
  first | refine TC.condD rfl (fun c2 => ?_) (fun c2 => ?_) | refine TC.condB rfl (fun c2 => ?_) (fun c2 => ?_)
  ·have hka : k < a.length := by omega
   have hkb : k < b.length := by omega
   refine TC.skip (TQ.then (TC.seq (TC.block (TC.seq (TC.region (TL.opP rfl (op_move rfl) (TL.opP rfl (op_assign rfl) (TL.nil (TQ.then (TC.seq (TC.draw [] (.cons (.p, 0) (.cons (.p, 1) (.cons (.p, 4) (.cons (.p, 5) (.cons (.t, 2) (.cons (.t, 3) (.cons (.t, 6) (.cons (.t, 7) (.cons (.p, 8) (.nil)))))))))) mo (by kernel_rfl) (TR.p rfl rfl wt0 (op_move rfl) (TR.p rfl rfl wt0 (op_move rfl) (TR.p rfl rfl wt0 (op_move rfl) (TR.p rfl rfl wt0 (op_move rfl) (TR.t rfl rfl wt0 (op_index tsl_int rfl rd0 rfl (by omega) (by omega)) (fun _ h => h) (TR.t rfl rfl wt0 (op_loadR ts_int rfl rd0 (lkM (f := nv) (i := k) (d := 0) (by omega) rfl (by omega))) (fun _ h => h) (TR.t rfl rfl wt0 (op_index tsl_int rfl rd1 rfl (by omega) (by omega)) (fun _ h => h) ?_))))))))))))))))))
   refine TR.t rfl rfl wt0 (op_loadR ts_int rfl rd1 (lkM (f := nv) (i := k) (d := 0) (by omega) rfl (by omega))) (fun _ h => h) (TR.p rfl rfl wt0 (op_neq rfl rfl) (TR.nil (TQ.then ?_)))
   first | refine TC.condD rfl (fun c3 => ?_) (fun c3 => ?_) | refine TC.condB rfl (fun c3 => ?_) (fun c3 => ?_)
   ·refine TC.seq (TC.region (TL.opP rfl (op_assign rfl) (TL.nil (TQ.then (TC.ret (TQ.block_ret (TQ.then_ret (TQ.loop_ret (TQ.block_ret (TQ.then_ret ?_))))))))))
    refine ret1 rfl rfl (fun w' hp => ?_)
    first
      | exact ⟨by rw [decide_eq_false (by rintro rfl; omega)], hp.kp⟩
      | exact ⟨by rw [decide_eq_false (by rintro rfl; exact c3 rfl)], hp.kp⟩
      | exact ⟨by rw [decide_eq_true (take_eq_all' htk (by omega) (by omega))], hp.kp⟩
   ·refine TC.skip (TQ.block_normal (TQ.then (TC.region (TL.opP rfl (op_add rfl rfl rfl (by omega) (by omega)) (TL.opP rfl (op_move rfl) (TL.nil ?_))))))
    exact TQ.round (k + 1) (⟨by omega, by rw [take_getDN hka rfl, take_getDN hkb rfl, htk, nat_ne c3]⟩) (by omega) ⟨rfl, rfl, rfl, rfl, trivial⟩ (fun _ h => h)
  ·refine TC.exit (TQ.then_exit (TQ.loop_exit (TQ.block_hit (TQ.then (TC.seq (TC.region (TL.opP rfl (op_assign rfl) (TL.nil (TQ.then (TC.ret ?_))))))))))
   refine ret1 rfl rfl (fun w' hp => ?_)
   first
     | exact ⟨by rw [decide_eq_false (by rintro rfl; omega)], hp.kp⟩
     | exact ⟨by rw [decide_eq_false (by rintro rfl; exact c3 rfl)], hp.kp⟩
     | exact ⟨by rw [decide_eq_true (take_eq_all' htk (by omega) (by omega))], hp.kp⟩

end Go.SK
