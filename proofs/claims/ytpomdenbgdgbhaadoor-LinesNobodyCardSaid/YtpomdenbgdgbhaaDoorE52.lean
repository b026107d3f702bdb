/- Walks: layer 11, finding, swapping, moving. -/
import Derived.Test.YtpomdenbgdgbhaaDoorE51
set_option linter.unusedVariables false
set_option linter.unusedSimpArgs false
set_option maxRecDepth 100000
namespace Go.SK
open Go Go.RowKit Go.Proofs
variable {S : Nat → Prop} {w0 : World} {F L : List Res}
def patE (s : ByteArray) : Int := if valid s = false then 21 else if s = ⟨#[]⟩ then 1 else 0
theorem decP_ne {s : ByteArray} (hv : valid s = true) (h : ¬ s = ⟨#[]⟩) : dec s ≠ [] := fun e => h (by rw [← enc_dec hv, e]; rfl)
theorem lfindc_x (l : List Int) (tv bv : Value) (g : Nat) (hxt : Rdb F tv 1 l.length (l.map (Value.int .i32))) (hxb : Rdb F bv 1 (begs l).length ((begs l).map nv)) (s : ByteArray) (hs : s.size ≤ 1048576) (hln : l.length ≤ 1048576) (hT : tabs ∈ F) :
    CallX Tryd.prog 22 [.pointer (some ⟨g, 0, none⟩), .string s] S w0 (.blk g (.cells [tv, bv, .bool true].toArray 58 (0, 0)) :: F) (fun u L' => ∃ v' out, u = .tuple #[v', .int .i64 (patE s)] ∧ out = (if patE s = 0 then findF (dec s) l else []) ∧ L' = .row v' 3 1 out.length (out.map nv) :: .blk g (.cells [tv, bv, .bool true].toArray 58 (0, 0)) :: F) := by
 intro w hp
 have hxtl := hxt.cons.lenLe hp
 have hxbl := hxb.cons.lenLe hp
 have hdl := dec_len s
 refine calls_start Tryd.func22 rfl rfl rfl (hp) ?_
 refine TC.seq (TC.region (TL.opP rfl (op_assign rfl) (TL.opP rfl (op_assign rfl) (TL.nil (TQ.then (TC.seq (TC.block (TC.seq (TC.region (TL.opP rfl (op_move rfl) ?_))))))))))
 refine TL.opX rfl (OpX.callX en_65 rfl (ldead_x _ _ true _)) ?_; rintro _ _ ⟨rfl, rfl⟩
 refine TL.opP rfl (op_assign rfl) (TL.nil (TQ.then ?_))
 first | refine TC.condD rfl (fun c1 => ?_) (fun c1 => ?_) | refine TC.condB rfl (fun c1 => ?_) (fun c1 => ?_)
 ·exact absurd c1 (by decide)
 ·refine TC.seq (TC.region (TL.opP rfl (op_move rfl) (TL.callq rfl en_18 rfl (fun w2 hp => valid_calls s w2 (tabs_at hp (.tail _ hT)) (by omega)) (TL.opP rfl (op_not rfl rfl) (TL.opP rfl (op_assign rfl) (TL.nil (TQ.then ?_)))))))
  first | refine TC.condD rfl (fun c2 => ?_) (fun c2 => ?_) | refine TC.condB rfl (fun c2 => ?_) (fun c2 => ?_)
  ·refine TC.seq (TC.region (TL.opP rfl (op_assign rfl) (TL.opP rfl (op_assign rfl) (TL.nil (TQ.then (TC.ret (TQ.block_ret (TQ.then_ret ?_))))))))
   refine ret2 rfl rfl rfl (fun w' hp => ?_)
   first
     | (have h1 : patE s = 21 := if_pos (by simpa using c2)
        exact ⟨_, _, rfl, ⟨.slice none 0 0, [], by rw [h1], by rw [h1]; rfl, rfl⟩, new_nil _ 1 (hp)⟩)
     | (have h1 : patE s = 1 := (if_neg (by simpa using c2)).trans (if_pos c3)
        exact ⟨_, _, rfl, ⟨.slice none 0 0, [], by rw [h1], by rw [h1]; rfl, rfl⟩, new_nil _ 1 (hp)⟩)
     | (have h1 : patE s = 0 := (if_neg (by simpa using c2)).trans (if_neg c3)
        exact ⟨_, _, rfl, ⟨_, _, by rw [h1], by (rw [h1, «ho?»]; first | done | rfl), rfl⟩, (hp)⟩)
  ·refine TC.seq (TC.region (TL.opP rfl (op_move rfl) (TL.opP rfl (op_seql rfl rfl) (TL.opP rfl (op_assign rfl) (TL.nil (TQ.then ?_))))))
   first | refine TC.condD rfl (fun c3 => ?_) (fun c3 => ?_) | refine TC.condB rfl (fun c3 => ?_) (fun c3 => ?_)
   ·refine TC.seq (TC.region (TL.opP rfl (op_assign rfl) (TL.opP rfl (op_assign rfl) (TL.nil (TQ.then (TC.ret (TQ.block_ret (TQ.then_ret ?_))))))))
    refine ret2 rfl rfl rfl (fun w' hp => ?_)
    first
      | (have h1 : patE s = 21 := if_pos (by simpa using c2)
         exact ⟨_, _, rfl, ⟨.slice none 0 0, [], by rw [h1], by rw [h1]; rfl, rfl⟩, new_nil _ 1 (hp)⟩)
      | (have h1 : patE s = 1 := (if_neg (by simpa using c2)).trans (if_pos c3)
         exact ⟨_, _, rfl, ⟨.slice none 0 0, [], by rw [h1], by rw [h1]; rfl, rfl⟩, new_nil _ 1 (hp)⟩)
      | (have h1 : patE s = 0 := (if_neg (by simpa using c2)).trans (if_neg c3)
         exact ⟨_, _, rfl, ⟨_, _, by rw [h1], by (rw [h1, «ho?»]; first | done | rfl), rfl⟩, (hp)⟩)
   ·refine TC.skip (TQ.block_normal (TQ.then (TC.seq (TC.region (TL.opP rfl (op_move rfl) (TL.opP rfl (op_move rfl) ?_))))))
    refine TL.opX rfl (OpX.runes un_string tsl_int32 un_int32 rfl (by omega)) ?_; rintro v2 _ rfl
    refine TL.know (fun _ h => row1 h) (fun o2 => (TL.hp (fun _ h => h.pick1) ?_))
    refine TL.opX rfl (OpX.callX en_66 rfl (lfind_x l _ _ _ hxt.cons hxb.cons (dec s) _ false (decP_ne (by simpa using c2) c3) (by omega) hln rw0)) ?_; rintro w3 _ ⟨_, out3, rfl, ho3, rfl⟩
    refine TL.opP rfl (op_assign rfl) (TL.opP rfl (op_assign rfl) (TL.nil (TQ.then (TC.ret ?_))))
    refine ret2 rfl rfl rfl (fun w' hp => ?_)
    first
      | (have h1 : patE s = 21 := if_pos (by simpa using c2)
         exact ⟨_, _, rfl, ⟨.slice none 0 0, [], by rw [h1], by rw [h1]; rfl, rfl⟩, new_nil _ 1 (hp.drop2)⟩)
      | (have h1 : patE s = 1 := (if_neg (by simpa using c2)).trans (if_pos c3)
         exact ⟨_, _, rfl, ⟨.slice none 0 0, [], by rw [h1], by rw [h1]; rfl, rfl⟩, new_nil _ 1 (hp.drop2)⟩)
      | (have h1 : patE s = 0 := (if_neg (by simpa using c2)).trans (if_neg c3)
         exact ⟨_, _, rfl, ⟨_, _, by rw [h1], by (rw [h1, ho3]; first | done | rfl), rfl⟩, (hp.drop2)⟩)

def swE (s q : ByteArray) : Int := if valid s = false ∨ valid q = false then 21 else if s = ⟨#[]⟩ then 1 else 0
theorem bs_api_Part_3 (p q r : Part) : ∀ w : World, (Instr.buildSlice 36 3 #[(0, p.val), (1, q.val), (2, r.val)]).run Tryd.prog w = .ok (.slice (some ⟨w.heap.size, 0, none⟩) 3 3) (w.alloc (.cells (encs [p, q, r]).toArray 104 (0, 0))) := by
  intro w; kernel_rfl
theorem sw_small (m : Nat) (q : ByteArray) (n : Nat) : ∀ (l : List Nat) (hq : q.size < 9223372036854775807) , ∀ a, ∀ p ∈ swP m q n l a, p.text.size < 9223372036854775807
  | [], hq, a, p, hp => by rw [swP, List.mem_singleton] at hp; subst hp; (show (0 : Nat) < 9223372036854775807; decide)
  | i :: r, hq, a, p, hp => by
    rw [swP] at hp
    rcases List.mem_cons.1 hp with rfl | hp
    · (show (0 : Nat) < 9223372036854775807; decide)
    · rcases List.mem_cons.1 hp with rfl | hp
      · exact hq
      · rcases List.mem_cons.1 hp with rfl | hp
        · (show (0 : Nat) < 9223372036854775807; decide)
        · exact sw_small m q n r hq _ p hp
theorem lswapc_x (l : List Int) (tv bv : Value) (g : Nat) (hxt : Rdb F tv 1 l.length (l.map (Value.int .i32))) (hxb : Rdb F bv 1 (begs l).length ((begs l).map nv)) (s q : ByteArray) (hs : s.size ≤ 65536) (hq : q.size ≤ 1048576) (hln : l.length ≤ 65536) (hT : tabs ∈ F) :
    CallX Tryd.prog 41 [.pointer (some ⟨g, 0, none⟩), .string s, .string q] S w0 (.blk g (.cells [tv, bv, .bool true].toArray 58 (0, 0)) :: F) (fun u L' => ∃ v', u = .tuple #[v', .int .i64 (swE s q)] ∧ L' = .row v' 104 3 (if swE s q = 0 then swapF (dec s) l q else []).length (encs (if swE s q = 0 then swapF (dec s) l q else [])) :: .blk g (.cells [tv, bv, .bool true].toArray 58 (0, 0)) :: F) := by
 intro w hp
 have hxtl := hxt.cons.lenLe hp
 have hxbl := hxb.cons.lenLe hp
 have hdl := dec_len s
 have hdw := dec_len q
 refine calls_start Tryd.func41 rfl rfl rfl (hp) ?_
 refine TC.seq (TC.region (TL.opP rfl (op_assign rfl) (TL.opP rfl (op_assign rfl) (TL.nil (TQ.then (TC.seq (TC.block (TC.seq (TC.region (TL.opP rfl (op_move rfl) ?_))))))))))
 refine TL.opX rfl (OpX.callX en_65 rfl (ldead_x _ _ true _)) ?_; rintro _ _ ⟨rfl, rfl⟩
 refine TL.opP rfl (op_assign rfl) (TL.nil (TQ.then ?_))
 first | refine TC.condD rfl (fun c1 => ?_) (fun c1 => ?_) | refine TC.condB rfl (fun c1 => ?_) (fun c1 => ?_)
 ·exact absurd c1 (by decide)
 ·refine TC.seq (TC.region (TL.opP rfl (op_move rfl) (TL.callq rfl en_18 rfl (fun w2 hp => valid_calls _ w2 (tabs_at hp (.tail _ hT)) (by omega)) (TL.opP rfl (op_not rfl rfl) (TL.opP rfl (op_move rfl) ?_)))))
  first | refine TL.splitD (fun c2 => ?_) (fun c2 => ?_) | refine TL.splitB (fun c2 => ?_) (fun c2 => ?_)
  ·refine TL.gFt rfl rfl rfl (TL.gFt rfl rfl rfl (TL.gFt rfl rfl rfl (TL.opP rfl (op_pickT rfl rfl) (TL.opP rfl (op_assign rfl) (TL.nil (TQ.then (TC.condT rfl (TC.seq (TC.region (TL.opP rfl (op_assign rfl) (TL.opP rfl (op_assign rfl) (TL.nil (TQ.then (TC.ret (TQ.block_ret (TQ.then_ret ?_))))))))))))))))
   refine ret2 rfl rfl rfl (fun w' hp => ?_)
   first
     | (have h1 : swE s q = 21 := if_pos (by first | (left; simpa using c2) | (right; simpa using c3))
        exact ⟨_, _, rfl, ⟨.slice none 0 0, by rw [h1], by rw [h1]; rfl⟩, new_nil _ 3 (hp)⟩)
     | (have h1 : swE s q = 1 := (if_neg (by rintro (a | a) <;> simp_all)).trans (if_pos c4)
        exact ⟨_, _, rfl, ⟨.slice none 0 0, by rw [h1], by rw [h1]; rfl⟩, new_nil _ 3 (hp)⟩)
     | (have h1 : swE s q = 0 := (if_neg (by rintro (a | a) <;> simp_all)).trans (if_neg c4)
        have h2 := (swap_law (p := dec s) (t := l) (w := q) hne (by omega) (by omega) (by simpa using c3) (by rw [rcount_dec]; omega)).1
        rw [← hap] at h2
        exact ⟨_, _, rfl, ⟨_, by rw [h1], by (rw [h1, if_pos rfl, h2]; first | done | rfl)⟩, (hp)⟩)
  ·refine TL.gT rfl rfl (TL.opP rfl (op_move rfl) (TL.gT rfl rfl (TL.callq rfl en_18 rfl (fun w2 hp => valid_calls _ w2 (tabs_at hp (.tail _ hT)) (by omega)) (TL.gT rfl rfl (TL.opP rfl (op_not rfl rfl) (TL.opP rfl (op_pickF rfl rfl) (TL.opP rfl (op_assign rfl) (TL.nil (TQ.then ?_)))))))))
   first | refine TC.condD rfl (fun c3 => ?_) (fun c3 => ?_) | refine TC.condB rfl (fun c3 => ?_) (fun c3 => ?_)
   ·refine TC.seq (TC.region (TL.opP rfl (op_assign rfl) (TL.opP rfl (op_assign rfl) (TL.nil (TQ.then (TC.ret (TQ.block_ret (TQ.then_ret ?_))))))))
    refine ret2 rfl rfl rfl (fun w' hp => ?_)
    first
      | (have h1 : swE s q = 21 := if_pos (by first | (left; simpa using c2) | (right; simpa using c3))
         exact ⟨_, _, rfl, ⟨.slice none 0 0, by rw [h1], by rw [h1]; rfl⟩, new_nil _ 3 (hp)⟩)
      | (have h1 : swE s q = 1 := (if_neg (by rintro (a | a) <;> simp_all)).trans (if_pos c4)
         exact ⟨_, _, rfl, ⟨.slice none 0 0, by rw [h1], by rw [h1]; rfl⟩, new_nil _ 3 (hp)⟩)
      | (have h1 : swE s q = 0 := (if_neg (by rintro (a | a) <;> simp_all)).trans (if_neg c4)
         have h2 := (swap_law (p := dec s) (t := l) (w := q) hne (by omega) (by omega) (by simpa using c3) (by rw [rcount_dec]; omega)).1
         rw [← hap] at h2
         exact ⟨_, _, rfl, ⟨_, by rw [h1], by (rw [h1, if_pos rfl, h2]; first | done | rfl)⟩, (hp)⟩)
   ·refine TC.seq (TC.region (TL.opP rfl (op_move rfl) (TL.opP rfl (op_seql rfl rfl) (TL.opP rfl (op_assign rfl) (TL.nil (TQ.then ?_))))))
    first | refine TC.condD rfl (fun c4 => ?_) (fun c4 => ?_) | refine TC.condB rfl (fun c4 => ?_) (fun c4 => ?_)
    ·refine TC.seq (TC.region (TL.opP rfl (op_assign rfl) (TL.opP rfl (op_assign rfl) (TL.nil (TQ.then (TC.ret (TQ.block_ret (TQ.then_ret ?_))))))))
     refine ret2 rfl rfl rfl (fun w' hp => ?_)
     first
       | (have h1 : swE s q = 21 := if_pos (by first | (left; simpa using c2) | (right; simpa using c3))
          exact ⟨_, _, rfl, ⟨.slice none 0 0, by rw [h1], by rw [h1]; rfl⟩, new_nil _ 3 (hp)⟩)
       | (have h1 : swE s q = 1 := (if_neg (by rintro (a | a) <;> simp_all)).trans (if_pos c4)
          exact ⟨_, _, rfl, ⟨.slice none 0 0, by rw [h1], by rw [h1]; rfl⟩, new_nil _ 3 (hp)⟩)
       | (have h1 : swE s q = 0 := (if_neg (by rintro (a | a) <;> simp_all)).trans (if_neg c4)
          have h2 := (swap_law (p := dec s) (t := l) (w := q) hne (by omega) (by omega) (by simpa using c3) (by rw [rcount_dec]; omega)).1
          rw [← hap] at h2
          exact ⟨_, _, rfl, ⟨_, by rw [h1], by (rw [h1, if_pos rfl, h2]; first | done | rfl)⟩, (hp)⟩)
    ·have hne := decP_ne (s := s) (by simpa using c2) c4
     have hp0 : 0 < (dec s).length := List.length_pos_iff.2 hne
     refine TC.skip (TQ.block_normal (TQ.then (TC.seq (TC.region (TL.opP rfl (op_move rfl) ?_)))))
     refine TL.opX rfl (OpX.runes un_string tsl_int32 un_int32 rfl (by omega)) ?_; rintro v2 _ rfl
     refine TL.know (fun _ h => row1 h) (fun o2 => (TL.opP rfl (op_assign rfl) (TL.nil (TQ.then (TC.seq (TC.region (TL.opP rfl (op_assign rfl) (TL.nil (TQ.then (TC.seq (TC.region (TL.opP rfl (op_assign rfl) (TL.nil (TQ.then (TC.seq (TC.seq (TC.region (TL.opP rfl (op_move rfl) (TL.opP rfl (op_move rfl) (TL.hp (fun _ h => h.pick1) ?_))))))))))))))))))))
     refine TL.opX rfl (OpX.callX en_66 rfl (lfind_x l _ _ _ hxt.cons hxb.cons (dec s) _ true (decP_ne (by simpa using c2) c4) (by omega) (by omega) rw0)) ?_; rintro w3 _ ⟨_, out3, rfl, ho3, rfl⟩
     have hap : out3 = apartF (dec s) l := by rw [ho3, if_pos rfl]
     have hok : SwOk (dec s).length l.length out3 0 := by rw [hap]; exact apart_ok hne
     have hen := sw_ok_end hok
     have hol : out3.length ≤ l.length := by rw [hap]; exact gs_len _ _ _ _ _
     refine TL.opV rfl (op_lenV rfl un_sl_int rfl rw0) (TL.opP rfl (op_move rfl) (TL.nil (TQ.then (TC.block (TC.hp (fun _ h => new_nil 104 3 h) (TC.loop (ι := Nat × Value) (fun (k, rv) => [(0, .pointer (some ⟨g, 0, none⟩)), (1, .string s), (2, .string q), (8, v2), (9, rv), (10, .int .i64 (endA (dec s).length (out3.take k) 0 : Int)), (32, w3), (33, .int .i64 (out3.length : Int)), (34, .int .i64 (k : Int))]) (fun (k, rv) => .row rv 104 3 (swB (dec s).length q (out3.take k) 0).length (encs (swB (dec s).length q (out3.take k) 0)) :: .row w3 3 1 out3.length (out3.map nv) :: .blk g (.cells [tv, bv, .bool true].toArray 58 (0, 0)) :: .row v2 21 1 (dec s).length ((dec s).map (Value.int .i32)) :: F) (fun (k, rv) => k ≤ out3.length) (fun (k, rv) => out3.length - k) ((0, .slice none 0 0)) (Nat.zero_le _) ⟨rfl, rfl, rfl, rfl, rfl, rfl, rfl, rfl, rfl, trivial⟩ (fun _ h => h) ?_))))))
     rintro ⟨k, rv⟩ (hk : k ≤ out3.length)
     show TC _ _ _ _ [(0, .pointer (some ⟨g, 0, none⟩)), (1, .string s), (2, .string q), (8, v2), (9, rv), (10, .int .i64 (endA (dec s).length (out3.take k) 0 : Int)), (32, w3), (33, .int .i64 (out3.length : Int)), (34, .int .i64 (k : Int))] _ _ (.row rv 104 3 (swB (dec s).length q (out3.take k) 0).length (encs (swB (dec s).length q (out3.take k) 0)) :: .row w3 3 1 out3.length (out3.map nv) :: .blk g (.cells [tv, bv, .bool true].toArray 58 (0, 0)) :: .row v2 21 1 (dec s).length ((dec s).map (Value.int .i32)) :: F)
     refine TC.seq (TC.region (TL.opP rfl (op_lss rfl rfl) (TL.nil (TQ.then (TC.seq ?_)))))
     first | refine TC.condD rfl (fun c5 => ?_) (fun c5 => ?_) | refine TC.condB rfl (fun c5 => ?_) (fun c5 => ?_)
     ·obtain ⟨i, hi⟩ : ∃ i, out3.getD k 0 = i := ⟨_, rfl⟩
      obtain ⟨hs1, hs2⟩ := sw_ok_at hok (k := k) (by omega) hi
      have hbl := swB_len (dec s).length q (out3.take k) 0
      rw [List.length_take] at hbl
      have htk : out3.take (k + 1) = out3.take k ++ [i] := by rw [List.take_add_one, List.getElem?_eq_getElem (by omega)]; rw [List.getD_eq_getElem?_getD, List.getElem?_eq_getElem (by omega)] at hi; simp only [Option.getD_some] at hi; rw [hi]; rfl
      refine TC.skip (TQ.then (TC.seq (TC.block (TC.seq (TC.region (TL.opV rfl (op_index tsl_int rfl rw1 rfl (by omega) (by omega)) (TL.opV rfl (op_loadR ts_int rfl rw1 (lkM (f := nv) (i := k) (d := 0) (by omega) hi (by omega))) (TL.opP rfl (op_assign rfl) (TL.nil (TQ.then (TC.seq (TC.region (TL.opP rfl (op_move rfl) (TL.opP rfl (op_move rfl) (TL.opP rfl (op_move rfl) (TL.opP rfl (op_sub rfl rfl rfl (by omega) (by omega)) (TL.opP rfl (op_build (ps := #[(0, _), (1, _)]) rfl (bl_api_Part_01 _ _)) (TL.opP rfl (op_move rfl) (TL.callq rfl en_32 rfl (fun w2 hp => rcount_calls q w2 (by omega)) (TL.opP rfl (op_move rfl) (TL.opP rfl (op_build (ps := #[(0, _), (1, _), (2, _)]) rfl (bl_api_Part_012 _ _ _)) (TL.opP rfl (op_move rfl) ?_))))))))))))))))))))))
      refine TL.opV rfl (op_lenV rfl un_sl_int32 rfl rw3) (TL.opP rfl (op_build (ps := #[(0, _), (1, _)]) rfl (bl_api_Part_01 _ _)) ?_)
      refine TL.opX rfl (OpX.buildSlice (ps := #[(0, _), (1, _), (2, _)]) rfl (bs_api_Part_3 (keepP ((i : Int) - endA (dec s).length (out3.take k) 0)) (putP q) (dropP ((dec s).length : Int)))) ?_; rintro _ _ ⟨g50, rfl, rfl⟩
      refine TL.hp (fun _ h => blk_row (k := 3) (m := 3) h rfl (by decide)) (TL.hp (fun _ h => h.pick1) ?_)
      refine TL.opX rfl (OpX.append (bytes := 32) tsl_api_Part (by decide) (by decide) rfl rw1 (encs_one _) (by omega) (zs := encs (swB (dec s).length q (out3.take (k + 1)) 0)) (by rw [htk, swB_add, encs_append])) ?_; rintro v4 _ rfl
      refine TL.know (fun _ h => row1 h) (fun o4 => (TL.hp (fun _ h => row_len3 h) (TL.opP rfl (op_assign rfl) (TL.nil (TQ.then (TC.region (TL.opP rfl (op_move rfl) (TL.opP rfl (op_move rfl) (TL.opV rfl (op_lenV rfl un_sl_int32 rfl rw4) (TL.opP rfl (op_add rfl rfl rfl (by omega) (by omega)) (TL.opP rfl (op_assign rfl) (TL.nil (TQ.block_normal (TQ.then (TC.region (TL.opP rfl (op_add rfl rfl rfl (by omega) (by omega)) (TL.opP rfl (op_move rfl) (TL.nil ?_))))))))))))))))))
      exact TQ.round (k + 1, v4) (by show k + 1 ≤ _; omega) (by show _ - (k + 1) < _ - k; omega) ⟨rfl, rfl, rfl, rfl, rfl, gi rfl (by rw [htk, endA_add]; push_cast; rfl), rfl, rfl, rfl, trivial⟩ (fun _ h => h.drop1)
     ·obtain rfl : k = out3.length := by omega
      have htk : out3.take out3.length = out3 := List.take_of_length_le (Nat.le_refl _)
      rw [htk]
      have hbl2 := swB_len (dec s).length q out3 0
      have hsp : swB (dec s).length q out3 0 ++ [keepP ((l.length : Int) - endA (dec s).length out3 0)] = (swP (dec s).length q l.length out3 0) := (swP_is _ _ _ _ _).symm
      have hspl := congrArg List.length hsp
      rw [List.length_append, List.length_singleton] at hspl
      refine TC.exit (TQ.then_exit (TQ.loop_exit (TQ.block_hit (TQ.then (TC.seq (TC.region (TL.opP rfl (op_move rfl) (TL.opP rfl (op_move rfl) (TL.opP rfl (op_nilCheck rfl) (TL.opP rfl (op_field fld_lines_Index_text rfl) (TL.opV rfl (op_load ts_sl_int32 rfl m2 rfl) (TL.opV rfl (op_lenV rfl un_sl_int32 rfl hxt.cons.cons.cons.cons) (TL.opP rfl (op_move rfl) (TL.opP rfl (op_sub rfl rfl rfl (by omega) (by omega)) (TL.opP rfl (op_build (ps := #[(0, _), (1, _)]) rfl (bl_api_Part_01 _ _)) ?_)))))))))))))))
      refine TL.opX rfl (OpX.buildSlice (ps := #[(0, _)]) rfl (bs_api_Part_1 (keepP ((l.length : Int) - endA (dec s).length out3 0)))) ?_; rintro _ _ ⟨g66, rfl, rfl⟩
      refine TL.hp (fun _ h => blk_row (k := 3) (m := 1) h rfl (by decide)) (TL.hp (fun _ h => h.pick1) ?_)
      refine TL.opX rfl (OpX.append (bytes := 32) tsl_api_Part (by decide) (by decide) rfl rw1 (encs_one _) (by omega) (zs := encs (swP (dec s).length q l.length out3 0)) (by rw [← hsp, encs_append])) ?_; rintro v5 _ rfl
      refine TL.know (fun _ h => row1 h) (fun o5 => (TL.hp (fun _ h => row_len3 h) ?_))
      refine TL.opX rfl (OpX.callX en_75 rfl (norm_x (swP (dec s).length q l.length out3 0) _ (sw_small _ _ _ _ (by omega) _) (by omega) (.tail _ (.tail _ (.tail _ (.tail _ (.tail _ hT))))) rw0)) ?_; rintro w6 _ ⟨_, rfl, rfl⟩
      refine TL.opP rfl (op_assign rfl) (TL.opP rfl (op_assign rfl) (TL.nil (TQ.then (TC.ret ?_))))
      refine ret2 rfl rfl rfl (fun w' hp => ?_)
      first
        | (have h1 : swE s q = 21 := if_pos (by first | (left; simpa using c2) | (right; simpa using c3))
           exact ⟨_, _, rfl, ⟨.slice none 0 0, by rw [h1], by rw [h1]; rfl⟩, new_nil _ 3 (hp.drop5.drop3.drop2.drop1)⟩)
        | (have h1 : swE s q = 1 := (if_neg (by rintro (a | a) <;> simp_all)).trans (if_pos c4)
           exact ⟨_, _, rfl, ⟨.slice none 0 0, by rw [h1], by rw [h1]; rfl⟩, new_nil _ 3 (hp.drop5.drop3.drop2.drop1)⟩)
        | (have h1 : swE s q = 0 := (if_neg (by rintro (a | a) <;> simp_all)).trans (if_neg c4)
           have h2 := (swap_law (p := dec s) (t := l) (w := q) hne (by omega) (by omega) (by simpa using c3) (by rw [rcount_dec]; omega)).1
           rw [← hap] at h2
           exact ⟨_, _, rfl, ⟨_, by rw [h1], by (rw [h1, if_pos rfl, h2]; first | done | rfl)⟩, (hp.drop5.drop3.drop2.drop1)⟩)

end Go.SK
