/- Words for the laws of layer 11 that lean on the library's searches and joins; an index that no call made. -/
import Derived.Test.YtpomdenbgdgbhaaDoorE57
import Derived.Test.YtpomdenbgdgbhaaDoorSh2
import Derived.Test.YtpomdenbgdgbhaaDoorMK
set_option linter.unusedVariables false
set_option linter.unusedSimpArgs false
set_option maxRecDepth 100000
namespace Go.SK
open Go Go.RowKit Go.Proofs
variable {S : Nat → Prop} {w0 : World} {F L : List Res}
theorem rdb_nil (L : List Res) (sz : Nat) : Rdb L (.slice none 0 0) sz 0 [] := fun S w0 w h => ⟨by simp, none, 0, rfl, Nat.le_refl _, Nat.zero_le _, by simp, by simp⟩
theorem lkVal' {vals : List Value} {i k : Nat} {d x : Value} (h : i < vals.length) (hx : vals.getD i d = x) (hk : k = i) : vals[k]? = some x := by
  subst hk
  rw [List.getD_eq_getElem?_getD, List.getElem?_eq_getElem h] at hx
  rw [List.getElem?_eq_getElem h]
  exact congrArg some hx
theorem zdead_x  :
    CallX Tryd.prog 65 [.pointer none] S w0 (F) (fun u L' => u = .bool true ∧ L' = F) := by
 intro w hp
 refine calls_start Tryd.func65 rfl rfl rfl (hp) ?_
 refine TC.seq (TC.region (TL.opP rfl (op_assign rfl) (TL.nil (TQ.then (TC.seq (TC.region (TL.opP rfl (op_move rfl) (TL.opP rfl (op_eqPtr rfl (lidx_eqo none)) (TL.opP rfl (op_move rfl) (TL.gFt rfl rfl rfl (TL.gFt rfl rfl rfl (TL.gFt rfl rfl rfl (TL.gFt rfl rfl rfl (TL.gFt rfl rfl rfl (TL.opP rfl (by first | exact op_pickT rfl rfl | exact op_pickF rfl rfl) (TL.opP rfl (op_assign rfl) (TL.nil (TQ.then (TC.ret ?_)))))))))))))))))))
 refine ret1 rfl rfl (fun w' hp => ?_)
 exact ⟨_, _, rfl, ⟨rfl, rfl⟩, (hp)⟩

theorem zlen_x (x : Value) (hd : CallX Tryd.prog 65 [x] S w0 F (fun u L' => u = .bool true ∧ L' = F)) :
    CallX Tryd.prog 37 [x] S w0 (F) (fun u L' => u = .int .i64 0 ∧ L' = F) := by
 intro w hp
 refine calls_start Tryd.func37 rfl rfl rfl (hp) ?_
 refine TC.seq (TC.region (TL.opP rfl (op_assign rfl) (TL.nil (TQ.then (TC.seq (TC.seq (TC.region (TL.opP rfl (op_move rfl) ?_))))))))
 refine TL.opX rfl (OpX.callX en_65 rfl (hd)) ?_; rintro _ _ ⟨rfl, rfl⟩
 refine TL.nil (TQ.then ?_)
 first | refine TC.condD rfl (fun c1 => ?_) (fun c1 => ?_) | refine TC.condB rfl (fun c1 => ?_) (fun c1 => ?_)
 ·refine TC.seq (TC.region (TL.opP rfl (op_assign rfl) (TL.nil (TQ.then (TC.ret (TQ.then_ret ?_))))))
  refine ret1 rfl rfl (fun w' hp => ?_)
  exact ⟨_, _, rfl, ⟨rfl, rfl⟩, (hp)⟩
 ·exact absurd c1 (by decide)

theorem zsize_x (x : Value) (hd : CallX Tryd.prog 65 [x] S w0 F (fun u L' => u = .bool true ∧ L' = F)) :
    CallX Tryd.prog 28 [x] S w0 (F) (fun u L' => u = .int .i64 0 ∧ L' = F) := by
 intro w hp
 refine calls_start Tryd.func28 rfl rfl rfl (hp) ?_
 refine TC.seq (TC.region (TL.opP rfl (op_assign rfl) (TL.nil (TQ.then (TC.seq (TC.seq (TC.region (TL.opP rfl (op_move rfl) ?_))))))))
 refine TL.opX rfl (OpX.callX en_65 rfl (hd)) ?_; rintro _ _ ⟨rfl, rfl⟩
 refine TL.nil (TQ.then ?_)
 first | refine TC.condD rfl (fun c1 => ?_) (fun c1 => ?_) | refine TC.condB rfl (fun c1 => ?_) (fun c1 => ?_)
 ·refine TC.seq (TC.region (TL.opP rfl (op_assign rfl) (TL.nil (TQ.then (TC.ret (TQ.then_ret ?_))))))
  refine ret1 rfl rfl (fun w' hp => ?_)
  exact ⟨_, _, rfl, ⟨rfl, rfl⟩, (hp)⟩
 ·exact absurd c1 (by decide)

theorem zline_x (x : Value) (n : Int) (hd : CallX Tryd.prog 65 [x] S w0 F (fun u L' => u = .bool true ∧ L' = F)) :
    CallX Tryd.prog 31 [x, .int .i64 n] S w0 (F) (fun u L' => u = .tuple #[.string ⟨#[]⟩, .int .i64 6] ∧ L' = F) := by
 intro w hp
 refine calls_start Tryd.func31 rfl rfl rfl (hp) ?_
 refine TC.seq (TC.region (TL.opP rfl (op_assign rfl) (TL.opP rfl (op_assign rfl) (TL.nil (TQ.then (TC.seq (TC.block (TC.seq (TC.region (TL.opP rfl (op_move rfl) ?_))))))))))
 refine TL.opX rfl (OpX.callX en_65 rfl (hd)) ?_; rintro _ _ ⟨rfl, rfl⟩
 refine TL.opP rfl (op_assign rfl) (TL.nil (TQ.then ?_))
 first | refine TC.condD rfl (fun c1 => ?_) (fun c1 => ?_) | refine TC.condB rfl (fun c1 => ?_) (fun c1 => ?_)
 ·refine TC.seq (TC.region (TL.opP rfl (op_assign rfl) (TL.opP rfl (op_assign rfl) (TL.nil (TQ.then (TC.ret (TQ.block_ret (TQ.then_ret ?_))))))))
  refine ret2 rfl rfl rfl (fun w' hp => ?_)
  exact ⟨_, _, rfl, ⟨rfl, rfl⟩, (hp)⟩
 ·exact absurd c1 (by decide)

theorem zat_x (x : Value) (n m : Int) (hd : CallX Tryd.prog 65 [x] S w0 F (fun u L' => u = .bool true ∧ L' = F)) :
    CallX Tryd.prog 30 [x, .int .i64 n, .int .i64 m] S w0 (F) (fun u L' => u = .tuple #[.int .i64 0, .int .i64 6] ∧ L' = F) := by
 intro w hp
 refine calls_start Tryd.func30 rfl rfl rfl (hp) ?_
 refine TC.seq (TC.region (TL.opP rfl (op_assign rfl) (TL.opP rfl (op_assign rfl) (TL.nil (TQ.then (TC.seq (TC.block (TC.seq (TC.region (TL.opP rfl (op_move rfl) ?_))))))))))
 refine TL.opX rfl (OpX.callX en_65 rfl (hd)) ?_; rintro _ _ ⟨rfl, rfl⟩
 refine TL.opP rfl (op_assign rfl) (TL.nil (TQ.then ?_))
 first | refine TC.condD rfl (fun c1 => ?_) (fun c1 => ?_) | refine TC.condB rfl (fun c1 => ?_) (fun c1 => ?_)
 ·refine TC.seq (TC.region (TL.opP rfl (op_assign rfl) (TL.opP rfl (op_assign rfl) (TL.nil (TQ.then (TC.ret (TQ.block_ret (TQ.then_ret ?_))))))))
  refine ret2 rfl rfl rfl (fun w' hp => ?_)
  exact ⟨_, _, rfl, ⟨rfl, rfl⟩, (hp)⟩
 ·exact absurd c1 (by decide)

theorem zwhere_x (x : Value) (n : Int) (hd : CallX Tryd.prog 65 [x] S w0 F (fun u L' => u = .bool true ∧ L' = F)) :
    CallX Tryd.prog 29 [x, .int .i64 n] S w0 (F) (fun u L' => u = .tuple #[.int .i64 0, .int .i64 0, .int .i64 6] ∧ L' = F) := by
 intro w hp
 refine calls_start Tryd.func29 rfl rfl rfl (hp) ?_
 refine TC.seq (TC.region (TL.opP rfl (op_assign rfl) (TL.opP rfl (op_assign rfl) (TL.opP rfl (op_assign rfl) (TL.nil (TQ.then (TC.seq (TC.block (TC.seq (TC.region (TL.opP rfl (op_move rfl) ?_)))))))))))
 refine TL.opX rfl (OpX.callX en_65 rfl (hd)) ?_; rintro _ _ ⟨rfl, rfl⟩
 refine TL.opP rfl (op_assign rfl) (TL.nil (TQ.then ?_))
 first | refine TC.condD rfl (fun c1 => ?_) (fun c1 => ?_) | refine TC.condB rfl (fun c1 => ?_) (fun c1 => ?_)
 ·refine TC.seq (TC.region (TL.opP rfl (op_assign rfl) (TL.opP rfl (op_assign rfl) (TL.opP rfl (op_assign rfl) (TL.nil (TQ.then (TC.ret (TQ.block_ret (TQ.then_ret ?_)))))))))
  refine ret3 rfl rfl rfl rfl (fun w' hp => ?_)
  exact ⟨_, _, rfl, ⟨rfl, rfl⟩, (hp)⟩
 ·exact absurd c1 (by decide)

theorem zword_x (x : Value) (n : Int) (hd : CallX Tryd.prog 65 [x] S w0 F (fun u L' => u = .bool true ∧ L' = F)) :
    CallX Tryd.prog 39 [x, .int .i64 n] S w0 (F) (fun u L' => u = .tuple #[.int .i64 0, .int .i64 0, .int .i64 6] ∧ L' = F) := by
 intro w hp
 refine calls_start Tryd.func39 rfl rfl rfl (hp) ?_
 refine TC.seq (TC.region (TL.opP rfl (op_assign rfl) (TL.opP rfl (op_assign rfl) (TL.opP rfl (op_assign rfl) (TL.nil (TQ.then (TC.seq (TC.block (TC.seq (TC.region (TL.opP rfl (op_move rfl) ?_)))))))))))
 refine TL.opX rfl (OpX.callX en_65 rfl (hd)) ?_; rintro _ _ ⟨rfl, rfl⟩
 refine TL.opP rfl (op_assign rfl) (TL.nil (TQ.then ?_))
 first | refine TC.condD rfl (fun c1 => ?_) (fun c1 => ?_) | refine TC.condB rfl (fun c1 => ?_) (fun c1 => ?_)
 ·refine TC.seq (TC.region (TL.opP rfl (op_assign rfl) (TL.opP rfl (op_assign rfl) (TL.opP rfl (op_assign rfl) (TL.nil (TQ.then (TC.ret (TQ.block_ret (TQ.then_ret ?_)))))))))
  refine ret3 rfl rfl rfl rfl (fun w' hp => ?_)
  exact ⟨_, _, rfl, ⟨rfl, rfl⟩, (hp)⟩
 ·exact absurd c1 (by decide)

theorem zfind_x (x : Value) (s : ByteArray) (hd : CallX Tryd.prog 65 [x] S w0 F (fun u L' => u = .bool true ∧ L' = F)) :
    CallX Tryd.prog 22 [x, .string s] S w0 (F) (fun u L' => u = .tuple #[.slice none 0 0, .int .i64 6] ∧ L' = F) := by
 intro w hp
 refine calls_start Tryd.func22 rfl rfl rfl (hp) ?_
 refine TC.seq (TC.region (TL.opP rfl (op_assign rfl) (TL.opP rfl (op_assign rfl) (TL.nil (TQ.then (TC.seq (TC.block (TC.seq (TC.region (TL.opP rfl (op_move rfl) ?_))))))))))
 refine TL.opX rfl (OpX.callX en_65 rfl (hd)) ?_; rintro _ _ ⟨rfl, rfl⟩
 refine TL.opP rfl (op_assign rfl) (TL.nil (TQ.then ?_))
 first | refine TC.condD rfl (fun c1 => ?_) (fun c1 => ?_) | refine TC.condB rfl (fun c1 => ?_) (fun c1 => ?_)
 ·refine TC.seq (TC.region (TL.opP rfl (op_assign rfl) (TL.opP rfl (op_assign rfl) (TL.nil (TQ.then (TC.ret (TQ.block_ret (TQ.then_ret ?_))))))))
  refine ret2 rfl rfl rfl (fun w' hp => ?_)
  exact ⟨_, _, rfl, ⟨rfl, rfl⟩, (hp)⟩
 ·exact absurd c1 (by decide)

theorem zswap_x (x : Value) (s q : ByteArray) (hd : CallX Tryd.prog 65 [x] S w0 F (fun u L' => u = .bool true ∧ L' = F)) :
    CallX Tryd.prog 41 [x, .string s, .string q] S w0 (F) (fun u L' => u = .tuple #[.slice none 0 0, .int .i64 6] ∧ L' = F) := by
 intro w hp
 refine calls_start Tryd.func41 rfl rfl rfl (hp) ?_
 refine TC.seq (TC.region (TL.opP rfl (op_assign rfl) (TL.opP rfl (op_assign rfl) (TL.nil (TQ.then (TC.seq (TC.block (TC.seq (TC.region (TL.opP rfl (op_move rfl) ?_))))))))))
 refine TL.opX rfl (OpX.callX en_65 rfl (hd)) ?_; rintro _ _ ⟨rfl, rfl⟩
 refine TL.opP rfl (op_assign rfl) (TL.nil (TQ.then ?_))
 first | refine TC.condD rfl (fun c1 => ?_) (fun c1 => ?_) | refine TC.condB rfl (fun c1 => ?_) (fun c1 => ?_)
 ·refine TC.seq (TC.region (TL.opP rfl (op_assign rfl) (TL.opP rfl (op_assign rfl) (TL.nil (TQ.then (TC.ret (TQ.block_ret (TQ.then_ret ?_))))))))
  refine ret2 rfl rfl rfl (fun w' hp => ?_)
  exact ⟨_, _, rfl, ⟨rfl, rfl⟩, (hp)⟩
 ·exact absurd c1 (by decide)

theorem zmove_x (x : Value) (n m k : Int) (hd : CallX Tryd.prog 65 [x] S w0 F (fun u L' => u = .bool true ∧ L' = F)) :
    CallX Tryd.prog 25 [x, .int .i64 n, .int .i64 m, .int .i64 k] S w0 (F) (fun u L' => u = .tuple #[.slice none 0 0, .int .i64 6] ∧ L' = F) := by
 intro w hp
 refine calls_start Tryd.func25 rfl rfl rfl (hp) ?_
 refine TC.seq (TC.region (TL.opP rfl (op_assign rfl) (TL.opP rfl (op_assign rfl) (TL.nil (TQ.then (TC.seq (TC.block (TC.seq (TC.region (TL.opP rfl (op_move rfl) ?_))))))))))
 refine TL.opX rfl (OpX.callX en_65 rfl (hd)) ?_; rintro _ _ ⟨rfl, rfl⟩
 refine TL.opP rfl (op_assign rfl) (TL.nil (TQ.then ?_))
 first | refine TC.condD rfl (fun c1 => ?_) (fun c1 => ?_) | refine TC.condB rfl (fun c1 => ?_) (fun c1 => ?_)
 ·refine TC.seq (TC.region (TL.opP rfl (op_assign rfl) (TL.opP rfl (op_assign rfl) (TL.nil (TQ.then (TC.ret (TQ.block_ret (TQ.then_ret ?_))))))))
  refine ret2 rfl rfl rfl (fun w' hp => ?_)
  exact ⟨_, _, rfl, ⟨rfl, rfl⟩, (hp)⟩
 ·exact absurd c1 (by decide)

theorem zdead_each {g i : Nat} {x : Value} (hi : i < 2) (hx : ([.pointer none, .pointer (some ⟨g, 0, none⟩)] : List Value).getD i .nilFunc = x) :
    CallX Tryd.prog 65 [x] S w0 (.blk g (.cells [.slice none 0 0, .slice none 0 0, .bool false].toArray 58 (0, 0)) :: F) (fun u L' => u = .bool true ∧ L' = .blk g (.cells [.slice none 0 0, .slice none 0 0, .bool false].toArray 58 (0, 0)) :: F) := by
  obtain rfl | rfl : i = 0 ∨ i = 1 := by omega
  · have h : (.pointer none : Value) = x := hx
    subst h; exact zdead_x
  · have h : (.pointer (some ⟨g, 0, none⟩) : Value) = x := hx
    subst h; exact ldead_x (.slice none 0 0) (.slice none 0 0) false g
/-! ### The library's searches and joins -/
theorem lcontains_calls (s : ByteArray) (w : World) : Calls Tryd.prog 42 (List.toArray [.string s, .string ⟨#[10]⟩]) w fun e w' => e = .returned (.bool (decide (0 ≤ Lib.indexByte s.data.toList 10))) ∧ Kp NoB w w' :=
  (Tryd.strings_Contains_one s 10 w).mono fun e w' ⟨he, hw⟩ => ⟨he, hw ▸ Kp.refl _ _⟩
theorem ljoin_calls {v : Value} {e : TypeId} {ss : List ByteArray} (w : World) (ho : w.ownsRow 0 e 1 v ss.length (ss.map Value.string)) (h1 : 1 ≤ ss.length) (hN : ss.length ≤ 1048576) {r : ByteArray} (hj : Lib.join (ss.map (·.data.toList)) [10] = r.data.toList) (hr : r.size ≤ 1048576) :
    Calls Tryd.prog 43 (List.toArray [v, .string ⟨#[10]⟩]) w fun e w' => e = .returned (.string r) ∧ Kp NoB w w' := by
  rcases ho.2 with ⟨rfl, hz⟩ | ⟨g, cap, cur, rfl, hb, hh, hn, hmx, hs, ht⟩
  · omega
  · have hg : g < w.heap.size := by
      rcases Nat.lt_or_ge g w.heap.size with c | c
      · exact c
      · rw [Array.getElem?_eq_none c] at hh; cases hh
    have hcells : ∀ (j : Nat) x, ss[j]? = some x → w.cell? ⟨g, 0 + j, none⟩ = some (.string x) := fun j x hx => by
      have hr := rdb_row (L := [.row (.slice (some ⟨g, 0, none⟩) ss.length cap) e 1 ss.length (ss.map Value.string)]) (.head _) NoB w
      have hjl := (List.getElem?_eq_some_iff.1 hx).1
      have h1 : (cur.toList.take (ss.length * 1))[j]? = some (.string x) := by rw [ht, List.getElem?_map, hx]; rfl
      rw [List.getElem?_take, if_pos (by omega), Array.getElem?_toList] at h1
      rw [Nat.zero_add]
      unfold World.cell?
      simp only [hh]
      exact h1
    have hsz : (Lib.join (ss.map (·.data.toList)) (⟨#[10]⟩ : ByteArray).data.toList).length ≤ 140737488355328 := by
      show (Lib.join (ss.map (·.data.toList)) [10]).length ≤ _
      rw [hj, size_len]; omega
    refine (Tryd.strings_Join g 0 cap ss ⟨#[10]⟩ w hcells hg (by omega) hn hsz).mono fun e w' ⟨he, hw⟩ => ⟨?_, Kp.of_below hw⟩
    rw [he, show Lib.join (ss.map (·.data.toList)) (⟨#[10]⟩ : ByteArray).data.toList = r.data.toList from hj]
theorem line_seg {s : ByteArray} (hv : valid s = true) {i : Nat} (h : i < (begs (dec s)).length) : lineF (dec s) (i : Int) = enc (seg (dec s) i) ∧ lineE (dec s) (i : Int) = 0 ∧ Lib.indexByte (enc (seg (dec s) i)).data.toList 10 = -1 := by
  have hn : ¬ noLine (dec s) (i : Int) := by unfold noLine; omega
  refine ⟨if_neg hn, if_neg hn, ?_⟩
  have : (enc (seg (dec s) i)).data.toList = encsL (seg (dec s) i) := by unfold enc; simp
  rw [this]
  exact indexByte_not (encsL_ten (fun x hx => dec_scalar hv x (List.mem_of_mem_drop (List.mem_of_mem_take hx))) (seg_ten h))
theorem join_lines {s : ByteArray} (hv : valid s = true) : Lib.join ((((List.range (begs (dec s)).length).map (seg (dec s))).map enc).map (·.data.toList)) [10] = s.data.toList := by
  have h1 : ((((List.range (begs (dec s)).length).map (seg (dec s))).map enc).map (·.data.toList)) = ((List.range (begs (dec s)).length).map (seg (dec s))).map encsL := by
    rw [List.map_map]; exact List.map_congr_left (fun t _ => by simp [enc])
  rw [h1, ← encsL_join, segs_all]
  have := enc_dec hv
  conv => rhs; rw [← this]; unfold enc; simp
theorem lreplace_calls (s p q : ByteArray) {mx : Int} (w0 w : World) (hk : Kp NoB w0 w) (hm : w0.cell? ⟨2, 0, none⟩ = some (.int .i64 mx)) (hs : s.size ≤ 65536) (hp : 1 ≤ p.size) (hq : q.size ≤ 65536) :
    Calls Tryd.prog 46 (List.toArray [.string s, .string p, .string q]) w fun e w' => e = .returned (.string ⟨(Lib.replaceAll s.data.toList p.data.toList q.data.toList).toArray⟩) ∧ Kp NoB w w' := by
  have hb := World.block_lt_of_cell? w0 _ hm
  have hm' : w.cell? ⟨2, 0, none⟩ = some (.int .i64 mx) := by
    rw [← hm]; exact World.cell?_of_block (hk.block 2 hb (fun x => x))
  have h1 := Lib.countB_mul_le p hp s.size s (Nat.le_refl _)
  have h2 : Lib.countB s p ≤ s.size := Nat.le_trans (Nat.le_mul_of_pos_right _ (by omega)) h1
  have h3 : Lib.countB s p * q.size ≤ 65536 * 65536 := Nat.mul_le_mul (by omega) hq
  exact (Tryd.strings_ReplaceAll s p q mx w (by omega) hm' hp (by omega)).mono fun e w' ⟨he, hw⟩ => ⟨he, Kp.of_below hw⟩
theorem swE_z {p q : ByteArray} (h : swE p q = 0) : swE p q = 0 ∧ valid p = true ∧ valid q = true ∧ dec p ≠ [] := by
  refine ⟨h, ?_⟩
  unfold swE at h
  split at h
  · omega
  · rename_i c
    split at h
    · omega
    · rename_i c2
      have h1 : valid p = true := by cases hh : valid p with | true => rfl | false => exact absurd (.inl hh) c
      have h2 : valid q = true := by cases hh : valid q with | true => rfl | false => exact absurd (.inr hh) c
      exact ⟨h1, h2, decP_ne h1 c2⟩
end Go.SK
