/- Walks: layer 11, the laws' own helpers and the examples. -/
import Derived.Test.YtpomdenbgdgbhaaDoorE55
set_option linter.unusedVariables false
set_option linter.unusedSimpArgs false
set_option maxRecDepth 100000
namespace Go.SK
open Go Go.RowKit Go.Proofs
variable {S : Nat → Prop} {w0 : World} {F L : List Res}
theorem long1_calls (s : ByteArray) (w : World) :
    Calls Tryd.prog 62 (List.toArray [.string s]) w fun e w' => e = .returned (.bool (decide (2048 < s.size))) ∧ Kp NoB w w' := by
 refine calls_start Tryd.func62 rfl rfl rfl (Hp.init0 w) ?_
 refine TC.seq (TC.region (TL.opP rfl (op_assign rfl) (TL.nil (TQ.then (TC.seq (TC.region (TL.opP rfl (op_move rfl) (TL.opP rfl (op_slen rfl un_string rfl) (TL.opP rfl (op_gtr rfl rfl) (TL.opP rfl (op_assign rfl) (TL.nil (TQ.then (TC.ret ?_)))))))))))))
 refine ret1 rfl rfl (fun w' hp => ?_)
 exact ⟨by congr 2; exact decide_eq_decide.2 (by omega), hp.kp⟩

theorem all_getD {ss : List ByteArray} {k : Nat} (h : ∀ j, j < k → (ss.getD j ⟨#[]⟩).size ≤ 2048) (hk : ss.length ≤ k) : ∀ s ∈ ss, s.size ≤ 2048 := fun s hs => by
  obtain ⟨j, hj, rfl⟩ := List.mem_iff_getElem.1 hs
  have := h j (by omega)
  rw [List.getD_eq_getElem?_getD, List.getElem?_eq_getElem hj] at this
  exact this
theorem indexf_x (ss : List ByteArray) (v : Value) (hr : Rdb L v 1 ss.length (ss.map Value.string)) :
    CallX Tryd.prog 95 [v, .func (.func 62) #[] #[]] S w0 (L) (fun u L' => ∃ i : Int, u = .int .i64 i ∧ (i < 0 → ∀ s ∈ ss, s.size ≤ 2048) ∧ L' = L) := by
 intro w hp
 have hlen := hr.lenLe hp
 refine calls_start Tryd.func95 rfl rfl rfl (hp) ?_
 refine TC.seq (TC.region (TL.opP rfl (op_assign rfl) (TL.nil (TQ.then (TC.seq (TC.seq (TC.region (TL.opP rfl (op_move rfl) (TL.opV rfl (op_lenV rfl un_sl_string rfl hr) (TL.opP rfl (op_move rfl) (TL.nil (TQ.then (TC.block (TC.loop (ι := Nat) (fun k => [(0, v), (1, .func (.func 62) #[] #[]), (6, v), (7, .int .i64 (ss.length : Int)), (8, .int .i64 (k : Int))]) (fun k => L) (fun k => k ≤ ss.length ∧ ∀ j, j < k → (ss.getD j ⟨#[]⟩).size ≤ 2048) (fun k => ss.length - k) (0) (⟨Nat.zero_le _, fun j h => by omega⟩) ⟨rfl, rfl, rfl, rfl, rfl, trivial⟩ (fun _ h => h) ?_))))))))))))))
 rintro k hI
 have hk := hI.1
 refine TC.seq (TC.region (TL.opP rfl (op_lss rfl rfl) (TL.nil (TQ.then (TC.seq ?_)))))
 first | refine TC.condD rfl (fun c1 => ?_) (fun c1 => ?_) | refine TC.condB rfl (fun c1 => ?_) (fun c1 => ?_)
 ·refine TC.skip (TQ.then (TC.seq (TC.block (TC.seq (TC.region (TL.opP rfl (op_move rfl) (TL.opP rfl (op_assign rfl) (TL.nil (TQ.then (TC.seq (TC.region (TL.opP rfl (op_move rfl) (TL.opP rfl (op_move rfl) (TL.opP rfl (op_move rfl) (TL.opV rfl (op_index tsl_string rfl hr rfl (by omega) (by omega)) (TL.opV rfl (op_loadR ts_string rfl hr (lkM (i := k) (d := (⟨#[]⟩ : ByteArray)) (by omega) rfl (by omega))) ?_))))))))))))))))
  refine TL.opX rfl (OpX.callqV rfl en_62 rfl (fun w2 hp => long1_calls _ w2)) ?_; rintro _ _ ⟨rfl, rfl⟩
  refine TL.nil (TQ.then ?_)
  first | refine TC.condD rfl (fun c2 => ?_) (fun c2 => ?_) | refine TC.condB rfl (fun c2 => ?_) (fun c2 => ?_)
  ·refine TC.seq (TC.region (TL.opP rfl (op_move rfl) (TL.opP rfl (op_assign rfl) (TL.nil (TQ.then (TC.ret (TQ.block_ret (TQ.then_ret (TQ.loop_ret (TQ.block_ret (TQ.then_ret ?_)))))))))))
   refine ret1 rfl rfl (fun w' hp => ?_)
   first
     | exact ⟨_, _, rfl, ⟨_, rfl, fun h => by omega, rfl⟩, (hp)⟩
     | exact ⟨_, _, rfl, ⟨_, rfl, fun _ => all_getD hI.2 (by omega), rfl⟩, (hp)⟩
  ·refine TC.skip (TQ.block_normal (TQ.then (TC.region (TL.opP rfl (op_add rfl rfl rfl (by omega) (by omega)) (TL.opP rfl (op_move rfl) (TL.nil ?_))))))
   exact TQ.round (k + 1) (⟨by omega, fun j hj => by rcases Nat.lt_or_ge j k with h | h; exact hI.2 j h; (obtain rfl : j = k := by omega); have := c2; omega⟩) (by omega) ⟨rfl, rfl, rfl, rfl, rfl, trivial⟩ (fun _ h => h)
 ·refine TC.exit (TQ.then_exit (TQ.loop_exit (TQ.block_hit (TQ.then (TC.seq (TC.region (TL.opP rfl (op_assign rfl) (TL.nil (TQ.then (TC.ret ?_))))))))))
  refine ret1 rfl rfl (fun w' hp => ?_)
  first
    | exact ⟨_, _, rfl, ⟨_, rfl, fun h => by omega, rfl⟩, (hp)⟩
    | exact ⟨_, _, rfl, ⟨_, rfl, fun _ => all_getD hI.2 (by omega), rfl⟩, (hp)⟩

theorem containsf_x (ss : List ByteArray) (v : Value) (hr : Rdb L v 1 ss.length (ss.map Value.string)) :
    CallX Tryd.prog 61 [v, .func (.func 62) #[] #[]] S w0 (L) (fun u L' => ∃ b, u = .bool b ∧ (b = false → ∀ s ∈ ss, s.size ≤ 2048) ∧ L' = L) := by
 intro w hp
 refine calls_start Tryd.func61 rfl rfl rfl (hp) ?_
 refine TC.seq (TC.region (TL.opP rfl (op_assign rfl) (TL.nil (TQ.then (TC.seq (TC.region (TL.opP rfl (op_move rfl) (TL.opP rfl (op_move rfl) ?_))))))))
 refine TL.opX rfl (OpX.callX en_95 rfl (indexf_x ss v hr)) ?_; rintro _ _ ⟨i1, rfl, h1, rfl⟩
 refine TL.opP rfl (op_geq rfl rfl) (TL.opP rfl (op_assign rfl) (TL.nil (TQ.then (TC.ret ?_))))
 refine ret1 rfl rfl (fun w' hp => ?_)
 exact ⟨_, _, rfl, ⟨_, rfl, fun h => h1 (by simpa using h), rfl⟩, (hp)⟩

theorem long_x (ss : List ByteArray) (v : Value) (hr : Rdb L v 1 ss.length (ss.map Value.string)) :
    CallX Tryd.prog 17 [v] S w0 (L) (fun u L' => ∃ b, u = .bool b ∧ (b = false → ∀ s ∈ ss, s.size ≤ 2048) ∧ L' = L) := by
 intro w hp
 refine calls_start Tryd.func17 rfl rfl rfl (hp) ?_
 refine TC.seq (TC.region (TL.opP rfl (op_assign rfl) (TL.nil (TQ.then (TC.seq (TC.region (TL.opP rfl (op_move rfl) ?_)))))))
 refine TL.opX rfl (OpX.callX en_61 rfl (containsf_x ss v hr)) ?_; rintro _ _ ⟨b1, rfl, h1, rfl⟩
 refine TL.opP rfl (op_assign rfl) (TL.nil (TQ.then (TC.ret ?_)))
 refine ret1 rfl rfl (fun w' hp => ?_)
 exact ⟨_, _, rfl, ⟨_, rfl, h1, rfl⟩, (hp)⟩

theorem lindex_x (s : ByteArray) (hv : valid s = true) (hs : s.size ≤ 1048576) (hT : tabs ∈ L) :
    CallX Tryd.prog 21 [.string s] S w0 (L) (fun u L' => ∃ g tv bv, u = .pointer (some ⟨g, 0, none⟩) ∧ L' = .blk g (.cells [tv, bv, .bool true].toArray 58 (0, 0)) :: .rd tv 1 (dec s).length ((dec s).map (Value.int .i32)) :: .rd bv 1 (begs (dec s)).length ((begs (dec s)).map nv) :: L) := by
 intro w hp
 refine calls_start Tryd.func21 rfl rfl rfl (hp) ?_
 refine TC.seq (TC.region (TL.opP rfl (op_assign rfl) (TL.nil (TQ.then (TC.seq (TC.region (TL.opP rfl (op_move rfl) ?_)))))))
 refine TL.opX rfl (OpX.callX en_33 rfl (lnew_x s hv hs hT)) ?_; rintro _ _ ⟨g1, tv1, bv1, rfl, rfl⟩
 refine TL.opP rfl (op_move rfl) (TL.opP rfl (op_extract rfl rfl) (TL.opP rfl (op_extract rfl rfl) (TL.opP rfl (op_assign rfl) (TL.opP rfl (op_assign rfl) (TL.nil (TQ.then (TC.seq (TC.region (TL.opP rfl (op_move rfl) (TL.opP rfl (op_assign rfl) (TL.nil (TQ.then (TC.ret ?_)))))))))))))
 refine ret1 rfl rfl (fun w' hp => ?_)
 exact ⟨_, _, rfl, ⟨_, _, _, rfl, rfl⟩, (hp)⟩

theorem lapplied_calls (e : List Part) (s : ByteArray) (v : Value) (hss : s.size ≤ 70368744177664) (w : World) (hT : Tabs w) (hs : ∀ p ∈ e, p.text.size < 9223372036854775807) (hv : RdRow w v 3 e.length (encs e)) :
    Calls Tryd.prog 45 (List.toArray [v, .string s]) w fun e' w' => e' = .returned (.string (applyF e s)) ∧ Kp NoB w w' := by
 have hlen : e.length ≤ 9223372036854775807 := by obtain ⟨_, A, c, _, h1, h2, _⟩ := hv; simp only [maxLen] at h2; omega
 refine calls_start Tryd.func45 rfl rfl rfl (Hp.i1 (r := .rd v 3 e.length (encs e)) hv) ?_
 refine TC.seq (TC.region (TL.opP rfl (op_assign rfl) (TL.nil (TQ.then (TC.seq (TC.region (TL.opP rfl (op_move rfl) (TL.opP rfl (op_move rfl) (TL.callq rfl en_81 rfl (fun w2 hp => apply_calls e s v hss w2 (hT.kp hp.kp) hs (rd0 _ _ _ hp)) (TL.opP rfl (op_move rfl) (TL.opP rfl (op_extract rfl rfl) (TL.opP rfl (op_extract rfl rfl) (TL.opP rfl (op_assign rfl) (TL.opP rfl (op_assign rfl) (TL.nil (TQ.then (TC.seq (TC.region (TL.opP rfl (op_move rfl) (TL.opP rfl (op_assign rfl) (TL.nil (TQ.then (TC.ret ?_)))))))))))))))))))))))
 refine ret1 rfl rfl (fun w' hp => ?_)
 exact ⟨rfl, hp.kp⟩

theorem la1 : valid ⟨#[97, 98, 10, 99, 100]⟩ = true := by kernel_rfl
theorem la2 : valid ⟨#[97, 97, 97]⟩ = true := by kernel_rfl
theorem la3 : valid ⟨#[97, 10, 98, 10, 99]⟩ = true := by kernel_rfl
theorem la4 : atE (dec ⟨#[97, 98, 10, 99, 100]⟩) 1 9 = 0 := by kernel_rfl
theorem la5 : atF (dec ⟨#[97, 98, 10, 99, 100]⟩) 1 9 = 5 := by kernel_rfl
theorem la6 : whE (dec ⟨#[97, 98, 10, 99, 100]⟩) 3 = 0 := by kernel_rfl
theorem la7 : whL (dec ⟨#[97, 98, 10, 99, 100]⟩) 3 = 1 := by kernel_rfl
theorem la8 : whC (dec ⟨#[97, 98, 10, 99, 100]⟩) 3 = 0 := by kernel_rfl
theorem la9 : patE ⟨#[97, 97]⟩ = 0 := by kernel_rfl
theorem la10 : (if patE ⟨#[97, 97]⟩ = 0 then findF (dec ⟨#[97, 97]⟩) (dec ⟨#[97, 97, 97]⟩) else []) = [0, 1] := by kernel_rfl
theorem la11 : swE ⟨#[97, 97]⟩ ⟨#[98]⟩ = 0 := by kernel_rfl
theorem small_k {X : List Part} (h : X.all (fun p => decide (p.text.size < 9223372036854775807)) = true) : ∀ p ∈ X, p.text.size < 9223372036854775807 := fun p hp => of_decide_eq_true (List.all_eq_true.1 h p hp)
theorem la12 : ∀ p ∈ (if swE ⟨#[97, 97]⟩ ⟨#[98]⟩ = 0 then swapF (dec ⟨#[97, 97]⟩) (dec ⟨#[97, 97, 97]⟩) ⟨#[98]⟩ else []), p.text.size < 9223372036854775807 := small_k (by kernel_rfl)
theorem la13 : applyF (if swE ⟨#[97, 97]⟩ ⟨#[98]⟩ = 0 then swapF (dec ⟨#[97, 97]⟩) (dec ⟨#[97, 97, 97]⟩) ⟨#[98]⟩ else []) ⟨#[97, 97, 97]⟩ = ⟨#[98, 97]⟩ := by kernel_rfl
theorem la14 : mvE (dec ⟨#[97, 10, 98, 10, 99]⟩) 1 1 0 = 0 := by kernel_rfl
theorem la15 : ∀ p ∈ mvF (dec ⟨#[97, 10, 98, 10, 99]⟩) 1 1 0, p.text.size < 9223372036854775807 := small_k (by kernel_rfl)
theorem la16 : applyF (mvF (dec ⟨#[97, 10, 98, 10, 99]⟩) 1 1 0) ⟨#[97, 10, 98, 10, 99]⟩ = ⟨#[98, 10, 97, 10, 99]⟩ := by kernel_rfl
theorem lapplied_at {e : List Part} {s t : ByteArray} (v : Value) (w : World) (hT : Tabs w) (hss : s.size ≤ 70368744177664) (hs : ∀ p ∈ e, p.text.size < 9223372036854775807) (h1 : applyF e s = t) (hv : RdRow w v 3 e.length (encs e)) :
    Calls Tryd.prog 45 (List.toArray [v, .string s]) w fun e' w' => e' = .returned (.string t) ∧ Kp NoB w w' := by
  have := lapplied_calls e s v hss w hT hs hv
  rw [h1] at this
  exact this
theorem lawake_calls (w : World) (hT : Tabs w) :
    Calls Tryd.prog 19 (List.toArray []) w fun e w' => e = .returned (.bool true) ∧ Kp NoB w w' := by
 refine calls_start Tryd.func19 rfl rfl rfl (Hp.i1 (r := tabs) hT) ?_
 refine TC.seq (TC.region (TL.opP rfl (op_assign rfl) (TL.nil (TQ.then (TC.seq (TC.region ?_))))))
 refine TL.opX rfl (OpX.callX en_21 rfl (lindex_x ⟨#[97, 98, 10, 99, 100]⟩ la1 (by decide) m0)) ?_; rintro _ _ ⟨g1, tv1, bv1, rfl, rfl⟩
 refine TL.opP rfl (op_assign rfl) (TL.nil (TQ.then (TC.seq (TC.region (TL.opP rfl (op_move rfl) ?_)))))
 refine TL.opX rfl (OpX.callX en_30 rfl (lat_x (dec ⟨#[97, 98, 10, 99, 100]⟩) _ _ _ rd0 rd1 1 9)) ?_; rintro _ _ ⟨rfl, rfl⟩
 refine TL.opP rfl (op_move rfl) (TL.opP rfl (op_extract rfl rfl) (TL.opP rfl (op_extract rfl rfl) (TL.opP rfl (op_assign rfl) (TL.opP rfl (op_assign rfl) (TL.nil (TQ.then (TC.seq (TC.region (TL.opP rfl (op_move rfl) ?_)))))))))
 refine TL.opX rfl (OpX.callX en_29 rfl (lwhere_x (dec ⟨#[97, 98, 10, 99, 100]⟩) _ _ _ rd0 rd1 3 (by decide))) ?_; rintro _ _ ⟨rfl, rfl⟩
 refine TL.opP rfl (op_move rfl) (TL.opP rfl (op_extract rfl rfl) (TL.opP rfl (op_extract rfl rfl) (TL.opP rfl (op_extract rfl rfl) (TL.opP rfl (op_assign rfl) (TL.opP rfl (op_assign rfl) (TL.opP rfl (op_assign rfl) (TL.nil (TQ.then (TC.seq (TC.region ?_))))))))))
 refine TL.opX rfl (OpX.callX en_21 rfl (lindex_x ⟨#[97, 97, 97]⟩ la2 (by decide) m3)) ?_; rintro _ _ ⟨g4, tv4, bv4, rfl, rfl⟩
 refine TL.opX rfl (OpX.callX en_22 rfl (lfindc_x (dec ⟨#[97, 97, 97]⟩) _ _ _ rd0 rd1 ⟨#[97, 97]⟩ (by decide) (by decide) m5)) ?_; rintro _ _ ⟨w5, out5, rfl, ho5, rfl⟩
 refine TL.opP rfl (op_move rfl) (TL.opP rfl (op_extract rfl rfl) (TL.opP rfl (op_extract rfl rfl) (TL.opP rfl (op_assign rfl) (TL.opP rfl (op_assign rfl) (TL.nil (TQ.then (TC.seq (TC.region ?_))))))))
 refine TL.opX rfl (OpX.callX en_21 rfl (lindex_x ⟨#[97, 97, 97]⟩ la2 (by decide) m7)) ?_; rintro _ _ ⟨g6, tv6, bv6, rfl, rfl⟩
 refine TL.opX rfl (OpX.callX en_41 rfl (lswapc_x (dec ⟨#[97, 97, 97]⟩) _ _ _ rd0 rd1 ⟨#[97, 97]⟩ ⟨#[98]⟩ (by decide) (by decide) (by decide) m9)) ?_; rintro _ _ ⟨w7, rfl, rfl⟩
 refine TL.opP rfl (op_move rfl) (TL.opP rfl (op_extract rfl rfl) (TL.opP rfl (op_extract rfl rfl) (TL.opP rfl (op_assign rfl) (TL.opP rfl (op_assign rfl) (TL.nil (TQ.then (TC.seq (TC.region ?_))))))))
 refine TL.opX rfl (OpX.callX en_21 rfl (lindex_x ⟨#[97, 10, 98, 10, 99]⟩ la3 (by decide) m11)) ?_; rintro _ _ ⟨g8, tv8, bv8, rfl, rfl⟩
 refine TL.opX rfl (OpX.callX en_25 rfl (lmovec_x (dec ⟨#[97, 10, 98, 10, 99]⟩) _ _ _ rd0 rd1 1 1 0 (by decide) (dec_scalar la3) m13)) ?_; rintro _ _ ⟨w9, rfl, rfl⟩
 refine TL.opP rfl (op_move rfl) (TL.opP rfl (op_extract rfl rfl) (TL.opP rfl (op_extract rfl rfl) (TL.opP rfl (op_assign rfl) (TL.opP rfl (op_assign rfl) (TL.nil (TQ.then (TC.seq (TC.region (TL.opP rfl (op_move rfl) (TL.opP rfl (op_eql rfl rfl) (TL.opP rfl (op_move rfl) ?_)))))))))))
 first | refine TL.splitD (fun c1 => ?_) (fun c1 => ?_) | refine TL.splitB (fun c1 => ?_) (fun c1 => ?_)
 ·refine TL.gT rfl rfl (TL.opP rfl (op_move rfl) (TL.gT rfl rfl (TL.opP rfl (op_eql rfl rfl) (TL.opP rfl (op_pickT rfl rfl) (TL.opP rfl (op_move rfl) ?_)))))
  first | refine TL.splitD (fun c2 => ?_) (fun c2 => ?_) | refine TL.splitB (fun c2 => ?_) (fun c2 => ?_)
  ·refine TL.gT rfl rfl (TL.opP rfl (op_move rfl) (TL.gT rfl rfl (TL.opP rfl (op_eql rfl rfl) (TL.opP rfl (op_pickT rfl rfl) (TL.opP rfl (op_move rfl) ?_)))))
   first | refine TL.splitD (fun c3 => ?_) (fun c3 => ?_) | refine TL.splitB (fun c3 => ?_) (fun c3 => ?_)
   ·refine TL.gT rfl rfl (TL.opP rfl (op_move rfl) (TL.gT rfl rfl (TL.opP rfl (op_eql rfl rfl) (TL.opP rfl (op_pickT rfl rfl) (TL.opP rfl (op_move rfl) ?_)))))
    first | refine TL.splitD (fun c4 => ?_) (fun c4 => ?_) | refine TL.splitB (fun c4 => ?_) (fun c4 => ?_)
    ·refine TL.gT rfl rfl (TL.opP rfl (op_move rfl) (TL.gT rfl rfl (TL.opP rfl (op_eql rfl rfl) (TL.opP rfl (op_pickT rfl rfl) (TL.opP rfl (op_move rfl) ?_)))))
     first | refine TL.splitD (fun c5 => ?_) (fun c5 => ?_) | refine TL.splitB (fun c5 => ?_) (fun c5 => ?_)
     ·refine TL.gT rfl rfl (TL.opP rfl (op_move rfl) (TL.gT rfl rfl (TL.opP rfl (op_eql rfl rfl) (TL.opP rfl (op_pickT rfl rfl) (TL.opP rfl (op_move rfl) ?_)))))
      first | refine TL.splitD (fun c6 => ?_) (fun c6 => ?_) | refine TL.splitB (fun c6 => ?_) (fun c6 => ?_)
      ·refine TL.gT rfl rfl (TL.opP rfl (op_move rfl) (TL.gT rfl rfl ?_))
       refine TL.opX rfl (OpX.buildSlice (ps := #[(0, nv 0), (1, nv 1)]) rfl (bs_int_2 (nv 0) (nv 1))) ?_; rintro _ _ ⟨g64, rfl, rfl⟩
       refine TL.hp (fun _ h => blk_row (k := 1) (m := 2) h rfl (by decide)) (TL.gT rfl rfl (TL.callq rfl en_24 rfl (fun w2 hp => eqints_calls out5 [0, 1] _ _ w2 (rw9 _ _ _ hp) (rw0 _ _ _ hp)) (TL.opP rfl (op_pickT rfl rfl) (TL.opP rfl (op_move rfl) ?_))))
       first | refine TL.splitD (fun c7 => ?_) (fun c7 => ?_) | refine TL.splitB (fun c7 => ?_) (fun c7 => ?_)
       ·refine TL.gT rfl rfl (TL.opP rfl (op_move rfl) (TL.gT rfl rfl (TL.opP rfl (op_eql rfl rfl) (TL.opP rfl (op_pickT rfl rfl) (TL.opP rfl (op_move rfl) ?_)))))
        first | refine TL.splitD (fun c8 => ?_) (fun c8 => ?_) | refine TL.splitB (fun c8 => ?_) (fun c8 => ?_)
        ·refine TL.gT rfl rfl (TL.opP rfl (op_move rfl) (TL.gT rfl rfl (TL.callq rfl en_45 rfl (fun w2 hp => lapplied_at _ w2 (tabs_at hp m16) (by decide) la12 la13 (rw5 _ _ _ hp)) (TL.gT rfl rfl (TL.opP rfl (op_seql rfl rfl) (TL.opP rfl (op_pickT rfl rfl) (TL.opP rfl (op_move rfl) ?_)))))))
         first | refine TL.splitD (fun c9 => ?_) (fun c9 => ?_) | refine TL.splitB (fun c9 => ?_) (fun c9 => ?_)
         ·refine TL.gT rfl rfl (TL.opP rfl (op_move rfl) (TL.gT rfl rfl (TL.opP rfl (op_eql rfl rfl) (TL.opP rfl (op_pickT rfl rfl) (TL.opP rfl (op_move rfl) ?_)))))
          first | refine TL.splitD (fun c10 => ?_) (fun c10 => ?_) | refine TL.splitB (fun c10 => ?_) (fun c10 => ?_)
          ·refine TL.gT rfl rfl (TL.opP rfl (op_move rfl) (TL.gT rfl rfl (TL.callq rfl en_45 rfl (fun w2 hp => lapplied_at _ w2 (tabs_at hp m16) (by decide) la15 la16 (rw1 _ _ _ hp)) (TL.gT rfl rfl (TL.opP rfl (op_seql rfl rfl) (TL.opP rfl (op_pickT rfl rfl) (TL.opP rfl (op_assign rfl) (TL.nil (TQ.then (TC.ret ?_))))))))))
           refine ret1 rfl rfl (fun w' hp => ?_)
           exact ⟨rfl, hp.kp⟩
          ·exact absurd la14 c10
         ·exact absurd rfl c9
        ·exact absurd la11 c8
       ·exact absurd (ho5.trans la10) c7
      ·exact absurd la9 c6
     ·exact absurd la8 c5
    ·exact absurd la7 c4
   ·exact absurd la6 c3
  ·exact absurd la5 c2
 ·exact absurd la4 c1

end Go.SK
