/- Walks: layer 12, the examples. -/
import Derived.Test.YtpomdenbgdgbhaaDoorE73
set_option linter.unusedVariables false
set_option linter.unusedSimpArgs false
set_option maxRecDepth 100000
namespace Go.SK
open Go Go.RowKit Go.Proofs
theorem mw1 : (match cmpF ⟨#[40, 97, 43, 41, 40, 98, 124, 99, 41]⟩ with | .ok t _ g => (fdE ⟨#[120, 97, 97, 98]⟩ 0, fdF (progF t) g ⟨#[120, 97, 97, 98]⟩ 0) | .err _ _ => (99, none)) = (0, some [1, 4, 1, 3, 3, 4]) := by kernel_rfl
def smB (e : List Part) : Bool := e.all fun p => decide (p.text.size < 9223372036854775807)
theorem smB_small {e : List Part} (h : smB e = true) : ∀ p ∈ e, p.text.size < 9223372036854775807 := fun p hp => of_decide_eq_true (List.all_eq_true.1 h p hp)
theorem mw2 : (match cmpF ⟨#[40, 92, 119, 43, 41, 32, 40, 92, 119, 43, 41]⟩ with | .ok t _ g => (mswE (progF t) g ⟨#[111, 110, 101, 32, 116, 119, 111]⟩ ⟨#[36, 50, 32, 36, 49]⟩, applyF (mswF (progF t) g ⟨#[111, 110, 101, 32, 116, 119, 111]⟩ ⟨#[36, 50, 32, 36, 49]⟩) ⟨#[111, 110, 101, 32, 116, 119, 111]⟩, smB (mswF (progF t) g ⟨#[111, 110, 101, 32, 116, 119, 111]⟩ ⟨#[36, 50, 32, 36, 49]⟩)) | .err _ _ => (99, ⟨#[]⟩, false)) = (0, ⟨#[116, 119, 111, 32, 111, 110, 101]⟩, true) := by kernel_rfl
theorem mw3 : (match cmpF ⟨#[97, 42, 42]⟩ with | .ok _ _ _ => ((0 : Int), (0 : Nat)) | .err e j => (e, j)) = (90, 2) := by kernel_rfl
variable {S : Nat → Prop} {w0 : World} {F L : List Res}
theorem cmp_ok {s : ByteArray} {t : Nd} {j g : Nat} (h : cmpF s = .ok t j g) : PgG (progF t) g ∧ (progF t).length ≤ 3000 ∧ g ≤ 200 := by
  unfold cmpF at h
  cases hr : readF s with
  | err e k => rw [hr] at h; cases h
  | ok t' k g' =>
    rw [hr] at h
    simp only at h
    split at h
    · cases h
    · rename_i hc
      cases h
      by_cases hv : valid s = true
      · by_cases hl : 200 < (dec s).length
        · rw [readF_b hv hl] at hr; cases hr
        · rw [readF_c hv (by omega)] at hr
          obtain ⟨_, _, hg, hok⟩ := parseF_ok hr
          exact ⟨progF_g hok, by rw [progF_len]; omega, by omega⟩
      · rw [readF_a (by simpa using hv)] at hr; cases hr
theorem wcompiled_x (s : ByteArray) (hs : s.size ≤ 1048576) (hT : tabs ∈ L) :
    CallX Tryd.prog 48 [.string s] S w0 (L) (fun u L' => ∃ rs v i e, u = .tuple #[v, .bool (decide (e = 0))] ∧ CmpRes s rs v i e ∧ L' = fz rs :: L) := by
 intro w hp
 refine calls_start Tryd.func48 rfl rfl rfl (hp) ?_
 refine TC.seq (TC.region (TL.as rfl rfl (TL.as rfl rfl (TL.nil (TQ.then (TC.seq (TC.region (TL.opP rfl (op_move rfl) ?_))))))))
 refine TL.opX rfl (OpX.callX en_55 rfl (pcompile_x s hs hT)) ?_; rintro _ _ ⟨rz1, vz1, iz1, ez1, rfl, hR1, rfl⟩
 refine TL.mv rfl rfl (TL.opP rfl (op_extract rfl rfl) (TL.opP rfl (op_extract rfl rfl) (TL.opP rfl (op_extract rfl rfl) (TL.as rfl rfl (TL.as rfl rfl (TL.as rfl rfl (TL.nil (TQ.then (TC.seq (TC.region (TL.mv rfl rfl (TL.mv rfl rfl (TL.opP rfl (op_eql rfl rfl) (TL.as rfl rfl (TL.as rfl rfl (TL.nil (TQ.then (TC.ret ?_))))))))))))))))))
 refine ret2 rfl rfl rfl (fun w' hp => ?_)
 exact ⟨_, _, rfl, ⟨_, _, _, _, rfl, hR1, rfl⟩, (hp)⟩

theorem take_getDZ {l : List Int} {k : Nat} {x : Int} (h : k < l.length) (hx : l.getD k 0 = x) : l.take (k + 1) = l.take k ++ [x] := by
  rw [List.take_add_one, List.getElem?_eq_getElem h, ← hx, List.getD_eq_getElem?_getD, List.getElem?_eq_getElem h]; rfl
theorem take_eq_allZ {a b : List Int} {k : Nat} (h : a.take k = b.take k) (ha : a.length ≤ k) (hb : b.length ≤ k) : a = b := by rw [List.take_of_length_le ha, List.take_of_length_le hb] at h; exact h
theorem weqints_calls (a b : List Int) (va vb : Value) (w : World) (ha : RdRow w va 1 a.length (ints a)) (hb : RdRow w vb 1 b.length (ints b)) :
    Calls Tryd.prog 24 (List.toArray [va, vb]) w fun e w' => e = .returned (.bool (decide (a = b))) ∧ Kp NoB w w' := by
 have hlen : a.length ≤ 9223372036854775807 := by obtain ⟨_, A, c, _, h1, h2, _⟩ := ha; simp only [maxLen] at h2; omega
 refine calls_start Tryd.func24 rfl rfl rfl (Hp.i2 (r := .rd va 1 a.length (ints a)) (s := .rd vb 1 b.length (ints b)) ha hb) ?_
 refine TC.seq (TC.region (TL.as rfl rfl (TL.nil (TQ.then (TC.seq (TC.seq (TC.region (TL.mv rfl rfl (TL.opV rfl (op_lenV rfl un_sl_int rfl rd0) (TL.mv rfl rfl (TL.opV rfl (op_lenV rfl un_sl_int rfl rd1) (TL.opP rfl (op_neq rfl rfl) (TL.nil (TQ.then ?_))))))))))))))
 refine TC.sp rfl (fun c1 => ?_) (fun c1 => ?_)
 ·refine TC.seq (TC.region (TL.as rfl rfl (TL.nil (TQ.then (TC.ret (TQ.then_ret ?_))))))
  refine ret1 rfl rfl (fun w' hp => ?_)
  exact ⟨by rw [decide_eq_false (by rintro rfl; omega)], hp.kp⟩
 ·refine TC.skip (TQ.then (TC.seq (TC.seq (TC.region (TL.mv rfl rfl (TL.opV rfl (op_lenV rfl un_sl_int rfl rd0) (TL.mv rfl rfl (TL.nil (TQ.then (TC.block (TC.loop (ι := Nat) (fun k => [(0, va), (1, vb), (12, .int .i64 (a.length : Int)), (13, .int .i64 (k : Int))]) (fun k => [.rd va 1 a.length (ints a), .rd vb 1 b.length (ints b)]) (fun k => k ≤ a.length ∧ a.take k = b.take k) (fun k => a.length - k) (0) (⟨Nat.zero_le _, rfl⟩) ⟨rfl, rfl, rfl, rfl, trivial⟩ (fun _ h => h) ?_)))))))))))
  rintro k ⟨hk, htk⟩
  refine TC.seq (TC.region (TL.opP rfl (op_lss rfl rfl) (TL.nil (TQ.then (TC.seq ?_)))))
  refine TC.sp rfl (fun c2 => ?_) (fun c2 => ?_)
  ·have hka : k < a.length := by omega
   have hkb : k < b.length := by omega
   refine TC.skip (TQ.then (TC.seq (TC.block (TC.seq (TC.region (TL.mv rfl rfl (TL.as rfl rfl (TL.nil (TQ.then (TC.seq (TC.draw [] (.cons (.p, 0) (.cons (.p, 1) (.cons (.p, 4) (.cons (.p, 5) (.cons (.t, 2) (.cons (.t, 3) (.cons (.t, 6) (.cons (.t, 7) (.cons (.p, 8) (.nil)))))))))) mo (by kernel_rfl) (TR.p rfl rfl wt0 (op_move rfl) (TR.p rfl rfl wt0 (op_move rfl) (TR.p rfl rfl wt0 (op_move rfl) (TR.p rfl rfl wt0 (op_move rfl) (TR.t rfl rfl wt0 (op_index tsl_int rfl rd0 rfl (by omega) (by omega)) (fun _ h => h) (TR.t rfl rfl wt0 (op_loadR ts_int rfl rd0 (lkM (f := Value.int .i64) (i := k) (d := 0) (by omega) rfl (by omega))) (fun _ h => h) (TR.t rfl rfl wt0 (op_index tsl_int rfl rd1 rfl (by omega) (by omega)) (fun _ h => h) ?_))))))))))))))))))
   refine TR.t rfl rfl wt0 (op_loadR ts_int rfl rd1 (lkM (f := Value.int .i64) (i := k) (d := 0) (by omega) rfl (by omega))) (fun _ h => h) (TR.p rfl rfl wt0 (op_neq rfl rfl) (TR.nil (TQ.then ?_)))
   refine TC.sp rfl (fun c3 => ?_) (fun c3 => ?_)
   ·refine TC.seq (TC.region (TL.as rfl rfl (TL.nil (TQ.then (TC.ret (TQ.block_ret (TQ.then_ret (TQ.loop_ret (TQ.block_ret (TQ.then_ret ?_))))))))))
    refine ret1 rfl rfl (fun w' hp => ?_)
    exact ⟨by rw [decide_eq_false (by rintro rfl; omega)], hp.kp⟩
   ·refine TC.skip (TQ.block_normal (TQ.then (TC.region (TL.opP rfl (op_add rfl rfl rfl (by omega) (by omega)) (TL.mv rfl rfl (TL.nil ?_))))))
    exact TQ.round (k + 1) (⟨by omega, by rw [take_getDZ hka rfl, take_getDZ hkb rfl, htk, Classical.not_not.1 c3]⟩) (by omega) ⟨rfl, rfl, rfl, rfl, trivial⟩ (fun _ h => h)
  ·refine TC.exit (TQ.then_exit (TQ.loop_exit (TQ.block_hit (TQ.then (TC.seq (TC.region (TL.as rfl rfl (TL.nil (TQ.then (TC.ret ?_))))))))))
   refine ret1 rfl rfl (fun w' hp => ?_)
   exact ⟨by rw [decide_eq_true (take_eq_allZ htk (by omega) (by omega))], hp.kp⟩

theorem wapplied_calls (e : List Part) (s : ByteArray) (v : Value) (hss : s.size ≤ 70368744177664) (w : World) (hT : Tabs w) (hs : ∀ p ∈ e, p.text.size < 9223372036854775807) (hv : RdRow w v 3 e.length (encs e)) :
    Calls Tryd.prog 54 (List.toArray [v, .string s]) w fun e' w' => e' = .returned (.string (applyF e s)) ∧ Kp NoB w w' := by
 have hlen : e.length ≤ 9223372036854775807 := by obtain ⟨_, A, c, _, h1, h2, _⟩ := hv; simp only [maxLen] at h2; omega
 refine calls_start Tryd.func54 rfl rfl rfl (Hp.i1 (r := .rd v 3 e.length (encs e)) hv) ?_
 refine TC.seq (TC.region (TL.as rfl rfl (TL.nil (TQ.then (TC.seq (TC.region (TL.mv rfl rfl (TL.mv rfl rfl (TL.callq rfl en_81 rfl (fun w2 hp => apply_calls e s v hss w2 (hT.kp hp.kp) hs (rd0 _ _ _ hp)) (TL.mv rfl rfl (TL.opP rfl (op_extract rfl rfl) (TL.opP rfl (op_extract rfl rfl) (TL.as rfl rfl (TL.as rfl rfl (TL.nil (TQ.then (TC.seq (TC.region (TL.mv rfl rfl (TL.as rfl rfl (TL.nil (TQ.then (TC.ret ?_)))))))))))))))))))))))
 refine ret1 rfl rfl (fun w' hp => ?_)
 exact ⟨rfl, hp.kp⟩

/-- A pattern that was compiled, with all that is wanted of it. -/
theorem cmp_use {s : ByteArray} {rs : List Res} {v : Value} {i e : Int} (h : CmpRes s rs v i e) {α : Type} {f : Nd → Nat → α} {d x : α} (hm : (match cmpF s with | .ok t _ g => f t g | .err _ _ => d) = x) (hd : d ≠ x) : ∃ t g, e = 0 ∧ f t g = x ∧ PgG (progF t) g ∧ (progF t).length ≤ 3000 ∧ g ≤ 200 ∧ PgIn rs v (progF t) g := by
  unfold CmpRes at h
  cases hc : cmpF s with
  | err e' j => rw [hc] at hm; exact absurd hm hd
  | ok t j g =>
    rw [hc] at h hm
    obtain ⟨a, b, c⟩ := cmp_ok hc
    exact ⟨t, g, h.1, hm, a, b, c, h.2.2⟩
theorem cmp_bad {s : ByteArray} {rs : List Res} {v : Value} {i e : Int} (h : CmpRes s rs v i e) {e0 : Int} {j0 : Nat} (hm : (match cmpF s with | .ok _ _ _ => ((0 : Int), (0 : Nat)) | .err e j => (e, j)) = (e0, j0)) (he : e0 ≠ 0) : e = e0 ∧ i = j0 := by
  unfold CmpRes at h
  cases hc : cmpF s with
  | ok t j g => rw [hc] at hm; cases hm; exact absurd rfl he
  | err e' j => rw [hc] at h hm; cases hm; exact ⟨h.1, h.2.2.1⟩
end Go.SK
