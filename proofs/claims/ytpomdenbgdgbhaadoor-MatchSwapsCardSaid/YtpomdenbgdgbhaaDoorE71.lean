/- Walks: layer 12, the first place, all places. -/
import Derived.Test.YtpomdenbgdgbhaaDoorE70
set_option linter.unusedVariables false
set_option linter.unusedSimpArgs false
set_option maxRecDepth 100000
namespace Go.SK
open Go Go.RowKit Go.Proofs
variable {S : Nat → Prop} {w0 : World} {F L : List Res}
theorem neq_nil_ints (m : Nat) (A : Option Addr) (c : Nat) (w : World) : (binOp .neq 29 (.slice A m c) (.slice none 0 0)).run Tryd.prog w = .ok (.bool (decide (A ≠ none))) w := by
  cases A with
  | none => kernel_rfl
  | some a => kernel_rfl
section
variable {n : Nat} {l : FrL} {dst : Option Tmp} {ty t' : TypeId} {pos : String} {af : Array Edge} {gd : Option (Nat × Bool)} {x : Operand} {rs : List Res} {fd : Option (List Int)} {v : Value}
theorem FdOk.shape (h : FdOk rs fd v) : ∃ A m c, v = .slice A m c ∧ (A = none ↔ fd = none) := by
  cases hf : fd with
  | none => exact ⟨none, 0, 0, h.no hf, by simp⟩
  | some u => obtain ⟨_, ad, m, c, e⟩ := h.yes u hf; exact ⟨some ad, m, c, e, by simp⟩
theorem op_neqFd (hx : evO l x = some v) (h : FdOk rs fd v) : OpP Tryd.prog n l ⟨dst, .binOp .neq 29 x (.const (.slice none 0 0)) t', ty, pos, af, gd⟩ (.bool (decide (fd ≠ none))) := fun a w ha => by
  obtain ⟨A, m, c, rfl, hA⟩ := h.shape
  have hg : (eqGuard .neq 29 x (.const (.slice none 0 0)) (.slice A m c) (.slice none 0 0)).run Tryd.prog w = .ok () w := by simp [eqGuard]
  have hc : a.eval (.const (.slice none 0 0)) = .slice none 0 0 := rfl
  have hd : decide (A ≠ none) = decide (fd ≠ none) := decide_eq_decide.2 (not_congr hA)
  simp only [execOp, ha.eval hx, hc, Sem.run_bind, hg, Result.andThen_ok]
  rw [neq_nil_ints m A c w]
  simp only [Result.andThen_ok, hd]; rfl
theorem op_eqFd (hx : evO l x = some v) (h : FdOk rs fd v) : OpP Tryd.prog n l ⟨dst, .binOp .eql 29 x (.const (.slice none 0 0)) t', ty, pos, af, gd⟩ (.bool (decide (fd = none))) := fun a w ha => by
  obtain ⟨A, m, c, rfl, hA⟩ := h.shape
  have hg : (eqGuard .eql 29 x (.const (.slice none 0 0)) (.slice A m c) (.slice none 0 0)).run Tryd.prog w = .ok () w := by simp [eqGuard]
  have hc : a.eval (.const (.slice none 0 0)) = .slice none 0 0 := rfl
  have hd : decide (A = none) = decide (fd = none) := decide_eq_decide.2 hA
  simp only [execOp, ha.eval hx, hc, Sem.run_bind, hg, Result.andThen_ok]
  rw [eq_nil_ints m A c w]
  simp only [Result.andThen_ok, hd]; rfl
end
theorem txF_len (s : ByteArray) : (txF s).length ≤ 4096 := by
  unfold txF
  split
  · rename_i h
    by_cases hv : valid s = false
    · rw [txE_a hv] at h; cases h
    · by_cases hl : 4096 < (dec s).length
      · rw [txE_b (by simpa using hv) hl] at h; cases h
      · omega
  · exact Nat.zero_le _
def fdE (s : ByteArray) (n : Int) : Int := if txE s ≠ 0 then txE s else if n < 0 ∨ ((txF s).length : Int) < n then 1 else 0
def fdF (pg : List StP) (G : Nat) (s : ByteArray) (n : Int) : Option (List Int) := if fdE s n ≠ 0 then none else mfindF pg G (txF s) n.toNat
theorem fdE_a {s : ByteArray} {n : Int} (h : txE s ≠ 0) : fdE s n = txE s := if_pos h
theorem fdE_b {s : ByteArray} {n : Int} (h : ¬ txE s ≠ 0) (h2 : n < 0 ∨ ((txF s).length : Int) < n) : fdE s n = 1 := (if_neg h).trans (if_pos h2)
theorem fdE_c {s : ByteArray} {n : Int} (h : ¬ txE s ≠ 0) (h2 : ¬ (n < 0 ∨ ((txF s).length : Int) < n)) : fdE s n = 0 := (if_neg h).trans (if_neg h2)
theorem fdF_no {pg : List StP} {G : Nat} {s : ByteArray} {n : Int} (h : fdE s n ≠ 0) : fdF pg G s n = none := if_pos h
theorem fdF_is {pg : List StP} {G : Nat} {s : ByteArray} {n : Int} (h : fdE s n = 0) : fdF pg G s n = mfindF pg G (txF s) n.toNat := if_neg (fun e => e h)
theorem FdOk.none_ (rs : List Res) : FdOk rs none nilS := ⟨rfl, fun _ => rfl, fun v hv => by cases hv⟩
theorem find_hit {pg : List StP} {G : Nat} {tx : List Int} {j : Nat} (hj : j ≤ tx.length) (h : fromF pg G tx j ≠ none) : findGo pg G tx (tx.length + 1 - j) j = fromF pg G tx j := by
  rw [show tx.length + 1 - j = (tx.length - j) + 1 by omega, findGo]
  cases hf : fromF pg G tx j with
  | none => exact absurd hf h
  | some v => rfl
theorem find_miss {pg : List StP} {G : Nat} {tx : List Int} {j : Nat} (hj : j ≤ tx.length) (h : fromF pg G tx j = none) : findGo pg G tx (tx.length + 1 - j) j = findGo pg G tx (tx.length + 1 - (j + 1)) (j + 1) := by
  rw [show tx.length + 1 - j = (tx.length + 1 - (j + 1)) + 1 by omega, findGo, h]
theorem mfind_x (pg : List StP) (G : Nat) (rs : List Res) (ms : List MS) (lv : Value) (pa : Nat) (hG : PgG pg G) (hpgm : ms.map Prod.fst = pg) (hmok : ∀ m ∈ ms, MsOk rs m) (hpat : Res.blk pa (.cells [lv, .int .i64 (G : Int), .bool true].toArray 81 (0, 0)) ∈ rs) (hstp : Res.rd lv 5 ms.length (msC ms) ∈ rs) (hpl : pg.length ≤ 3000) (hG2 : G ≤ 200) (hT : tabs ∈ F) (s : ByteArray) (n : Int) (hs : s.size ≤ 70368744177664) :
    CallX Tryd.prog 50 [ptrV pa, .string s, .int .i64 n] S w0 (fz rs :: F) (fun u L' => ∃ rs' v', u = .tuple #[v', .int .i64 (fdE s n)] ∧ rs ⊆ rs' ∧ FdOk rs' (fdF pg G s n) v' ∧ L' = fz rs' :: F) := by
 intro w hp
 have htl := txF_len s
 refine calls_start Tryd.func50 rfl rfl rfl (hp) ?_
 refine TC.seq (TC.region (TL.as rfl rfl (TL.as rfl rfl (TL.nil (TQ.then (TC.seq (TC.seq (TC.region (TL.mv rfl rfl (TL.opP rfl (op_eqPtr rfl (pat_eqo _)) (TL.mv rfl rfl (TL.gT rfl rfl (TL.mv rfl rfl (TL.gT rfl rfl (TL.opP rfl (op_nilCheck rfl) (TL.gT rfl rfl (TL.opP rfl (op_field fld_match_Pattern_made rfl) (TL.gT rfl rfl (TL.opV rfl (op_loadB ts_bool rfl (bkb_fz m0 hpat) rfl) (TL.gT rfl rfl (TL.opP rfl (op_not rfl rfl) (TL.opP rfl (by first | exact op_pickT rfl rfl | exact op_pickF rfl rfl) (TL.nil (TQ.then ?_))))))))))))))))))))))))
 refine TC.sp rfl (fun c1 => ?_) (fun c1 => ?_)
 ·cases c1
 ·refine TC.skip (TQ.then (TC.seq (TC.region (TL.opP rfl (op_move rfl) ?_))))
  refine TL.opX rfl (OpX.callX en_88 rfl (mrunes_x s hs (.tail _ hT))) ?_; rintro _ _ ⟨tv1, rfl, rfl⟩
  refine TL.mv rfl rfl (TL.opP rfl (op_extract rfl rfl) (TL.opP rfl (op_extract rfl rfl) (TL.as rfl rfl (TL.as rfl rfl (TL.nil (TQ.then (TC.seq (TC.seq (TC.region (TL.mv rfl rfl (TL.opP rfl (op_neq rfl rfl) (TL.nil (TQ.then ?_)))))))))))))
  refine TC.sp rfl (fun c2 => ?_) (fun c2 => ?_)
  ·refine TC.seq (TC.region (TL.mv rfl rfl (TL.as rfl rfl (TL.as rfl rfl (TL.nil (TQ.then (TC.ret (TQ.then_ret ?_))))))))
   refine ret2 rfl rfl rfl (fun w' hp => ?_)
   exact ⟨_, _, rfl, ⟨rs, nilS, by (rw [fdE_a c2]; first | done | rfl), fun _ h => h, by (rw [fdF_no (by rw [fdE_a c2]; exact c2)]; exact .none_ rs), rfl⟩, (hp.tail)⟩
  ·refine TC.skip (TQ.then (TC.seq (TC.seq (TC.region (TL.mv rfl rfl (TL.opP rfl (op_lss rfl rfl) (TL.opP rfl (op_move rfl) ?_)))))))
   refine TL.sp (fun c3 => ?_) (fun c3 => ?_)
   ·refine TL.gFt rfl rfl rfl (TL.gFt rfl rfl rfl (TL.gFt rfl rfl rfl (TL.gFt rfl rfl rfl (TL.opP rfl (op_pickT rfl rfl) (TL.nil (TQ.then (TC.condT rfl (TC.seq (TC.region (TL.as rfl rfl (TL.as rfl rfl (TL.nil (TQ.then (TC.ret (TQ.then_ret ?_)))))))))))))))
    refine ret2 rfl rfl rfl (fun w' hp => ?_)
    exact ⟨_, _, rfl, ⟨rs, nilS, by rw [fdE_b c2 (by omega)], fun _ h => h, by (rw [fdF_no (by rw [fdE_b c2 (by omega)]; decide)]; exact .none_ rs), rfl⟩, (hp.tail)⟩
   ·refine TL.gT rfl rfl (TL.mv rfl rfl (TL.gT rfl rfl (TL.mv rfl rfl (TL.gT rfl rfl (TL.opV rfl (op_lenV rfl un_sl_int32 rfl rd0) (TL.gT rfl rfl (TL.opP rfl (op_gtr rfl rfl) (TL.opP rfl (op_pickF rfl rfl) (TL.nil (TQ.then ?_))))))))))
    refine TC.sp rfl (fun c4 => ?_) (fun c4 => ?_)
    ·refine TC.seq (TC.region (TL.as rfl rfl (TL.as rfl rfl (TL.nil (TQ.then (TC.ret (TQ.then_ret ?_)))))))
     refine ret2 rfl rfl rfl (fun w' hp => ?_)
     exact ⟨_, _, rfl, ⟨rs, nilS, by rw [fdE_b c2 (by omega)], fun _ h => h, by (rw [fdF_no (by rw [fdE_b c2 (by omega)]; decide)]; exact .none_ rs), rfl⟩, (hp.tail)⟩
    ·obtain ⟨n, rfl⟩ : ∃ k : Nat, n = k := ⟨n.toNat, by omega⟩
     have hE0 := fdE_c (s := s) (n := (n : Int)) c2 (by omega)
     have hF0 : fdF pg G s (n : Int) = mfindF pg G (txF s) n := (fdF_is hE0).trans (by rw [Int.toNat_natCast])
     refine TC.skip (TQ.then (TC.seq (TC.seq (TC.region (TL.mv rfl rfl (TL.as rfl rfl (TL.nil (TQ.then (TC.block (TC.loop (ι := Nat × List Res) (fun (j, rs1) => [(0, ptrV pa), (8, tv1), (10, .int .i64 ((j : Nat) : Int))]) (fun (j, rs1) => .rd tv1 1 (txF s).length ((txF s).map (Value.int .i32)) :: fz rs1 :: F) (fun (j, rs1) => n ≤ j ∧ j ≤ (txF s).length + 1 ∧ rs ⊆ rs1 ∧ findGo pg G (txF s) ((txF s).length + 1 - j) j = mfindF pg G (txF s) n) (fun (j, rs1) => (txF s).length + 1 - j) ((n, rs)) (⟨Nat.le_refl _, by omega, fun _ h => h, rfl⟩) ⟨rfl, rfl, rfl, trivial⟩ (fun _ h => h) ?_))))))))))
     rintro ⟨j, rs1⟩ ⟨hj0, hj1, hsub, hfg⟩
     show TC _ _ _ _ [(0, ptrV pa), (8, tv1), (10, .int .i64 ((j : Nat) : Int))] _ _ (.rd tv1 1 (txF s).length ((txF s).map (Value.int .i32)) :: fz rs1 :: F)
     refine TC.seq (TC.seq (TC.region (TL.mv rfl rfl (TL.mv rfl rfl (TL.opV rfl (op_lenV rfl un_sl_int32 rfl rd0) (TL.opP rfl (op_leq rfl rfl) (TL.nil (TQ.then ?_))))))))
     refine TC.sp rfl (fun c5 => ?_) (fun c5 => ?_)
     ·refine TC.skip (TQ.then (TC.seq (TC.block (TC.seq (TC.region (TL.mv rfl rfl (TL.mv rfl rfl (TL.mv rfl rfl (TL.hp (fun _ h => h.pick1) ?_)))))))))
      refine TL.opX rfl (OpX.callX en_89 rfl (mfrom_x pg G (txF s) rs1 ms lv pa tv1 j hG hpgm (fun m hm => (hmok m hm).mono hsub) (hsub hpat) (hsub hstp) rd0 htl hpl hG2 (by omega))) ?_; rintro vf2 _ ⟨rsA2, _, rfl, hsA2, hA2, rfl⟩
      refine TL.as rfl rfl (TL.nil (TQ.then (TC.seq (TC.region (TL.mv rfl rfl (TL.opP rfl (op_neqFd rfl hA2) (TL.nil (TQ.then ?_))))))))
      refine TC.sp rfl (fun c6 => ?_) (fun c6 => ?_)
      ·refine TC.seq (TC.region (TL.mv rfl rfl (TL.as rfl rfl (TL.as rfl rfl (TL.nil (TQ.then (TC.ret (TQ.block_ret (TQ.then_ret (TQ.loop_ret (TQ.block_ret (TQ.then_ret ?_))))))))))))
       refine ret2 rfl rfl rfl (fun w' hp => ?_)
       exact ⟨_, _, rfl, ⟨rsA2, _, by rw [hE0], fun x hx => hsA2 (hsub hx), by (rw [hF0, ← hfg, find_hit (by omega) c6]; exact hA2), rfl⟩, (hp.drop1)⟩
      ·refine TC.skip (TQ.block_normal (TQ.then (TC.region (TL.mv rfl rfl (TL.opP rfl (op_add (r := ((j + 1 : Nat) : Int)) rfl rfl (by omega) (by omega) (by omega)) (TL.as rfl rfl (TL.nil ?_)))))))
       exact TQ.round (j + 1, rsA2) (⟨by omega, by omega, fun x hx => hsA2 (hsub hx), by rw [← find_miss (by omega) (Classical.not_not.1 c6), hfg]⟩) (by show _ - (j + 1) < _ - j; omega) ⟨rfl, rfl, rfl, trivial⟩ (fun _ h => h.pick1)
     ·refine TC.exit (TQ.then_exit (TQ.loop_exit (TQ.block_hit (TQ.then (TC.seq (TC.region (TL.as rfl rfl (TL.as rfl rfl (TL.nil (TQ.then (TC.ret ?_)))))))))))
      refine ret2 rfl rfl rfl (fun w' hp => ?_)
      exact ⟨_, _, rfl, ⟨rs1, nilS, by rw [hE0], hsub, by (rw [hF0, ← hfg, show (txF s).length + 1 - j = 0 by omega]; exact .none_ rs1), rfl⟩, (hp.tail)⟩

end Go.SK
