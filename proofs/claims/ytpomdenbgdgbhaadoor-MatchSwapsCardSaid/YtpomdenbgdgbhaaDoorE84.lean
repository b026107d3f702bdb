/- Layer 12: how many steps a part has, as the document reckons. -/
import Derived.Test.YtpomdenbgdgbhaaDoorE83
set_option linter.unusedVariables false
set_option linter.unusedSimpArgs false
set_option maxRecDepth 100000
namespace Go.SK
open Go Go.RowKit Go.Proofs
variable {S : Nat → Prop} {w0 : World} {F L : List Res}
def sumC : List Int → Int → Int
  | [], n => n
  | x :: r, n => sumC r (cap (n + x))
def stepFin (k : Int) (len : Nat) (lo hi n : Int) : Int :=
  if k = 1 ∨ k = 2 ∨ k = 3 then cap 1 else if k = 5 then cap (n + 2 * ((len : Int) - 1)) else if k = 6 then cap (lo * n + (if hi < 0 then n + 2 else (hi - lo) * (n + 1))) else if k = 7 then cap (n + 2) else cap n
theorem min_cap (x : Int) : (if (3000 : Int) < x then 3000 else x) = cap x := by unfold cap; split <;> split <;> omega
section
variable {k lo hi n : Int} {len : Nat}
theorem sf_1 (h : k = 1 ∨ k = 2 ∨ k = 3) : stepFin k len lo hi n = cap 1 := if_pos h
theorem sf_5 (h : k = 5) : stepFin k len lo hi n = cap (n + 2 * ((len : Int) - 1)) := (if_neg (by omega)).trans (if_pos h)
theorem sf_6a (h : k = 6) (h2 : hi < 0) : stepFin k len lo hi n = cap (lo * n + n + 2) := (if_neg (by omega)).trans ((if_neg (by omega)).trans ((if_pos h).trans (by rw [if_pos h2, Int.add_assoc])))
theorem sf_6b (h : k = 6) (h2 : ¬ hi < 0) : stepFin k len lo hi n = cap (lo * n + (hi - lo) * (n + 1)) := (if_neg (by omega)).trans ((if_neg (by omega)).trans ((if_pos h).trans (by rw [if_neg h2])))
theorem sf_7 (h : k = 7) : stepFin k len lo hi n = cap (n + 2) := (if_neg (by omega)).trans ((if_neg (by omega)).trans ((if_neg (by omega)).trans (if_pos h)))
theorem sf_0 (h1 : ¬ k = 1) (h2 : ¬ k = 2) (h3 : ¬ k = 3) (h5 : ¬ k = 5) (h6 : ¬ k = 6) (h7 : ¬ k = 7) : stepFin k len lo hi n = cap n := (if_neg (by omega)).trans ((if_neg h5).trans ((if_neg h6).trans (if_neg h7)))
end
theorem xsteps_x (p : Pc) (ps : List Pc) (xs : List Int) {rs : List Res} (hkv : Rdb F p.kv 8 ps.length (encs ps)) (hxl : xs.length = ps.length) (hpl : ps.length ≤ 1000) (hbd : ∀ x ∈ xs, 0 ≤ x ∧ x ≤ 3000) (h6 : p.k = 6 → 0 ≤ p.lo ∧ p.lo ≤ 100 ∧ p.hi ≤ 100 ∧ (p.hi < 0 ∨ p.lo ≤ p.hi)) (hz : fz rs ∈ F) (ih : ∀ j, j < ps.length → ∀ (S : Nat → Prop) (w0 : World) (F : List Res), fz rs ∈ F → CallX Tryd.prog 86 [Pc.val (ps.getD j default)] S w0 F (fun u L' => u = .int .i64 (xs.getD j 0) ∧ L' = F)) :
    CallX Tryd.prog 86 [Pc.val p] S w0 (F) (fun u L' => u = .int .i64 (stepFin p.k ps.length p.lo p.hi (sumC xs 0)) ∧ L' = F) := by
 intro w hp
 refine calls_start Tryd.func86 rfl rfl rfl (hp) ?_
 refine TC.seq (TC.region ?_)
 refine TL.opX rfl (OpX.box (cs := (Pc.cs p)) rfl rfl) ?_; rintro _ _ ⟨g1, rfl, rfl⟩
 refine TL.as rfl rfl (TL.nil (TQ.then (TC.seq (TC.region (TL.as rfl rfl (TL.nil (TQ.then (TC.seq (TC.seq (TC.region (TL.opP rfl (op_field fld_sealskinref12_Part_Kids rfl) (TL.opV rfl (op_load ts_sl_sealskinref12_Part rfl m0 rfl) (TL.opV rfl (op_lenV rfl un_sl_sealskinref12_Part rfl hkv.cons) (TL.mv rfl rfl (TL.nil (TQ.then (TC.block (TC.loop (ι := Nat × Int) (fun (k, n) => [(1, .pointer (some ⟨g1, 0, none⟩)), (3, .int .i64 n), (8, p.kv), (9, .int .i64 (ps.length : Int)), (10, .int .i64 (k : Int))]) (fun (k, n) => .blk g1 (.cells (Pc.cs p).toArray 130 (0, 0)) :: F) (fun (k, n) => k ≤ ps.length ∧ 0 ≤ n ∧ n ≤ 3000 ∧ sumC (xs.drop k) n = sumC xs 0) (fun (k, n) => ps.length - k) ((0, 0)) (⟨Nat.zero_le _, by omega, by omega, rfl⟩) ⟨rfl, rfl, rfl, rfl, rfl, trivial⟩ (fun _ h => h) ?_))))))))))))))))))
 rintro ⟨k, n⟩ ⟨hk, hn0, hn1, hgo⟩
 show TC _ _ _ _ [(1, .pointer (some ⟨g1, 0, none⟩)), (3, .int .i64 n), (8, p.kv), (9, .int .i64 (ps.length : Int)), (10, .int .i64 (k : Int))] _ _ (.blk g1 (.cells (Pc.cs p).toArray 130 (0, 0)) :: F)
 refine TC.seq (TC.region (TL.opP rfl (op_lss rfl rfl) (TL.nil (TQ.then (TC.seq ?_)))))
 refine TC.sp rfl (fun c1 => ?_) (fun c1 => ?_)
 ·have hkl : k < ps.length := by omega
  obtain ⟨q, hpk⟩ : ∃ q, ps.getD k default = q := ⟨_, rfl⟩
  have hd : xs.drop k = xs.getD k 0 :: xs.drop (k + 1) := by rw [List.drop_eq_getElem_cons (by omega), List.getD_eq_getElem?_getD, List.getElem?_eq_getElem (by omega)]; rfl
  have hx := hbd (xs.getD k 0) (getD_mem' (by omega))
  have hih := ih k hkl
  rw [hpk] at hih
  have hcp : 0 ≤ cap (n + xs.getD k 0) ∧ cap (n + xs.getD k 0) ≤ 3000 := by unfold cap; split <;> omega
  refine TC.skip (TQ.then (TC.seq (TC.block (TC.seq (TC.region (TL.opV rfl (op_index tsl_sealskinref12_Part rfl hkv.cons rfl (by omega) (by omega)) (TL.opV rfl (op_loadRS tst_sealskinref12_Part rfl hkv.cons (cs := Pc.cs q) rfl (lkS hkl hpk) (by decide)) ?_)))))))
  refine TL.opX rfl (OpX.alloc tz_sealskinref12_Part rfl) ?_; rintro _ _ ⟨g5, rfl, rfl⟩
  refine TL.opX0 (OpX.storeS tst_sealskinref12_Part rfl rfl rfl rfl rfl (nc_one (Pc.hs _) (Pc.hk _))) ?_; rintro _ _ rfl
  refine TL.nil (TQ.then (TC.region (TL.mv rfl rfl (TL.opV rfl (op_loadS tst_sealskinref12_Part rfl m0 rfl) ?_))))
  refine TL.opX rfl (OpX.callX en_86 rfl (hih _ _ _ (.tail _ (.tail _ hz)))) ?_; rintro _ _ ⟨rfl, rfl⟩
  refine TL.opP rfl (op_add rfl rfl rfl (by omega) (by omega)) (TL.opP rfl (op_min rfl) ?_)
  rw [min_cap]
  refine TL.as rfl rfl (TL.nil (TQ.block_normal (TQ.then (TC.region (TL.opP rfl (op_add rfl rfl rfl (by omega) (by omega)) (TL.mv rfl rfl (TL.nil ?_)))))))
  exact TQ.round (k + 1, cap (n + xs.getD k 0)) (by (try dsimp only); exact ⟨by omega, hcp.1, hcp.2, by rw [← hgo, hd]; rfl⟩) (by show ps.length - (k + 1) < ps.length - k; omega) ⟨rfl, rfl, rfl, rfl, rfl, trivial⟩ (fun _ h => h.tail)
 ·have hn : sumC xs 0 = n := by rw [← hgo, List.drop_of_length_le (by omega)]; rfl
  refine TC.exit (TQ.then_exit (TQ.loop_exit (TQ.block_hit (TQ.then (TC.seq (TC.seq (TC.region (TL.opP rfl (op_field fld_sealskinref12_Part_Kind rfl) (TL.opV rfl (op_load ts_int rfl m0 rfl) (TL.nil (TQ.then (TC.block (TC.seq (TC.seq (TC.region (TL.opP rfl (op_eql rfl rfl) (TL.as rfl rfl (TL.nil (TQ.then ?_)))))))))))))))))))
  refine TC.sp rfl (fun c2 => ?_) (fun c2 => ?_)
  ·refine TC.skip (TQ.then (TC.condT rfl (TC.region (TL.as rfl rfl (TL.nil (TQ.block_normal (TQ.then (TC.seq (TC.region (TL.mv rfl rfl (TL.opP rfl (op_min rfl) ?_)))))))))))
   rw [min_cap]
   refine TL.as rfl rfl (TL.nil (TQ.then (TC.ret ?_)))
   refine ret1 rfl rfl (fun w' hp => ?_)
   exact ⟨_, _, rfl, ⟨by rw [hn, sf_1 (.inl c2)], rfl⟩, (hp.tail)⟩
  ·refine TC.seq (TC.region (TL.opP rfl (op_eql rfl rfl) (TL.as rfl rfl (TL.nil (TQ.then ?_)))))
   refine TC.sp rfl (fun c3 => ?_) (fun c3 => ?_)
   ·refine TC.skip (TQ.then (TC.condT rfl (TC.region (TL.as rfl rfl (TL.nil (TQ.block_normal (TQ.then (TC.seq (TC.region (TL.mv rfl rfl (TL.opP rfl (op_min rfl) ?_)))))))))))
    rw [min_cap]
    refine TL.as rfl rfl (TL.nil (TQ.then (TC.ret ?_)))
    refine ret1 rfl rfl (fun w' hp => ?_)
    exact ⟨_, _, rfl, ⟨by rw [hn, sf_1 (.inr (.inl c3))], rfl⟩, (hp.tail)⟩
   ·refine TC.region (TL.opP rfl (op_eql rfl rfl) (TL.as rfl rfl (TL.nil (TQ.then ?_))))
    refine TC.sp rfl (fun c4 => ?_) (fun c4 => ?_)
    ·refine TC.region (TL.as rfl rfl (TL.nil (TQ.block_normal (TQ.then (TC.seq (TC.region (TL.mv rfl rfl (TL.opP rfl (op_min rfl) ?_))))))))
     rw [min_cap]
     refine TL.as rfl rfl (TL.nil (TQ.then (TC.ret ?_)))
     refine ret1 rfl rfl (fun w' hp => ?_)
     exact ⟨_, _, rfl, ⟨by rw [hn, sf_1 (.inr (.inr c4))], rfl⟩, (hp.tail)⟩
    ·refine TC.seq (TC.region (TL.opP rfl (op_eql rfl rfl) (TL.as rfl rfl (TL.nil (TQ.then ?_)))))
     refine TC.sp rfl (fun c5 => ?_) (fun c5 => ?_)
     ·refine TC.region (TL.mv rfl rfl (TL.opP rfl (op_field fld_sealskinref12_Part_Kids rfl) (TL.opV rfl (op_load ts_sl_sealskinref12_Part rfl m0 rfl) (TL.opV rfl (op_lenV rfl un_sl_sealskinref12_Part rfl hkv.cons) (TL.opP rfl (op_sub rfl rfl rfl (by omega) (by omega)) (TL.opP rfl (op_mul rfl rfl rfl (by omega) (by omega)) (TL.opP rfl (op_add rfl rfl rfl (by omega) (by omega)) (TL.as rfl rfl (TL.nil (TQ.block_normal (TQ.then (TC.seq (TC.region (TL.mv rfl rfl (TL.opP rfl (op_min rfl) ?_)))))))))))))))
      rw [min_cap]
      refine TL.as rfl rfl (TL.nil (TQ.then (TC.ret ?_)))
      refine ret1 rfl rfl (fun w' hp => ?_)
      exact ⟨_, _, rfl, ⟨by rw [hn, sf_5 c5], rfl⟩, (hp.tail)⟩
     ·refine TC.seq (TC.region (TL.opP rfl (op_eql rfl rfl) (TL.as rfl rfl (TL.nil (TQ.then ?_)))))
      refine TC.sp rfl (fun c6 => ?_) (fun c6 => ?_)
      ·obtain ⟨q1, q2, q3, q4⟩ := h6 c6
       have hm0 : 0 ≤ p.lo * n := Int.mul_nonneg q1 hn0
       have hm1 : p.lo * n ≤ 100 * 3000 := Int.mul_le_mul q2 hn1 hn0 (by decide)
       refine TC.seq (TC.region (TL.mv rfl rfl (TL.as rfl rfl (TL.nil (TQ.then (TC.seq (TC.region (TL.opP rfl (op_field fld_sealskinref12_Part_From rfl) (TL.opV rfl (op_load ts_int rfl m0 rfl) (TL.mv rfl rfl (TL.opP rfl (op_mul rfl rfl rfl (by omega) (by omega)) (TL.as rfl rfl (TL.nil (TQ.then (TC.seq (TC.region (TL.opP rfl (op_field fld_sealskinref12_Part_To rfl) (TL.opV rfl (op_load ts_int rfl m0 rfl) (TL.opP rfl (op_lss rfl rfl) (TL.nil (TQ.then ?_)))))))))))))))))))))
       refine TC.sp rfl (fun c7 => ?_) (fun c7 => ?_)
       ·refine TC.region (TL.mv rfl rfl (TL.mv rfl rfl (TL.opP rfl (op_add rfl rfl rfl (by omega) (by omega)) (TL.opP rfl (op_add rfl rfl rfl (by omega) (by omega)) (TL.as rfl rfl (TL.nil (TQ.block_normal (TQ.then (TC.seq (TC.region (TL.mv rfl rfl (TL.opP rfl (op_min rfl) ?_))))))))))))
        rw [min_cap]
        refine TL.as rfl rfl (TL.nil (TQ.then (TC.ret ?_)))
        refine ret1 rfl rfl (fun w' hp => ?_)
        exact ⟨_, _, rfl, ⟨by rw [hn, sf_6a c6 c7], rfl⟩, (hp.tail)⟩
       ·have hm2 : 0 ≤ (p.hi - p.lo) * (n + 1) := Int.mul_nonneg (by omega) (by omega)
        have hm3 : (p.hi - p.lo) * (n + 1) ≤ 100 * 3001 := Int.mul_le_mul (by omega) (by omega) (by omega) (by decide)
        refine TC.region (TL.mv rfl rfl (TL.opP rfl (op_field fld_sealskinref12_Part_To rfl) (TL.opV rfl (op_load ts_int rfl m0 rfl) (TL.opP rfl (op_field fld_sealskinref12_Part_From rfl) (TL.opV rfl (op_load ts_int rfl m0 rfl) (TL.opP rfl (op_sub rfl rfl rfl (by omega) (by omega)) (TL.mv rfl rfl (TL.opP rfl (op_add rfl rfl rfl (by omega) (by omega)) (TL.opP rfl (op_mul rfl rfl rfl (by omega) (by omega)) (TL.opP rfl (op_add rfl rfl rfl (by omega) (by omega)) (TL.as rfl rfl (TL.nil (TQ.block_normal (TQ.then (TC.seq (TC.region (TL.mv rfl rfl (TL.opP rfl (op_min rfl) ?_))))))))))))))))))
        rw [min_cap]
        refine TL.as rfl rfl (TL.nil (TQ.then (TC.ret ?_)))
        refine ret1 rfl rfl (fun w' hp => ?_)
        exact ⟨_, _, rfl, ⟨by rw [hn, sf_6b c6 c7], rfl⟩, (hp.tail)⟩
      ·refine TC.seq (TC.region (TL.opP rfl (op_eql rfl rfl) (TL.as rfl rfl (TL.nil (TQ.then ?_)))))
       refine TC.sp rfl (fun c8 => ?_) (fun c8 => ?_)
       ·refine TC.region (TL.mv rfl rfl (TL.opP rfl (op_add rfl rfl rfl (by omega) (by omega)) (TL.as rfl rfl (TL.nil (TQ.block_normal (TQ.then (TC.seq (TC.region (TL.mv rfl rfl (TL.opP rfl (op_min rfl) ?_))))))))))
        rw [min_cap]
        refine TL.as rfl rfl (TL.nil (TQ.then (TC.ret ?_)))
        refine ret1 rfl rfl (fun w' hp => ?_)
        exact ⟨_, _, rfl, ⟨by rw [hn, sf_7 c8], rfl⟩, (hp.tail)⟩
       ·refine TC.skip (TQ.block_normal (TQ.then (TC.seq (TC.region (TL.mv rfl rfl (TL.opP rfl (op_min rfl) ?_))))))
        rw [min_cap]
        refine TL.as rfl rfl (TL.nil (TQ.then (TC.ret ?_)))
        refine ret1 rfl rfl (fun w' hp => ?_)
        exact ⟨_, _, rfl, ⟨by rw [hn, sf_0 c2 c3 c4 c5 c6 c8], rfl⟩, (hp.tail)⟩

mutual
theorem sumC_is : ∀ (k : List Nd) (n : Int), stepsL k n = sumC (k.map stepsF) n
  | [], n => by rw [stepsL]; rfl
  | t :: r, n => by rw [stepsL, List.map_cons, sumC, sumC_is r]
end
theorem RNds.get {rs : List Res} : ∀ {k : List Nd} {ps : List Pc} (h : RNds rs k ps) (j : Nat), j < ps.length → RNd rs (k.getD j .bol) (ps.getD j default) ∧ k.getD j .bol ∈ k
  | [], ps, h, j, hj => by unfold RNds at h; subst h; simp at hj
  | t :: k, ps, h, j, hj => by
    unfold RNds at h
    obtain ⟨q, r, rfl, a, b⟩ := h
    cases j with
    | zero => exact ⟨a, .head _⟩
    | succ j => obtain ⟨x, y⟩ := RNds.get b j (by simpa using hj); exact ⟨x, .tail _ y⟩
def HStep (rs : List Res) (t : Nd) (p : Pc) : Prop := ∀ (S : Nat → Prop) (w0 : World) (F : List Res), fz rs ∈ F → CallX Tryd.prog 86 [Pc.val p] S w0 F (fun u L' => u = .int .i64 (stepsF t) ∧ L' = F)
theorem stepsF_bd {t : Nd} (h : NdOk 200 t) : 0 ≤ stepsF t ∧ stepsF t ≤ 3000 := by
  rw [stepsF_is t h]; unfold cap; split <;> omega
theorem rdb_nil8 (L : List Res) : Rdb L nilS 8 0 (encs ([] : List Pc)) := fun S w0 w h => ⟨by simp [encs], none, 0, rfl, Nat.le_refl _, Nat.zero_le _, by simp, by simp⟩
theorem hstep : ∀ (n : Nat) (rs : List Res) (t : Nd) (p : Pc), t.size ≤ n → n ≤ 1000 → RNd rs t p → NdOk 200 t → HStep rs t p
  | 0, rs, t, p, h, _, _, _ => by cases t <;> simp [Nd.size] at h <;> omega
  | n + 1, rs, t, p, h, hn, hR, hok => fun S w0 F hz => by
    have kids : ∀ (k : List Nd) (ps : List Pc), sizes k ≤ n → RNds rs k ps → (∀ x ∈ k, NdOk 200 x) → ∀ j, j < ps.length → HStep rs (k.getD j .bol) (ps.getD j default) := fun k ps hk hps hko j hj => by
      obtain ⟨a, b⟩ := hps.get j hj
      exact hstep n rs _ _ (by have := size_mem b; omega) (by omega) a (hko _ b)
    have bd : ∀ (k : List Nd), (∀ x ∈ k, NdOk 200 x) → ∀ x ∈ k.map stepsF, 0 ≤ x ∧ x ≤ 3000 := fun k hk x hx => by
      obtain ⟨y, hy, rfl⟩ := List.mem_map.1 hx; exact stepsF_bd (hk y hy)
    have ln : ∀ (k : List Nd), k.length ≤ sizes k := fun k => by
      induction k with
      | nil => exact Nat.le_refl _
      | cons a r ih => simp only [sizes, List.length_cons]; have : 1 ≤ a.size := by cases a <;> simp [Nd.size] <;> omega
                       omega
    have use : ∀ (k : List Nd) (ps : List Pc), sizes k ≤ n → RNds rs k ps → Rdb F p.kv 8 ps.length (encs ps) → (∀ x ∈ k, NdOk 200 x) → (p.k = 6 → 0 ≤ p.lo ∧ p.lo ≤ 100 ∧ p.hi ≤ 100 ∧ (p.hi < 0 ∨ p.lo ≤ p.hi)) → stepsF t = stepFin p.k ps.length p.lo p.hi (sumC (k.map stepsF) 0) →
        CallX Tryd.prog 86 [Pc.val p] S w0 F (fun u L' => u = .int .i64 (stepsF t) ∧ L' = F) := fun k ps hk hps hrd hko h6 he => by
      rw [he]
      have hl := hps.len
      refine xsteps_x p ps (k.map stepsF) hrd (by rw [List.length_map, hl]) (by have := ln k; omega) (bd k hko) h6 hz fun j hj S w0 F hz => ?_
      have := kids k ps hk hps hko j hj S w0 F hz
      have e : (k.map stepsF).getD j 0 = stepsF (k.getD j .bol) := by
        rw [List.getD_eq_getElem?_getD, List.getD_eq_getElem?_getD, List.getElem?_map, List.getElem?_eq_getElem (by omega)]; rfl
      rw [e]; exact this
    cases t with
    | cls neg sp =>
      unfold RNd at hR
      obtain ⟨a, _, b, _⟩ := hR
      exact use [] [] (Nat.zero_le _) RNds.nil (by rw [b]; exact rdb_nil8 F) (fun x hx => by cases hx) (fun h => by omega) (by rw [sf_1 (.inl a)]; rfl)
    | bol =>
      unfold RNd at hR
      obtain ⟨a, b⟩ := hR
      exact use [] [] (Nat.zero_le _) RNds.nil (by rw [b]; exact rdb_nil8 F) (fun x hx => by cases hx) (fun h => by omega) (by rw [sf_1 (.inr (.inl a))]; rfl)
    | eol =>
      unfold RNd at hR
      obtain ⟨a, b⟩ := hR
      exact use [] [] (Nat.zero_le _) RNds.nil (by rw [b]; exact rdb_nil8 F) (fun x hx => by cases hx) (fun h => by omega) (by rw [sf_1 (.inr (.inr a))]; rfl)
    | seq k =>
      unfold RNd at hR
      obtain ⟨a, ps, b, c⟩ := hR
      cases hok with
      | seq hk => exact use k ps (by simp only [Nd.size] at h; omega) c (rdb_fz hz b) hk (fun h => by omega) (by rw [sf_0 (by omega) (by omega) (by omega) (by omega) (by omega) (by omega), stepsF, sumC_is])
    | alt k =>
      unfold RNd at hR
      obtain ⟨a, ps, b, c⟩ := hR
      cases hok with
      | alt _ hk => exact use k ps (by simp only [Nd.size] at h; omega) c (rdb_fz hz b) hk (fun h => by omega) (by rw [sf_5 a, stepsF, sumC_is, c.len])
    | rep k lo hi lz =>
      unfold RNd at hR
      obtain ⟨a, hl, hh, _, q, b, c⟩ := hR
      cases hok with
      | rep hk h0 h1 h2 h3 =>
        subst hl hh
        refine use [k] [q] (by simp only [Nd.size] at h; simp only [sizes]; omega) (by unfold RNds; exact ⟨q, [], rfl, c, RNds.nil⟩) (rdb_fz hz b) (fun x hx => by rw [List.mem_singleton.1 hx]; exact hk) (fun _ => ⟨h0, h1, h2, h3⟩) ?_
        rw [stepsF, show sumC ([k].map stepsF) 0 = cap (0 + stepsF k) from rfl]
        by_cases hn : p.hi < 0
        · rw [sf_6a a hn, if_pos hn, Int.add_assoc]
        · rw [sf_6b a hn, if_neg hn]
    | grp k num =>
      unfold RNd at hR
      obtain ⟨a, hl, q, b, c⟩ := hR
      cases hok with
      | grp hk h0 h1 =>
        exact use [k] [q] (by simp only [Nd.size] at h; simp only [sizes]; omega) (by unfold RNds; exact ⟨q, [], rfl, c, RNds.nil⟩) (rdb_fz hz b) (fun x hx => by rw [List.mem_singleton.1 hx]; exact hk) (fun h => by omega) (by rw [sf_7 a, stepsF]; rfl)
end Go.SK
