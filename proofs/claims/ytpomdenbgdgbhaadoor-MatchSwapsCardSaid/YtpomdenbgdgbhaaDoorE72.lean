/- Walks: layer 12, all places. -/
import Derived.Test.YtpomdenbgdgbhaaDoorE71
set_option linter.unusedVariables false
set_option linter.unusedSimpArgs false
set_option maxRecDepth 100000
namespace Go.SK
open Go Go.RowKit Go.Proofs
variable {S : Nat → Prop} {w0 : World} {F L : List Res}
theorem fdE_q {s : ByteArray} {q : Nat} (h : q ≤ (txF s).length) : fdE s (q : Int) = txE s := by
  by_cases h1 : txE s ≠ 0
  · exact fdE_a h1
  · rw [fdE_c h1 (by omega)]; exact (Classical.not_not.1 h1).symm
theorem fdF_q {pg : List StP} {G : Nat} {s : ByteArray} {q : Nat} (h : q ≤ (txF s).length) (h1 : ¬ txE s ≠ 0) : fdF pg G s (q : Int) = mfindF pg G (txF s) q := by
  rw [fdF_is (by rw [fdE_q h]; exact Classical.not_not.1 h1), Int.toNat_natCast]
/-- What is found in memory. -/
abbrev AM := List Int × Value
def AmOk (rs : List Res) (x : AM) : Prop := x.2.oneCell' = true ∧ Res.rd x.2 1 x.1.length (ints x.1) ∈ rs
theorem AmOk.mono {rs rs' : List Res} {x : AM} (h : rs ⊆ rs') (hx : AmOk rs x) : AmOk rs' x := ⟨hx.1, h hx.2⟩
def allR (pg : List StP) (G : Nat) (s : ByteArray) : List (List Int) := if txE s ≠ 0 then [] else allF pg G (txF s)
structure AllI (pg : List StP) (G : Nat) (s : ByteArray) (rs rs1 : List Res) (q : Nat) (am : List AM) (av : Value) : Prop where
  sub : rs ⊆ rs1
  le : q ≤ (txF s).length
  ok : ∀ x ∈ am, AmOk rs1 x
  one : av.oneCell' = true
  len : am.length ≤ q
  no : txE s ≠ 0 → am = []
  eq : ¬ txE s ≠ 0 → am.map Prod.fst ++ allGo pg G (txF s) ((txF s).length + 1 - q) q = allF pg G (txF s)
theorem row_lenA {w : World} {v : Value} {e m : Nat} {am : List AM} (h : Hp S w0 w (.row v e 1 m (am.map Prod.snd) :: L)) : Hp S w0 w (.row v e 1 am.length (am.map Prod.snd) :: L) := by
  have h1 : w.ownsRow 0 e 1 v m (am.map Prod.snd) := h.at_ _ (.head _)
  have h2 : am.length = m := by have := h1.1; simpa using this
  rw [h2]; exact h
section
variable {pg : List StP} {G : Nat} {s : ByteArray} {rs rs1 rs2 : List Res} {q i j : Nat} {am : List AM} {av av' fv : Value} {v : List Int}
theorem AllI.none_ (I : AllI pg G s rs rs1 q am av) (h1 : ¬ txE s ≠ 0) (h2 : fdF pg G s (q : Int) = none) : am.map Prod.fst = allR pg G s := by
  have e := I.eq h1
  have hle := I.le
  rw [fdF_q I.le h1] at h2
  rw [show (txF s).length + 1 - q = ((txF s).length - q) + 1 by omega, allGo, if_neg (by omega), h2] at e
  rw [show allR pg G s = _ from if_neg h1, ← e]; simp
theorem AllI.step (hG : PgG pg G) (I : AllI pg G s rs rs1 q am av) (h1 : ¬ txE s ≠ 0) (h2 : fdF pg G s (q : Int) = some v) : ∃ i j : Nat, q ≤ i ∧ i ≤ j ∧ j ≤ (txF s).length ∧ v.length = 2 * G + 2 ∧ v.getD 0 0 = i ∧ v.getD 1 0 = j ∧
    (am ++ [(v, fv)]).map Prod.fst ++ allGo pg G (txF s) ((txF s).length + 1 - nxt v) (nxt v) = allF pg G (txF s) ∧ nxt v = j + (if i = j then 1 else 0) := by
  have e := I.eq h1
  have hle := I.le
  rw [fdF_q I.le h1] at h2
  obtain ⟨i, e1, e2, hF⟩ := findGo_ok hG _ q (by omega) v h2
  obtain ⟨j, e3, e4, e5⟩ := hF.s1
  have hn : nxt v = j + (if i = j then 1 else 0) := by
    unfold nxt; rw [e3, hF.s0]
    by_cases h : i = j
    · subst h; simp
    · rw [if_neg h, if_neg (by omega)]; simp
  refine ⟨i, j, e1, e4, e5, hF.len, hF.s0, e3, ?_, hn⟩
  rw [show (txF s).length + 1 - q = ((txF s).length - q) + 1 by omega, allGo, if_neg (by omega), h2] at e
  have hm := allGo_more hG (tx := txF s) ((txF s).length - q) ((txF s).length + 1 - nxt v) (nxt v) (by rw [hn]; split <;> omega) (by omega)
  rw [← e, ← hm]; simp
theorem all_end {p : Nat} {tx : List Int} (h : tx.length < p) (d : Nat) : allGo pg G tx d p = [] := by
  cases d with
  | zero => rfl
  | succ d => rw [allGo, if_pos h]
end
theorem am_one (x : Value) (h : x.oneCell' = true) : ∀ u ∈ [x], u.oneCell' = true := fun u hu => by rw [List.mem_singleton.1 hu]; exact h
theorem am_snoc {rs : List Res} {am : List AM} {x : AM} (h : ∀ x ∈ am, AmOk rs x) (hx : AmOk rs x) : ∀ y ∈ am ++ [x], AmOk rs y := fun y hy => by
  rcases List.mem_append.1 hy with hy | hy
  · exact h y hy
  · rw [List.mem_singleton.1 hy]; exact hx
theorem mall_x (pg : List StP) (G : Nat) (rs : List Res) (ms : List MS) (lv : Value) (pa : Nat) (hG : PgG pg G) (hpgm : ms.map Prod.fst = pg) (hmok : ∀ m ∈ ms, MsOk rs m) (hpat : Res.blk pa (.cells [lv, .int .i64 (G : Int), .bool true].toArray 81 (0, 0)) ∈ rs) (hstp : Res.rd lv 5 ms.length (msC ms) ∈ rs) (hpl : pg.length ≤ 3000) (hG2 : G ≤ 200) (hT : tabs ∈ F) (s : ByteArray) (hs : s.size ≤ 70368744177664) :
    CallX Tryd.prog 57 [ptrV pa, .string s] S w0 (fz rs :: F) (fun u L' => ∃ rs' v', ∃ am : List AM, u = .tuple #[v', .int .i64 (txE s)] ∧ rs ⊆ rs' ∧ am.map Prod.fst = allR pg G s ∧ (∀ x ∈ am, AmOk rs' x) ∧ v'.oneCell' = true ∧ L' = .row v' 29 1 (am).length ((am).map Prod.snd) :: fz rs' :: F) := by
 intro w hp
 have htl := txF_len s
 refine calls_start Tryd.func57 rfl rfl rfl (hp) ?_
 refine TC.seq (TC.region (TL.as rfl rfl (TL.as rfl rfl (TL.nil (TQ.then (TC.seq (TC.region (TL.as rfl rfl (TL.nil (TQ.then (TC.seq (TC.region (TL.as rfl rfl (TL.nil (TQ.then (TC.block (TC.hp (fun _ h => new_nil 29 1 h) (TC.loop (ι := Nat × List AM × Value × List Res) (fun (q, am, av, rs1) => [(0, ptrV pa), (1, .string s), (6, av), (7, .int .i64 ((q : Nat) : Int))]) (fun (q, am, av, rs1) => .row av 29 1 (am).length ((am).map Prod.snd) :: fz rs1 :: F) (fun (q, am, av, rs1) => AllI pg G s rs rs1 q am av) (fun (q, am, av, rs1) => (txF s).length + 1 - q) ((0, [], nilS, rs)) (⟨fun _ h => h, Nat.zero_le _, (fun x hx => by cases hx), rfl, Nat.le_refl _, fun _ => rfl, fun _ => rfl⟩) ⟨rfl, rfl, rfl, rfl, trivial⟩ (fun _ h => h) ?_))))))))))))))))))
 rintro ⟨q, am, av, rs1⟩ (I : AllI pg G s rs rs1 q am av)
 have hle := I.le
 have haml := I.len
 have hEq := fdE_q (s := s) hle
 show TC _ _ _ _ [(0, ptrV pa), (1, .string s), (6, av), (7, .int .i64 ((q : Nat) : Int))] _ _ (.row av 29 1 (am).length ((am).map Prod.snd) :: fz rs1 :: F)
 refine TC.block (TC.seq (TC.region (TL.mv rfl rfl (TL.mv rfl rfl (TL.mv rfl rfl (TL.hp (fun _ h => h.pick1) ?_))))))
 refine TL.opX rfl (OpX.callX en_50 rfl (mfind_x pg G rs1 ms lv pa hG hpgm (fun m hm => (hmok m hm).mono I.sub) (I.sub hpat) (I.sub hstp) hpl hG2 (.tail _ hT) s (q : Int) hs)) ?_; rintro _ _ ⟨rsA1, fv1, rfl, hsA1, hA1, rfl⟩
 rw [hEq]
 refine TL.mv rfl rfl (TL.opP rfl (op_extract rfl rfl) (TL.opP rfl (op_extract rfl rfl) (TL.as rfl rfl (TL.as rfl rfl (TL.nil (TQ.then (TC.seq (TC.seq (TC.region (TL.mv rfl rfl (TL.opP rfl (op_neq rfl rfl) (TL.nil (TQ.then ?_)))))))))))))
 refine TC.sp rfl (fun c1 => ?_) (fun c1 => ?_)
 ·refine TC.seq (TC.region (TL.mv rfl rfl (TL.as rfl rfl (TL.as rfl rfl (TL.nil (TQ.then (TC.ret (TQ.then_ret (TQ.block_ret (TQ.loop_ret (TQ.block_ret ?_)))))))))))
  refine ret2 rfl rfl rfl (fun w' hp => ?_)
  exact ⟨_, _, rfl, ⟨rsA1, nilS, [], rfl, fun x hx => hsA1 (I.sub hx), (if_pos c1).symm, (fun x hx => by cases hx), rfl, rfl⟩, new_nil _ 1 (Hp.tail (hp.pick1))⟩
 ·have h0 : ¬ txE s ≠ 0 := c1
  refine TC.skip (TQ.then (TC.seq (TC.seq (TC.region (TL.mv rfl rfl (TL.opP rfl (op_eqFd rfl hA1) (TL.nil (TQ.then ?_))))))))
  refine TC.sp rfl (fun c2 => ?_) (fun c2 => ?_)
  ·refine TC.seq (TC.region (TL.mv rfl rfl (TL.as rfl rfl (TL.as rfl rfl (TL.nil (TQ.then (TC.ret (TQ.then_ret (TQ.block_ret (TQ.loop_ret (TQ.block_ret ?_)))))))))))
   refine ret2 rfl rfl rfl (fun w' hp => ?_)
   exact ⟨_, _, rfl, ⟨rsA1, av, am, by rw [Classical.not_not.1 h0], fun x hx => hsA1 (I.sub hx), I.none_ h0 c2, (fun x hx => (I.ok x hx).mono hsA1), I.one, rfl⟩, (hp.pick1)⟩
  ·obtain ⟨v, hfd⟩ : ∃ v, fdF pg G s (q : Int) = some v := by
     cases hq : fdF pg G s (q : Int) with
     | none => exact absurd hq c2
     | some v => exact ⟨v, rfl⟩
   have hrd := (hA1.yes v hfd).1
   have hfo := hA1.one
   obtain ⟨i, j, g1, g2, g3, g4, g5, g6, hst, hnx⟩ := I.step (fv := fv1) hG h0 hfd
   have hdl : (dec s).length = (txF s).length := by rw [txF_is (Classical.not_not.1 h0)]
   refine TC.skip (TQ.then (TC.seq (TC.region (TL.mv rfl rfl (TL.opP rfl (op_move rfl) ?_)))))
   refine TL.opX rfl (OpX.buildSlice (ps := #[(0, _)]) rfl (bs_sl_int_1 _)) ?_; rintro _ _ ⟨g25, rfl, rfl⟩
   refine TL.hp (fun _ h => blk_row (k := 1) (m := 1) h rfl (by decide)) (TL.hp (fun _ h => h.pick2) ?_)
   refine TL.opX rfl (OpX.append (bytes := 24) tsl_sl_int (by decide) (by decide) rfl rw1 (am_one _ hfo) (by omega) (zs := (am ++ [(v, fv1)]).map Prod.snd) (by rw [List.map_append]; rfl)) ?_; rintro v2 _ rfl
   refine TL.know (fun _ h => row1 h) (fun o2 => (TL.hp (fun _ h => row_lenA h) (TL.as rfl rfl (TL.nil (TQ.then (TC.seq (TC.region (TL.mv rfl rfl (TL.opV rfl (op_index tsl_int rfl (rdb_fz m2 hrd) rfl (by omega) (by omega)) (TL.opV rfl (op_loadR ts_int rfl (rdb_fz m2 hrd) (lkM (f := Value.int .i64) (i := 1) (d := 0) (by omega) g6 (by omega))) (TL.as rfl rfl (TL.nil (TQ.then (TC.seq (TC.seq (TC.draw [] (.cons (.p, 0) (.cons (.p, 3) (.cons (.t, 1) (.cons (.t, 2) (.cons (.t, 4) (.cons (.t, 5) (.cons (.p, 6) (.nil)))))))) mo (by kernel_rfl) (TR.p rfl rfl wt0 (op_move rfl) (TR.p rfl rfl wt0 (op_move rfl) (TR.t rfl rfl wt0 (op_index tsl_int rfl (rdb_fz m2 hrd) rfl (by omega) (by omega)) (fun _ h => h) ?_)))))))))))))))))))
   refine TR.t rfl rfl wt0 (op_loadR ts_int rfl (rdb_fz m2 hrd) (lkM (f := Value.int .i64) (i := 0) (d := 0) (by omega) g5 (by omega))) (fun _ h => h) (TR.t rfl rfl wt0 (op_index tsl_int rfl (rdb_fz m2 hrd) rfl (by omega) (by omega)) (fun _ h => h) (TR.t rfl rfl wt0 (op_loadR ts_int rfl (rdb_fz m2 hrd) (lkM (f := Value.int .i64) (i := 1) (d := 0) (by omega) g6 (by omega))) (fun _ h => h) (TR.p rfl rfl wt0 (op_eql rfl rfl) (TR.nil (TQ.then ?_)))))
   refine TC.sp rfl (fun c3 => ?_) (fun c3 => ?_)
   ·rw [if_pos (by omega)] at hnx
    refine TC.region (TL.mv rfl rfl (TL.opP rfl (op_add (r := ((j + 1 : Nat) : Int)) rfl rfl (by omega) (by omega) (by omega)) (TL.as rfl rfl (TL.nil (TQ.then (TC.seq (TC.region (TL.mv rfl rfl (TL.mv rfl rfl (TL.callq rfl en_32 rfl (fun w2 hp => rcount_calls s w2 (by omega)) ?_))))))))))
    rw [rcount_dec, hdl]
    refine TL.opP rfl (op_gtr rfl rfl) (TL.nil (TQ.then ?_))
    refine TC.sp rfl (fun c4 => ?_) (fun c4 => ?_)
    ·refine TC.seq (TC.region (TL.mv rfl rfl (TL.as rfl rfl (TL.as rfl rfl (TL.nil (TQ.then (TC.ret (TQ.block_ret (TQ.loop_ret (TQ.block_ret ?_))))))))))
     refine ret2 rfl rfl rfl (fun w' hp => ?_)
     exact ⟨_, _, rfl, ⟨rsA1, _, am ++ [(v, fv1)], by rw [Classical.not_not.1 h0], fun x hx => hsA1 (I.sub hx), by (rw [show allR pg G s = _ from if_neg h0, ← hst, all_end (by omega), List.append_nil]), am_snoc (fun x hx => (I.ok x hx).mono hsA1) ⟨hfo, hrd⟩, by assumption, rfl⟩, (hp.drop1)⟩
    ·refine TC.skip (TQ.block_normal ?_)
     exact TQ.round (j + 1, am ++ [(v, fv1)], v2, rsA1) (⟨fun x hx => hsA1 (I.sub hx), by omega, am_snoc (fun x hx => (I.ok x hx).mono hsA1) ⟨hA1.one, hrd⟩, by assumption, by rw [List.length_append, List.length_singleton]; omega, fun e => absurd e h0, fun _ => by rw [← hst, hnx]⟩) (by show _ - _ < _ - q; omega) ⟨rfl, rfl, rfl, rfl, trivial⟩ (fun _ h => h.drop1)
   ·rw [if_neg (by omega), Nat.add_zero] at hnx
    refine TC.skip (TQ.then (TC.seq (TC.region (TL.mv rfl rfl (TL.mv rfl rfl (TL.callq rfl en_32 rfl (fun w2 hp => rcount_calls s w2 (by omega)) ?_))))))
    rw [rcount_dec, hdl]
    refine TL.opP rfl (op_gtr rfl rfl) (TL.nil (TQ.then ?_))
    refine TC.sp rfl (fun c5 => ?_) (fun c5 => ?_)
    ·refine TC.seq (TC.region (TL.mv rfl rfl (TL.as rfl rfl (TL.as rfl rfl (TL.nil (TQ.then (TC.ret (TQ.block_ret (TQ.loop_ret (TQ.block_ret ?_))))))))))
     refine ret2 rfl rfl rfl (fun w' hp => ?_)
     exact ⟨_, _, rfl, ⟨rsA1, _, am ++ [(v, fv1)], by rw [Classical.not_not.1 h0], fun x hx => hsA1 (I.sub hx), by (rw [show allR pg G s = _ from if_neg h0, ← hst, all_end (by omega), List.append_nil]), am_snoc (fun x hx => (I.ok x hx).mono hsA1) ⟨hfo, hrd⟩, by assumption, rfl⟩, (hp.drop1)⟩
    ·refine TC.skip (TQ.block_normal ?_)
     exact TQ.round (j, am ++ [(v, fv1)], v2, rsA1) (⟨fun x hx => hsA1 (I.sub hx), by omega, am_snoc (fun x hx => (I.ok x hx).mono hsA1) ⟨hA1.one, hrd⟩, by assumption, by rw [List.length_append, List.length_singleton]; omega, fun e => absurd e h0, fun _ => by rw [← hst, hnx]⟩) (by show _ - _ < _ - q; omega) ⟨rfl, rfl, rfl, rfl, trivial⟩ (fun _ h => h.drop1)

end Go.SK
