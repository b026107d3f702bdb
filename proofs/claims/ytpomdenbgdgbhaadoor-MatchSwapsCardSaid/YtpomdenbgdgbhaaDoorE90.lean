/- Layer 12: what was met, kept in a map; is a code point one of a set? -/
import Derived.Test.YtpomdenbgdgbhaaDoorE89
import Derived.ChangeKeysEq
import Derived.MapKept
set_option linter.unusedVariables false
set_option linter.unusedSimpArgs false
set_option maxRecDepth 100000
namespace Go.SK
open Go Go.RowKit Go.Proofs
variable {S : Nat → Prop} {w0 : World} {F L : List Res}
abbrev kyV (a p : Nat) : Value := .agg #[.int .i64 (a : Int), .int .i64 (p : Int)]
def ent (i : Nat) (x : Nat × Nat) : MapEntry := ⟨kyV x.1 x.2, .bool true, i⟩
def mEs : Nat → List (Nat × Nat) → List MapEntry
  | _, [] => []
  | i, x :: r => ent i x :: mEs (i + 1) r
theorem mEs_snoc (x : Nat × Nat) : ∀ (i : Nat) (l : List (Nat × Nat)), mEs i (l ++ [x]) = mEs i l ++ [ent (i + l.length) x]
  | i, [] => rfl
  | i, y :: r => by rw [List.cons_append, mEs, mEs_snoc x (i + 1) r, mEs, List.length_cons, show i + 1 + r.length = i + (r.length + 1) by omega]; rfl
abbrev mapR (g : Nat) (l : List (Nat × Nat)) : Res := .blk g (.map (mEs 0 l).toArray l.length)
theorem un_map140' : Tryd.prog.underlying 140 = some (.map 189 4) := by kernel_rfl
theorem un_ar2_int' : Tryd.prog.underlying 189 = some (.array 2 3) := by kernel_rfl
theorem eq_ar2 (a b c d : Nat) (w : World) : (Op.equal 189 (kyV a b) (kyV c d)).run Tryd.prog w = .ok (decide (a = c ∧ b = d)) w := by
  obtain ⟨i, hi⟩ : ∃ i, Tryd.prog.info? 3 = some i := Option.isSome_iff_exists.1 (by kernel_rfl)
  have hc : Tryd.prog.cellsOf 3 = 1 := by kernel_rfl
  unfold Op.equal
  rw [show Op.maxDepth = (Op.maxDepth - 2) + 1 + 1 from by decide]
  rw [run_equalIn_array (w := w) _ _ _ un_ar2_int' hi, hc]
  have p1 : ∀ x y : Nat, (part 3 #[.int .i64 (x : Int), .int .i64 (y : Int)] (0 * 1)).run Tryd.prog w = .ok (.int .i64 (x : Int)) w := fun x y => by kernel_rfl
  have p2 : ∀ x y : Nat, (part 3 #[.int .i64 (x : Int), .int .i64 (y : Int)] (1 * 1)).run Tryd.prog w = .ok (.int .i64 (y : Int)) w := fun x y => by kernel_rfl
  have i1 := fun a b => run_equalIn_int (P := Tryd.prog) w (Op.maxDepth - 2) 3 .i64 .i64 a b un_int
  rw [show List.range 2 = [0, 1] from rfl]
  simp only [Op.eqItems, Sem.run_bind, p1, p2, Result.andThen_ok, i1]
  have e1 : ((a : Int) == (c : Int)) = decide (a = c) := by rw [Bool.eq_iff_iff]; simp; omega
  have e2 : ((b : Int) == (d : Int)) = decide (b = d) := by rw [Bool.eq_iff_iff]; simp; omega
  rw [e1]
  by_cases h1 : a = c
  · rw [decide_eq_true h1]
    simp only [i1, e2, Sem.run_bind, Result.andThen_ok, p1, p2, Bool.not_true, Bool.false_eq_true, if_false, if_true]
    by_cases h2 : b = d
    · simp [h1, h2, Sem.run_pure]
    · simp [h1, h2, Sem.run_pure]
  · simp [h1, Sem.run_pure]
theorem key_ok (e : Bool) (a p : Nat) (w : World) : (Instr.checkKey e 10000 189 (kyV a p)).run Tryd.prog w = .ok () w := by kernel_rfl
theorem ask_in (a p : Nat) (w : World) : ∀ (l : List (Nat × Nat)) (i j : Nat), ∃ r : Option (Nat × Value), (Instr.findAsking 189 (kyV a p) (mEs i l) j).run Tryd.prog w = .ok r w ∧ ((a, p) ∉ l → r = none) ∧ ((a, p) ∈ l → ∃ k, r = some (k, .bool true))
  | [], i, j => ⟨none, by simp [Instr.findAsking, mEs], fun _ => rfl, fun h => by cases h⟩
  | x :: r, i, j => by
    rw [mEs, Instr.findAsking]
    have h1 := eq_ar2 a p x.1 x.2 w
    by_cases h : a = x.1 ∧ p = x.2
    · refine ⟨some (j, .bool true), ?_, fun hn => absurd (by rw [show (a, p) = x from Prod.ext h.1 h.2]; exact .head _) hn, fun _ => ⟨j, rfl⟩⟩
      simp only [Sem.run_bind, ent, h1, Result.andThen_ok, decide_eq_true h, if_true, Sem.run_pure]
    · obtain ⟨q, hq, hn, hy⟩ := ask_in a p w r (i + 1) (j + 1)
      refine ⟨q, ?_, fun hm => hn (fun h2 => hm (.tail _ h2)), fun hm => ?_⟩
      · simp only [Sem.run_bind, ent, h1, Result.andThen_ok, decide_eq_false h, Bool.false_eq_true, if_false]; exact hq
      · rcases List.mem_cons.1 hm with rfl | hm
        · exact absurd ⟨rfl, rfl⟩ h
        · exact hy hm
theorem find_in (a p : Nat) (l : List (Nat × Nat)) (w : World) : ∃ r : Option (Nat × Value), (Instr.findKey 189 (kyV a p) (mEs 0 l)).run Tryd.prog w = .ok r w ∧ ((a, p) ∉ l → r = none) ∧ ((a, p) ∈ l → ∃ k, r = some (k, .bool true)) := by
  unfold Instr.findKey
  cases l with
  | nil => exact ⟨none, by simp [run_underlying un_ar2_int', mEs, Instr.findNow], fun _ => rfl, fun h => by cases h⟩
  | cons x r =>
    obtain ⟨q, hq, h2⟩ := ask_in a p w (x :: r) 0 0
    refine ⟨q, ?_, h2⟩
    rw [mEs] at hq ⊢
    simp only [Sem.run_bind, run_underlying un_ar2_int', Result.andThen_ok, Instr.findNow, Instr.sameNow]
    exact hq
section
variable {n : Nat} {l : FrL} {dst : Option Tmp} {ty : TypeId} {pos : String} {af : Array Edge} {gd : Option (Nat × Bool)} {x y z : Operand} {g a p : Nat} {bl : List (Nat × Nat)}
theorem op_been (hx : evO l x = some (.map (some g))) (hy : evO l y = some (kyV a p)) (hm : mapR g bl ∈ L) : OpV Tryd.prog n l S w0 L ⟨dst, .lookup 140 x y false, ty, pos, af, gd⟩ (.bool (decide ((a, p) ∈ bl))) := fun q w ha hp => by
  have hb : w.heap[g]? = some (.map (mEs 0 bl).toArray bl.length) := hp.at_ _ hm
  obtain ⟨r, hr, hn, hi⟩ := find_in a p bl w
  have hz : (zeroValue 4).run Tryd.prog w = .ok (.bool false) w := by kernel_rfl
  have hl : (Instr.lookup 140 (.map (some g)) (kyV a p) false).run Tryd.prog w = .ok (.bool (decide ((a, p) ∈ bl))) w := by
    by_cases h : (a, p) ∈ bl
    · obtain ⟨k, rfl⟩ := hi h
      simp [Instr.lookup, run_underlying un_map140', MapKept.run_getObj_map hb, key_ok, hr, h, Result.andThen]
    · obtain rfl := hn h
      simp [Instr.lookup, run_underlying un_map140', MapKept.run_getObj_map hb, key_ok, hr, h, hz, Result.andThen]
  simp [execOp, ha.eval hx, ha.eval hy, hl]
theorem kp_set {w : World} {g : Nat} {o : Obj} : Kp (fun k => k = g) w { w with heap := w.heap.setIfInBounds g o } := ⟨rfl, rfl, rfl, by simp, fun k hk hn => by
  show (w.heap.setIfInBounds g o)[k]? = w.heap[k]?
  rw [Array.getElem?_setIfInBounds_ne (fun e => hn e.symm)]⟩
theorem OpX.beenPut (hx : evO l x = some (.map (some g))) (hy : evO l y = some (kyV a p)) (hz : evO l z = some (.bool true)) (hn : (a, p) ∉ bl) : OpX Tryd.prog n l S w0 (mapR g bl :: L) ⟨dst, .mapUpdate 140 x y z, ty, pos, af, gd⟩ (fun _ L' => L' = mapR g (bl ++ [(a, p)]) :: L) := .of_skip fun q w ha hp => by
  have hb : w.heap[g]? = some (.map (mEs 0 bl).toArray bl.length) := hp.at_ _ (.head _)
  obtain ⟨r, hr, hno, _⟩ := find_in a p bl w
  obtain rfl := hno hn
  have hu : (Instr.mapUpdate 140 (.map (some g)) (kyV a p) (.bool true)).run Tryd.prog w = .ok () { w with heap := w.heap.setIfInBounds g (.map (mEs 0 (bl ++ [(a, p)])).toArray (bl ++ [(a, p)]).length) } := by
    rw [mEs_snoc, Nat.zero_add, List.length_append, List.length_singleton]
    simp [Instr.mapUpdate, run_underlying un_map140', MapKept.run_getObj_map hb, key_ok, hr, MapKept.run_setObj_map _ hb, Result.andThen, ent]
  refine ⟨{ w with heap := w.heap.setIfInBounds g (.map (mEs 0 (bl ++ [(a, p)])).toArray (bl ++ [(a, p)]).length) }, _, ?_, rfl, hp.upd trivial kp_set (r' := mapR g (bl ++ [(a, p)])) ?_ (fun k hk => .inl hk)⟩
  · simp [execOp, ha.eval hx, ha.eval hy, ha.eval hz, hu]
  · have hg : g < w.heap.size := by
      rcases Nat.lt_or_ge g w.heap.size with h | h
      · exact h
      · rw [Array.getElem?_eq_none h] at hb; cases hb
    show (w.heap.setIfInBounds g _)[g]? = some _
    rw [Array.getElem?_setIfInBounds_self_of_lt hg]
theorem OpX.makeMap : OpX Tryd.prog n l S w0 L ⟨dst, .makeMap 140 none, ty, pos, af, gd⟩ (fun v L' => ∃ g, v = .map (some g) ∧ L' = mapR g [] :: L) := .of_run fun q w ha hp => by
  refine ⟨_, w.alloc (.map #[] 0), _, ?_, ⟨w.heap.size, rfl, rfl⟩, hp.new (Kp.alloc w _) (heap_alloc_new w _) (fun g hg => by cases hg; exact Nat.le_refl _)⟩
  simp [execOp, Instr.makeMap]
end
section
variable {P : Program} {n : Nat} {l : FrL} {dst : Option Tmp} {ty : TypeId} {pos : String} {af : Array Edge} {gd : Option (Nat × Bool)} {x : Operand}
theorem op_loadSO {t k g i : Nat} {cs : Array Value} {ys : List Value} {T : TypeId} {fz : Nat × Nat} (ht : TStruct P t k) (hx : evO l x = some (.pointer (some ⟨g, i, none⟩))) (hm : Res.blk g (.cells cs T fz) ∈ L) (hi : (cs.toList.drop i).take k = ys) (hk : ys.length = k) : OpV P n l S w0 L ⟨dst, .load t x, ty, pos, af, gd⟩ (.agg ys.toArray) := fun a w ha hp => by
  have hh : w.heap[g]? = some (.cells cs T fz) := hp.at_ _ hm
  have hc : ∀ j v, ys[j]? = some v → w.cell? ((⟨g, i, none⟩ : Addr).add j) = some v := fun j v hv => by
    have hlt := (List.getElem?_eq_some_iff.1 hv).1
    rw [add_lit]
    simp only [World.cell?, hh]
    rw [← hi, List.getElem?_take, if_pos (by omega), List.getElem?_drop] at hv
    simpa using hv
  have := run_loadCells_list (P := P) w ⟨g, i, none⟩ ys hc
  rw [hk] at this
  simp [execOp, ha.eval hx, Instr.loadAt, Instr.sureAddr, loadVar, ht.agg w, ht.size w, this]
theorem op_arA {t : TypeId} {c v u : Value} (hx : evO l x = some v) (h : ∀ w, (Instr.indexAt t v c).run P w = .ok u w) : OpP P n l ⟨dst, .indexAddr t x (.const c), ty, pos, af, gd⟩ u := fun a w ha => by
  have h2 := ha.eval (x := .const c) rfl
  simp only [execOp, ha.eval hx, h2, h w, Sem.run_bind, Result.andThen_ok, Sem.run_pure]
end
theorem inS_take {s : List (Int × Int)} {c : Int} {k : Nat} (h : k < s.length) : inS (s.take (k + 1)) c = (inS (s.take k) c || decide ((s.getD k (0, 0)).1 ≤ c ∧ c ≤ (s.getD k (0, 0)).2)) := by
  rw [List.take_add_one, List.getElem?_eq_getElem h, inS_append, List.getD_eq_getElem?_getD, List.getElem?_eq_getElem h]
  simp [inS]
theorem xholds_x (q : Pc) (s' : List (Int × Int)) (c : Int) (hr : Rdb L q.sv 2 s'.length (spC s')) :
    CallX Tryd.prog 124 [Pc.val q, .int .i32 c] S w0 (L) (fun u L' => u = .bool (inS s' c != q.neg) ∧ L' = L) := by
 intro w hp
 have hlen := hr.lenLe hp
 refine calls_start Tryd.func124 rfl rfl rfl (hp) ?_
 refine TC.seq (TC.region ?_)
 refine TL.opX rfl (OpX.box (cs := (Pc.cs q)) rfl rfl) ?_; rintro _ _ ⟨g2, rfl, rfl⟩
 refine TL.as rfl rfl (TL.nil (TQ.then (TC.seq (TC.region (TL.as rfl rfl (TL.nil (TQ.then (TC.seq (TC.seq (TC.region (TL.opP rfl (op_field fld_sealskinref12_Part_Set rfl) (TL.opV rfl (op_load ts_sl_ar2_int32 rfl m0 rfl) (TL.opV rfl (op_lenV rfl un_sl_ar2_int32 rfl hr.cons) (TL.mv rfl rfl (TL.nil (TQ.then (TC.block (TC.loop (ι := Nat × Bool) (fun (k, b) => [(1, .int .i32 c), (2, .pointer (some ⟨g2, 0, none⟩)), (5, .bool b), (9, q.sv), (10, .int .i64 (s'.length : Int)), (11, .int .i64 (k : Int))]) (fun (k, b) => .blk g2 (.cells (Pc.cs q).toArray 130 (0, 0)) :: L) (fun (k, b) => k ≤ s'.length ∧ b = inS (s'.take k) c) (fun (k, b) => s'.length - k) ((0, false)) (⟨Nat.zero_le _, rfl⟩) ⟨rfl, rfl, rfl, rfl, rfl, rfl, trivial⟩ (fun _ h => h) ?_))))))))))))))))))
 rintro ⟨k, b⟩ ⟨hk, hb⟩
 show TC _ _ _ _ [(1, .int .i32 c), (2, .pointer (some ⟨g2, 0, none⟩)), (5, .bool b), (9, q.sv), (10, .int .i64 (s'.length : Int)), (11, .int .i64 (k : Int))] _ _ (.blk g2 (.cells (Pc.cs q).toArray 130 (0, 0)) :: L)
 refine TC.seq (TC.region (TL.opP rfl (op_lss rfl rfl) (TL.nil (TQ.then (TC.seq ?_)))))
 refine TC.sp rfl (fun c1 => ?_) (fun c1 => ?_)
 ·have hkl : k < s'.length := by omega
  refine TC.skip (TQ.then (TC.seq (TC.block (TC.seq (TC.region (TL.opV rfl (op_index tsl_ar2_int32 rfl hr.cons rfl (by omega) (by omega)) (TL.opV rfl (op_loadRS tst_ar2_int32 rfl hr.cons (cs := [.int .i32 (s'.getD k (0, 0)).1, .int .i32 (s'.getD k (0, 0)).2]) rfl (spC_at hkl (by omega)) (by decide)) ?_)))))))
  refine TL.opX rfl (OpX.alloc tz_ar2_int32 rfl) ?_; rintro _ _ ⟨g7, rfl, rfl⟩
  refine TL.opX0 (OpX.storeS tst_ar2_int32 rfl rfl rfl rfl rfl (by intro u hu; simp only [List.mem_cons, List.not_mem_nil, or_false] at hu; rcases hu with rfl | rfl <;> rfl)) ?_; rintro _ _ rfl
  refine TL.nil (TQ.then (TC.region (TL.mv rfl rfl (TL.opP rfl (op_move rfl) ?_))))
  refine TL.sp (fun c2 => ?_) (fun c2 => ?_)
  ·refine TL.gFt rfl rfl rfl (TL.gFt rfl rfl rfl (TL.gFt rfl rfl rfl (TL.gFt rfl rfl rfl (TL.gFt rfl rfl rfl (TL.gU rfl rfl rfl (TL.gU rfl rfl rfl (TL.gU rfl rfl rfl (TL.gU rfl rfl rfl (TL.gFt rfl rfl rfl (TL.opP rfl (op_pickT rfl rfl) (TL.as rfl rfl (TL.nil (TQ.block_normal (TQ.then (TC.region (TL.opP rfl (op_add rfl rfl rfl (by omega) (by omega)) (TL.mv rfl rfl (TL.nil ?_))))))))))))))))))
   exact TQ.round (k + 1, inS (s'.take (k + 1)) c) (by (try dsimp only); exact ⟨by omega, rfl⟩) (by show s'.length - (k + 1) < s'.length - k; omega) ⟨rfl, rfl, gb rfl (by rw [inS_take hkl, ← hb, c2]; first | rfl | (rw [Bool.false_or]; first | exact decide_eq_decide.2 (by omega) | exact (decide_eq_false (by omega)).symm)), rfl, rfl, rfl, trivial⟩ (fun _ h => h.tail)
  ·refine TL.gT rfl rfl (TL.mv rfl rfl (TL.gT rfl rfl (TL.opP rfl (op_arA (u := .pointer (some ⟨g7, 0, none⟩)) rfl (fun w => by kernel_rfl)) (TL.gT rfl rfl (TL.opV rfl (op_load ts_int32 rfl (by first | exact m0 | exact m1 | exact m2 | exact m3) rfl) (TL.gT rfl rfl (TL.opP rfl (op_geq rfl rfl) (TL.gT rfl rfl (TL.opP rfl (op_move rfl) ?_)))))))))
   refine TL.sp (fun c3 => ?_) (fun c3 => ?_)
   ·refine TL.gT rfl rfl (TL.mv rfl rfl (TL.gT rfl rfl (TL.opP rfl (op_arA (u := .pointer (some ⟨g7, 1, none⟩)) rfl (fun w => by kernel_rfl)) (TL.gT rfl rfl (TL.opV rfl (op_load ts_int32 rfl (by first | exact m0 | exact m1 | exact m2 | exact m3) rfl) (TL.gT rfl rfl (TL.opP rfl (op_leq rfl rfl) (TL.gT rfl rfl (TL.opP rfl (op_pickT rfl rfl) (TL.opP rfl (op_pickF rfl rfl) (TL.as rfl rfl (TL.nil (TQ.block_normal (TQ.then (TC.region (TL.opP rfl (op_add rfl rfl rfl (by omega) (by omega)) (TL.mv rfl rfl (TL.nil ?_))))))))))))))))))
    exact TQ.round (k + 1, inS (s'.take (k + 1)) c) (by (try dsimp only); exact ⟨by omega, rfl⟩) (by show s'.length - (k + 1) < s'.length - k; omega) ⟨rfl, rfl, gb rfl (by rw [inS_take hkl, ← hb, c2]; first | rfl | (rw [Bool.false_or]; first | exact decide_eq_decide.2 (by omega) | exact (decide_eq_false (by omega)).symm)), rfl, rfl, rfl, trivial⟩ (fun _ h => h.tail)
   ·refine TL.gFf rfl rfl rfl (TL.gFf rfl rfl rfl (TL.gFf rfl rfl rfl (TL.gFf rfl rfl rfl (TL.gT rfl rfl (TL.opP rfl (op_pickF rfl rfl) (TL.opP rfl (op_pickF rfl rfl) (TL.as rfl rfl (TL.nil (TQ.block_normal (TQ.then (TC.region (TL.opP rfl (op_add rfl rfl rfl (by omega) (by omega)) (TL.mv rfl rfl (TL.nil ?_))))))))))))))
    exact TQ.round (k + 1, inS (s'.take (k + 1)) c) (by (try dsimp only); exact ⟨by omega, rfl⟩) (by show s'.length - (k + 1) < s'.length - k; omega) ⟨rfl, rfl, gb rfl (by rw [inS_take hkl, ← hb, c2]; first | rfl | (rw [Bool.false_or]; first | exact decide_eq_decide.2 (by omega) | exact (decide_eq_false (by omega)).symm)), rfl, rfl, rfl, trivial⟩ (fun _ h => h.tail)
 ·refine TC.exit (TQ.then_exit (TQ.loop_exit (TQ.block_hit (TQ.then (TC.seq (TC.region (TL.mv rfl rfl (TL.opP rfl (op_field fld_sealskinref12_Part_Not rfl) (TL.opV rfl (op_load ts_bool rfl m0 rfl) (TL.opP rfl (op_bneq un_bool rfl rfl) (TL.as rfl rfl (TL.nil (TQ.then (TC.ret ?_))))))))))))))
  refine ret1 rfl rfl (fun w' hp => ?_)
  exact ⟨_, _, rfl, ⟨by rw [hb, List.take_of_length_le (by omega)], rfl⟩, (hp.tail)⟩

end Go.SK
