/- Walks: layer 12, what a set holds; from a place on. -/
import Derived.Test.YtpomdenbgdgbhaaDoorE67
set_option linter.unusedVariables false
set_option linter.unusedSimpArgs false
set_option maxRecDepth 100000
namespace Go.SK
open Go Go.RowKit Go.Proofs
variable {S : Nat → Prop} {w0 : World} {F L : List Res}
section
variable {P : Program} {n : Nat} {l : FrL} {dst : Option Tmp} {ty t' : TypeId} {pos : String} {af : Array Edge} {gd : Option (Nat × Bool)} {x y : Operand}
theorem op_makeFunc {fn : Fn} {captured : Array Operand} {vs : List Value} (h : evOs l captured.toList = some vs) : OpP P n l ⟨dst, .makeFunc fn #[] captured, ty, pos, af, gd⟩ (.func fn #[] vs.toArray) := fun a w ha => by
  have h1 := ha.evals h
  have h2 : captured.map a.eval = vs.toArray := by apply Array.ext'; simpa using h1
  simp [execOp, Instr.makeFunc, h2]
theorem OpX.callVc {f : FuncId} {ars : Array Operand} {ts : Array TypeId} {vs : List Value} {q : Value} {R : Value → List Res → Prop} (hx : evO l x = some (.func (.func f) #[] #[q])) (he : Enters P f) (has : evOs l ars.toList = some vs)
    (hc : CallX P f (vs ++ [q]) S w0 L R) : OpX P n l S w0 L ⟨dst, .call { callee := .value x, args := ars, argTypes := ts }, ty, pos, af, gd⟩ R := fun a w ha hp K Q hK => by
  have h1 := ha.evals has
  have h2 : ars.map a.eval = vs.toArray := by apply Array.ext'; simpa using h1
  have h3 := ha.eval hx
  have hr : (execOp a.eval ⟨dst, .call { callee := .value x, args := ars, argTypes := ts }, ty, pos, af, gd⟩).run P w = .ok (.enter f (vs ++ [q]).toArray) w := by
    unfold execOp
    have h4 : vs.toArray ++ #[q] = (vs ++ [q]).toArray := by simp
    simp [resolve, Deferred.ofValue, invoke, h2, h3, he (vs ++ [q]).toArray w]
  unfold Oper.wp
  rw [hr, Oper.upon_enter]
  refine (hc w hp).mono fun e w' ⟨v, L', h1, h2, h3⟩ => ?_
  subst h1
  exact hK v w' L' h2 h3
theorem op_bneq {t : TypeId} {a b : Bool} (ht : P.underlying t = some .bool) (hx : evO l x = some (.bool a)) (hy : evO l y = some (.bool b)) : OpP P n l ⟨dst, .binOp .neq t x y t', ty, pos, af, gd⟩ (.bool (a != b)) := fun q w ha => by
  have h1 : (Op.equal t (.bool a) (.bool b)).run P w = .ok (a == b) w := by
    unfold Op.equal
    rw [show Op.maxDepth = (Op.maxDepth - 1) + 1 from by decide]
    exact run_equalIn_bool' w _ t a b ht
  simp only [execOp, ha.eval hx, ha.eval hy, Sem.run_bind, eqGuard, binOp]
  simp [h1, bne]
end
theorem spC_at {sp : List (Int × Int)} {i k : Nat} (h : i < sp.length) (hk : k = i * 2) : ((spC sp).drop k).take 2 = [.int .i32 (sp.getD i (0, 0)).1, .int .i32 (sp.getD i (0, 0)).2] := by
  subst hk
  induction sp generalizing i with
  | nil => simp at h
  | cons a r ih =>
    cases i with
    | zero => rfl
    | succ i =>
      have := ih (i := i) (by simpa using h)
      rw [show (i + 1) * 2 = i * 2 + 2 by omega]
      exact this
theorem inS_split {sp : List (Int × Int)} {c : Int} (i : Nat) (h : i < sp.length) (hn : inS (sp.take i) c = false) : inS (sp.take (i + 1)) c = decide ((sp.getD i (0, 0)).1 ≤ c ∧ c ≤ (sp.getD i (0, 0)).2) := by
  unfold inS at hn ⊢
  rw [List.take_add_one, List.getElem?_eq_getElem h, Option.toList_some, List.any_append, hn, List.getD_eq_getElem?_getD, List.getElem?_eq_getElem h]
  simp
theorem inS_hit {sp : List (Int × Int)} {c : Int} (i : Nat) (h : i < sp.length) (hh : (sp.getD i (0, 0)).1 ≤ c ∧ c ≤ (sp.getD i (0, 0)).2) : inS sp c = true := by
  unfold inS
  rw [List.any_eq_true]
  refine ⟨sp.getD i (0, 0), ?_, decide_eq_true hh⟩
  rw [List.getD_eq_getElem?_getD, List.getElem?_eq_getElem h]; exact List.getElem_mem h
theorem sin1_x (x : Int × Int) (c : Int) (bq : Nat) (hb : Bkb L bq (.cells [.int .i32 c].toArray 21 (0, 0))) :
    CallX Tryd.prog 143 [spV x, ptrV bq] S w0 (L) (fun u L' => u = .bool (decide (x.1 ≤ c ∧ c ≤ x.2)) ∧ L' = L) := by
 intro w hp
 refine calls_start Tryd.func143 rfl rfl rfl (hp) ?_
 refine TC.seq (TC.region ?_)
 refine TL.opX rfl (OpX.box (cs := _) rfl rfl) ?_; rintro _ _ ⟨g2, rfl, rfl⟩
 refine TL.as rfl rfl (TL.nil (TQ.then (TC.seq (TC.region (TL.opV rfl (op_loadB ts_int32 rfl hb.cons rfl) (TL.opP rfl (op_field fld_match_span_lo rfl) (TL.opV rfl (op_load ts_int32 rfl m0 rfl) (TL.opP rfl (op_geq rfl rfl) (TL.opP rfl (op_move rfl) ?_)))))))))
 refine TL.sp (fun c1 => ?_) (fun c1 => ?_)
 ·refine TL.gT rfl rfl (TL.opV rfl (op_loadB ts_int32 rfl hb.cons rfl) (TL.gT rfl rfl (TL.opP rfl (op_field fld_match_span_hi rfl) (TL.gT rfl rfl (TL.opV rfl (op_load ts_int32 rfl m0 rfl) (TL.gT rfl rfl (TL.opP rfl (op_leq rfl rfl) (TL.opP rfl (op_pickT rfl rfl) (TL.as rfl rfl (TL.nil (TQ.then (TC.ret ?_))))))))))))
  refine ret1 rfl rfl (fun w' hp => ?_)
  exact ⟨_, _, rfl, ⟨congrArg Value.bool (decide_eq_decide.2 (by omega)), rfl⟩, (hp.tail)⟩
 ·refine TL.gFf rfl rfl rfl (TL.gFf rfl rfl rfl (TL.gFf rfl rfl rfl (TL.gFf rfl rfl rfl (TL.opP rfl (op_pickF rfl rfl) (TL.as rfl rfl (TL.nil (TQ.then (TC.ret ?_))))))))
  refine ret1 rfl rfl (fun w' hp => ?_)
  exact ⟨_, _, rfl, ⟨congrArg Value.bool (decide_eq_false (by omega)).symm, rfl⟩, (hp.tail)⟩

theorem sidx_x (sp : List (Int × Int)) (v : Value) (c : Int) (bq : Nat) (hr : Rdb L v 2 sp.length (spC sp)) (hb : Bkb L bq (.cells [.int .i32 c].toArray 21 (0, 0))) :
    CallX Tryd.prog 152 [v, .func (.func 143) #[] #[ptrV bq]] S w0 (L) (fun u L' => ∃ i : Int, u = .int .i64 i ∧ (0 ≤ i ↔ inS sp c = true) ∧ L' = L) := by
 intro w hp
 have hlen := hr.lenLe hp
 refine calls_start Tryd.func152 rfl rfl rfl (hp) ?_
 refine TC.seq (TC.region (TL.as rfl rfl (TL.nil (TQ.then (TC.seq (TC.seq (TC.region (TL.mv rfl rfl (TL.opV rfl (op_lenV rfl un_sl_match_span rfl hr) (TL.mv rfl rfl (TL.nil (TQ.then (TC.block (TC.loop (ι := Nat) (fun k => [(0, v), (1, .func (.func 143) #[] #[ptrV bq]), (6, v), (7, .int .i64 (sp.length : Int)), (8, .int .i64 (k : Int))]) (fun k => L) (fun k => k ≤ sp.length ∧ inS (sp.take k) c = false) (fun k => sp.length - k) (0) (⟨Nat.zero_le _, rfl⟩) ⟨rfl, rfl, rfl, rfl, rfl, trivial⟩ (fun _ h => h) ?_))))))))))))))
 rintro k ⟨hk, hno⟩
 refine TC.seq (TC.region (TL.opP rfl (op_lss rfl rfl) (TL.nil (TQ.then (TC.seq ?_)))))
 refine TC.sp rfl (fun c1 => ?_) (fun c1 => ?_)
 ·refine TC.skip (TQ.then (TC.seq (TC.block (TC.seq (TC.region (TL.mv rfl rfl (TL.as rfl rfl (TL.nil (TQ.then (TC.seq (TC.region (TL.mv rfl rfl (TL.mv rfl rfl (TL.mv rfl rfl (TL.opV rfl (op_index tsl_match_span rfl hr rfl (by omega) (by omega)) (TL.opV rfl (op_loadRS tst_match_span rfl hr rfl (spC_at (i := k) (by omega) (by omega)) (by decide)) ?_))))))))))))))))
  refine TL.opX rfl (OpX.callVc rfl en_143 rfl (sin1_x (sp.getD k (0, 0)) c bq hb)) ?_; rintro _ _ ⟨rfl, rfl⟩
  refine TL.nil (TQ.then ?_)
  refine TC.sp rfl (fun c2 => ?_) (fun c2 => ?_)
  ·refine TC.seq (TC.region (TL.mv rfl rfl (TL.as rfl rfl (TL.nil (TQ.then (TC.ret (TQ.block_ret (TQ.then_ret (TQ.loop_ret (TQ.block_ret (TQ.then_ret ?_)))))))))))
   refine ret1 rfl rfl (fun w' hp => ?_)
   exact ⟨_, _, rfl, ⟨_, rfl, ⟨fun _ => inS_hit k (by omega) c2, fun _ => by omega⟩, rfl⟩, (hp)⟩
  ·refine TC.skip (TQ.block_normal (TQ.then (TC.region (TL.opP rfl (op_add rfl rfl rfl (by omega) (by omega)) (TL.mv rfl rfl (TL.nil ?_))))))
   exact TQ.round (k + 1) (⟨by omega, by rw [inS_split k (by omega) hno]; exact decide_eq_false c2⟩) (by show _ - (k + 1) < _ - k; omega) ⟨rfl, rfl, rfl, rfl, rfl, trivial⟩ (fun _ h => h)
 ·refine TC.exit (TQ.then_exit (TQ.loop_exit (TQ.block_hit (TQ.then (TC.seq (TC.region (TL.as rfl rfl (TL.nil (TQ.then (TC.ret ?_))))))))))
  refine ret1 rfl rfl (fun w' hp => ?_)
  exact ⟨_, _, rfl, ⟨_, rfl, ⟨fun h => by omega, fun h => by rw [List.take_of_length_le (by omega)] at hno; rw [hno] at h; cases h⟩, rfl⟩, (hp)⟩

theorem shas_x (sp : List (Int × Int)) (v : Value) (c : Int) (bq : Nat) (hr : Rdb L v 2 sp.length (spC sp)) (hb : Bkb L bq (.cells [.int .i32 c].toArray 21 (0, 0))) :
    CallX Tryd.prog 142 [v, .func (.func 143) #[] #[ptrV bq]] S w0 (L) (fun u L' => u = .bool (inS sp c) ∧ L' = L) := by
 intro w hp
 refine calls_start Tryd.func142 rfl rfl rfl (hp) ?_
 refine TC.seq (TC.region (TL.as rfl rfl (TL.nil (TQ.then (TC.seq (TC.region (TL.mv rfl rfl (TL.opP rfl (op_move rfl) ?_))))))))
 refine TL.opX rfl (OpX.callX en_152 rfl (sidx_x sp v c bq hr hb)) ?_; rintro _ _ ⟨i1, rfl, h1, rfl⟩
 refine TL.opP rfl (op_geq rfl rfl) (TL.as rfl rfl (TL.nil (TQ.then (TC.ret ?_))))
 refine ret1 rfl rfl (fun w' hp => ?_)
 exact ⟨_, _, rfl, ⟨by cases hq : inS sp c with
      | true => rw [decide_eq_true (h1.2 hq)]
      | false => rw [decide_eq_false (fun h => by have := h1.1 h; rw [hq] at this; cases this)], rfl⟩, (hp)⟩

theorem ms_s {ms : List MS} {a i : Nat} (ha : a < ms.length) (hi : i = a * 5 + 2) : (msC ms)[i]? = some (ms.getD a (default, nilS)).2 := by
  subst hi
  have e : ms = ms.take a ++ ms[a] :: ms.drop (a + 1) := by rw [← List.drop_eq_getElem_cons ha, List.take_append_drop]
  have e2 : msC ms = msC (ms.take a) ++ (msC [ms[a]] ++ msC (ms.drop (a + 1))) := by
    conv => lhs; rw [e]
    rw [msC_append]; rfl
  have hl : (msC (ms.take a)).length = a * 5 := by rw [msC_len, List.length_take]; omega
  have h5 : (msC [ms[a]]).length = 5 := rfl
  rw [e2, List.getElem?_append_right (by omega), hl, show a * 5 + 2 - a * 5 = 2 by omega, List.getElem?_append_left (by omega), List.getD_eq_getElem?_getD, List.getElem?_eq_getElem ha]
  rfl
theorem ms_fst {ms : List MS} {pg : List StP} {a : Nat} (hpg : ms.map Prod.fst = pg) (ha : a < ms.length) : (ms.getD a (default, nilS)).1 = stp pg a ∧ ms.getD a (default, nilS) ∈ ms := by
  subst hpg
  rw [List.getD_eq_getElem?_getD, List.getElem?_eq_getElem ha]
  refine ⟨?_, List.getElem_mem ha⟩
  show _ = (ms.map Prod.fst).getD a default
  rw [List.getD_eq_getElem?_getD, List.getElem?_map, List.getElem?_eq_getElem ha]; rfl
theorem sin_x (pg : List StP) (rs : List Res) (ms : List MS) (lv : Value) (a : Nat) (c : Int) (hz : fz rs ∈ F) (hpgm : ms.map Prod.fst = pg) (hmok : ∀ m ∈ ms, MsOk rs m) (hstp : Res.rd lv 5 ms.length (msC ms) ∈ rs) (ha : a < ms.length) :
    CallX Tryd.prog 123 [.pointer (some ((Value.adr lv).add (a * 5))), .int .i32 c] S w0 (F) (fun u L' => u = .bool (holdsP (stp pg a) c) ∧ L' = F) := by
 intro w hp
 obtain ⟨hm1, hm2⟩ := ms_fst hpgm ha
 have hset := (hmok _ hm2).2
 rw [hm1] at hset
 refine calls_start Tryd.func123 rfl rfl rfl (hp) ?_
 refine TC.seq (TC.region ?_)
 refine TL.opX rfl (OpX.box (cs := _) rfl rfl) ?_; rintro _ _ ⟨g3, rfl, rfl⟩
 refine TL.as rfl rfl (TL.nil (TQ.then (TC.seq (TC.region (TL.mv rfl rfl (TL.opP rfl (op_nilCheck rfl) (TL.opP rfl (op_fieldA fld_match_step_set rfl) (TL.opV rfl (op_loadR ts_sl_match_span rfl (rdb_fz (.tail _ hz) hstp) (ms_s (a := a) (by omega) (by omega))) (TL.opP rfl (op_makeFunc rfl) ?_)))))))))
 refine TL.opX rfl (OpX.callX en_142 rfl (shas_x (stp pg a).set _ c _ (rdb_fz (.tail _ hz) hset) (fun S w0 w h => h.at_ _ m0))) ?_; rintro _ _ ⟨rfl, rfl⟩
 refine TL.as rfl rfl (TL.nil (TQ.then (TC.seq (TC.region (TL.mv rfl rfl (TL.mv rfl rfl (TL.opP rfl (op_nilCheck rfl) (TL.opP rfl (op_fieldA fld_match_step_not rfl) (TL.opV rfl (op_loadR ts_bool rfl (rdb_fz (.tail _ hz) hstp) (ms_n (a := a) hpgm (by omega) (by omega))) (TL.opP rfl (op_bneq un_bool rfl rfl) (TL.as rfl rfl (TL.nil (TQ.then (TC.ret ?_))))))))))))))
 refine ret1 rfl rfl (fun w' hp => ?_)
 exact ⟨_, _, rfl, ⟨rfl, rfl⟩, (hp.tail)⟩

end Go.SK
