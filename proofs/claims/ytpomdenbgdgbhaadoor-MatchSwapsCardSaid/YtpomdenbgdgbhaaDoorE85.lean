/- Layer 12: the document's program: sets, rows, groups. -/
import Derived.Test.YtpomdenbgdgbhaaDoorE84
set_option linter.unusedVariables false
set_option linter.unusedSimpArgs false
set_option maxRecDepth 100000
namespace Go.SK
open Go Go.RowKit Go.Proofs
variable {S : Nat → Prop} {w0 : World} {F L : List Res}
/-! ### The document's steps in memory -/
def kR (k : Int) : Int := if k = 5 then 0 else if k = 0 then 1 else if k = 3 then 2 else if k = 4 then 3 else if k = 1 then 4 else 5
abbrev RM := StP × Pc
abbrev rmC (m : RM) : List Value := .int .i64 (kR m.1.k) :: (m.2.cs ++ [.int .i64 (m.1.x : Int), .int .i64 ((if m.1.k = 2 then 0 else m.1.y : Nat) : Int), .int .i64 ((if m.1.k = 2 then m.1.y else 0 : Nat) : Int)])
instance : Enc RM := ⟨12, rmC, fun _ => rfl, fun m u hu => by
  rcases List.mem_cons.1 hu with rfl | hu
  · rfl
  · rcases List.mem_append.1 hu with hu | hu
    · exact nc_one m.2.hs m.2.hk u hu
    · simp only [List.mem_cons, List.not_mem_nil, or_false] at hu
      rcases hu with rfl | rfl | rfl <;> rfl⟩
theorem encs_R1 (m : RM) : encs [m] = rmC m := by simp [encs, Enc.enc]
theorem bs_sealskinref12_Step_1 (m : RM) (v : Value) (h : v = .agg (rmC m).toArray) : ∀ w : World, (Instr.buildSlice 76 1 #[(0, v)]).run Tryd.prog w = .ok (.slice (some ⟨w.heap.size, 0, none⟩) 1 1) (w.alloc (.cells (encs [m]).toArray 135 (0, 0))) := by
  intro w; rw [encs_R1, h]; kernel_rfl
theorem bl_sealskinref12_Step_012 (a : Int) (p : Pc) (x : Int) : ∀ w, (Instr.build 135 #[(0, .int .i64 a), (1, p.val), (2, .int .i64 x)]).run Tryd.prog w = .ok (.agg (Value.int .i64 a :: (p.cs ++ [.int .i64 x, .int .i64 0, .int .i64 0])).toArray) w := by
  intro w; kernel_rfl
theorem row_len12 {S : Nat → Prop} {w0 w : World} {L : List Res} {v : Value} {e m : Nat} {ms : List RM} (h : Hp S w0 w (.row v e 12 m (encs ms) :: L)) : Hp S w0 w (.row v e 12 ms.length (encs ms) :: L) := by
  have h1 : w.ownsRow 0 e 12 v m (encs ms) := h.at_ _ (.head _)
  have h2 : ms.length = m := by have := h1.1; rw [encs_length, show Enc.sz RM = 12 from rfl] at this; omega
  rw [h2]; exact h
theorem st_rm {X A B : List RM} {m m' : RM} {u : Value} {k j : Nat} (hX : X = A ++ m :: B) (hj : j < 12) (hk : k = A.length * 12 + j) (hs : (rmC m).set j u = rmC m') : (encs X).take k ++ [u] ++ (encs X).drop (k + 1) = encs (A ++ m' :: B) := by
  subst hX hk
  have e : ∀ t : RM, encs (A ++ t :: B) = encs A ++ (rmC t ++ encs B) := fun t => by rw [encs_append]; simp [encs, Enc.enc]
  rw [e, e, ← hs]
  have hl : (encs A).length = A.length * 12 := encs_length A
  have h5 : (rmC m).length = 12 := rfl
  rw [← hl, List.take_append, List.drop_append, List.take_of_length_le (by omega), List.drop_of_length_le (by omega)]
  rw [show (encs A).length + j - (encs A).length = j by omega, show (encs A).length + j + 1 - (encs A).length = j + 1 by omega]
  rw [List.take_append_of_le_length (by omega), List.drop_append_of_le_length (by omega), List.set_eq_take_append_cons_drop, if_pos (by omega)]
  simp
theorem lk_rm {X A B : List RM} {m : RM} {u : Value} {k j : Nat} (hX : X = A ++ m :: B) (hk : k = A.length * 12 + j) (hu : (rmC m)[j]? = some u) : (encs X)[k]? = some u := by
  subst hX hk
  have e : encs (A ++ m :: B) = encs A ++ (rmC m ++ encs B) := by rw [encs_append]; simp [encs, Enc.enc]
  have hl : (encs A).length = A.length * 12 := encs_length A
  rw [e, List.getElem?_append_right (by omega), show A.length * 12 + j - (encs A).length = j by omega, List.getElem?_append_left (List.getElem?_eq_some_iff.1 hu).1]
  exact hu
theorem map_split {ks : List RM} {A B : List StP} {s : StP} (h : ks.map Prod.fst = A ++ s :: B) : ∃ KA q KB, ks = KA ++ (s, q) :: KB ∧ KA.map Prod.fst = A ∧ KB.map Prod.fst = B := by
  obtain ⟨KA, R, rfl, h1, h2⟩ := List.map_eq_append_iff.1 h
  obtain ⟨m, KB, rfl, h3, h4⟩ := List.map_eq_cons_iff.1 h2
  exact ⟨KA, m.2, KB, by rw [← h3], h1, h4⟩
def RmOk (rs : List Res) (m : RM) : Prop := m.1.k = 0 → m.2.neg = m.1.neg ∧ ∃ s' : List (Int × Int), Res.rd m.2.sv 2 s'.length (spC s') ∈ rs ∧ ∀ c, inS s' c = inS m.1.set c
structure PGR (rs : List Res) (want : List StP) (ks : List RM) (v : Value) : Prop where
  one : v.oneCell' = true
  eq : ks.map Prod.fst = want
  ok : ∀ m ∈ ks, RmOk rs m
theorem PGR.nil {rs : List Res} {v : Value} (h : v.oneCell' = true) : PGR rs [] [] v := ⟨h, rfl, fun m hm => by cases hm⟩
theorem PGR.app {rs : List Res} {a b : List StP} {ka kb : List RM} {v v' : Value} (h : PGR rs a ka v) (h' : PGR rs b kb v') : PGR rs (a ++ b) (ka ++ kb) v' := ⟨h'.one, by rw [List.map_append, h.eq, h'.eq], fun m hm => (List.mem_append.1 hm).elim (h.ok m) (h'.ok m)⟩
theorem PGR.len {rs : List Res} {a : List StP} {ka : List RM} {v : Value} (h : PGR rs a ka v) : ka.length = a.length := by rw [← h.eq, List.length_map]
theorem PGR.one1 {rs : List Res} {s : StP} {p : Pc} {v : Value} (hv : v.oneCell' = true) (h : s.k = 0 → RmOk rs (s, p)) : PGR rs [s] [(s, p)] v := ⟨hv, rfl, fun m hm => by rw [List.mem_singleton.1 hm]; exact fun h0 => h h0 h0⟩
abbrev stRow (v : Value) (ms : List RM) : Res := .row v 135 12 ms.length (encs ms)
def HProg (rs : List Res) (t : Nd) (p : Pc) : Prop := ∀ (S : Nat → Prop) (w0 : World) (F : List Res) (lv : Value) (ms : List RM), fz rs ∈ F → lv.oneCell' = true → ms.length + clen t ≤ 5000 →
  CallX Tryd.prog 87 [lv, Pc.val p] S w0 (stRow lv ms :: F) (fun u L' => ∃ v' ks, u = v' ∧ PGR rs (pcN t ms.length) ks v' ∧ L' = stRow v' (ms ++ ks) :: F)
theorem xprogl_x (rs : List Res) (p : Pc) (lv : Value) (ms : List RM) (ng : Bool) (sp : List (Int × Int)) (want : List StP) (hlv : lv.oneCell' = true) (hb : ms.length + 1 ≤ 5000) (h1 : p.k = 1 → want = [⟨0, ng, sp, ms.length + 1, 0⟩] ∧ RmOk rs (⟨0, ng, sp, ms.length + 1, 0⟩, p)) (h2 : p.k = 2 → want = [⟨3, false, [], ms.length + 1, 0⟩]) (h3 : p.k = 3 → want = [⟨4, false, [], ms.length + 1, 0⟩]) (hk : p.k = 1 ∨ p.k = 2 ∨ p.k = 3) :
    CallX Tryd.prog 87 [lv, Pc.val p] S w0 (stRow lv (ms) :: F) (fun u L' => ∃ v' ks, u = v' ∧ PGR rs (want) ks v' ∧ L' = stRow v' (ms ++ ks) :: F) := by
 intro w hp
 refine calls_start Tryd.func87 rfl rfl rfl (hp) ?_
 refine TC.seq (TC.region ?_)
 refine TL.opX rfl (OpX.box (cs := (Pc.cs p)) rfl rfl) ?_; rintro _ _ ⟨g3, rfl, rfl⟩
 refine TL.as rfl rfl (TL.nil (TQ.then (TC.seq (TC.seq (TC.region (TL.opP rfl (op_field fld_sealskinref12_Part_Kind rfl) (TL.opV rfl (op_load ts_int rfl m0 rfl) (TL.nil (TQ.then (TC.block (TC.seq (TC.seq (TC.region (TL.opP rfl (op_eql rfl rfl) (TL.as rfl rfl (TL.nil (TQ.then ?_)))))))))))))))))
 refine TC.sp rfl (fun c1 => ?_) (fun c1 => ?_)
 ·refine TC.skip (TQ.then (TC.condT rfl (TC.region (TL.mv rfl rfl (TL.opP rfl (op_field fld_sealskinref12_Part_Kind rfl) (TL.opV rfl (op_load ts_int rfl m0 rfl) (TL.opV rfl (op_loadS tst_sealskinref12_Part rfl m0 rfl) (TL.mv rfl rfl (TL.opV rfl (op_lenV rfl un_sl_sealskinref12_Step rfl rw1) (TL.opP rfl (op_add (r := ((ms.length + 1 : Nat) : Int)) rfl rfl (by omega) (by omega) (by omega)) (TL.opP rfl (op_build (ps := #[(0, _), (1, _), (2, _)]) rfl (bl_sealskinref12_Step_012 _ _ _)) ?_)))))))))))
  refine TL.opX rfl (OpX.buildSlice (ps := #[(0, _)]) rfl (bs_sealskinref12_Step_1 ((⟨0, ng, sp, ms.length + 1, 0⟩, p)) _ (by rw [c1]; kernel_rfl))) ?_; rintro _ _ ⟨g32, rfl, rfl⟩
  refine TL.hp (fun _ h => blk_row (k := 12) (m := 1) h rfl (by decide)) (TL.hp (fun _ h => h.pick2) ?_)
  refine TL.opX rfl (OpX.append (bytes := 128) tsl_sealskinref12_Step (by decide) (by decide) rfl rw1 (encs_one _) (by omega) (zs := encs (ms ++ [(⟨0, ng, sp, ms.length + 1, 0⟩, p)])) (encs_append _ _).symm) ?_; rintro v1 _ rfl
  refine TL.know (fun _ h => row1 h) (fun o1 => (TL.hp (fun _ h => row_len12 h) (TL.as rfl rfl (TL.nil (TQ.block_normal (TQ.then (TC.seq (TC.region (TL.mv rfl rfl (TL.as rfl rfl (TL.nil (TQ.then (TC.ret ?_)))))))))))))
  refine ret1 rfl rfl (fun w' hp => ?_)
  exact ⟨_, _, rfl, ⟨_, _, rfl, by rw [(h1 c1).1]; exact .one1 (by assumption) (fun _ => (h1 c1).2), rfl⟩, (hp.drop2.drop1)⟩
 ·refine TC.seq (TC.region (TL.opP rfl (op_eql rfl rfl) (TL.as rfl rfl (TL.nil (TQ.then ?_)))))
  refine TC.sp rfl (fun c2 => ?_) (fun c2 => ?_)
  ·refine TC.skip (TQ.then (TC.condT rfl (TC.region (TL.mv rfl rfl (TL.opP rfl (op_field fld_sealskinref12_Part_Kind rfl) (TL.opV rfl (op_load ts_int rfl m0 rfl) (TL.opV rfl (op_loadS tst_sealskinref12_Part rfl m0 rfl) (TL.mv rfl rfl (TL.opV rfl (op_lenV rfl un_sl_sealskinref12_Step rfl rw1) (TL.opP rfl (op_add (r := ((ms.length + 1 : Nat) : Int)) rfl rfl (by omega) (by omega) (by omega)) (TL.opP rfl (op_build (ps := #[(0, _), (1, _), (2, _)]) rfl (bl_sealskinref12_Step_012 _ _ _)) ?_)))))))))))
   refine TL.opX rfl (OpX.buildSlice (ps := #[(0, _)]) rfl (bs_sealskinref12_Step_1 ((⟨3, false, [], ms.length + 1, 0⟩, p)) _ (by rw [c2]; kernel_rfl))) ?_; rintro _ _ ⟨g32, rfl, rfl⟩
   refine TL.hp (fun _ h => blk_row (k := 12) (m := 1) h rfl (by decide)) (TL.hp (fun _ h => h.pick2) ?_)
   refine TL.opX rfl (OpX.append (bytes := 128) tsl_sealskinref12_Step (by decide) (by decide) rfl rw1 (encs_one _) (by omega) (zs := encs (ms ++ [(⟨3, false, [], ms.length + 1, 0⟩, p)])) (encs_append _ _).symm) ?_; rintro v2 _ rfl
   refine TL.know (fun _ h => row1 h) (fun o2 => (TL.hp (fun _ h => row_len12 h) (TL.as rfl rfl (TL.nil (TQ.block_normal (TQ.then (TC.seq (TC.region (TL.mv rfl rfl (TL.as rfl rfl (TL.nil (TQ.then (TC.ret ?_)))))))))))))
   refine ret1 rfl rfl (fun w' hp => ?_)
   exact ⟨_, _, rfl, ⟨_, _, rfl, by rw [h2 c2]; exact .one1 (by assumption) (fun h => absurd (show (3 : Int) = 0 from h) (show ¬ (3 : Int) = 0 by decide)), rfl⟩, (hp.drop2.drop1)⟩
  ·refine TC.region (TL.opP rfl (op_eql rfl rfl) (TL.as rfl rfl (TL.nil (TQ.then ?_))))
   refine TC.sp rfl (fun c3 => ?_) (fun c3 => ?_)
   ·refine TC.region (TL.mv rfl rfl (TL.opP rfl (op_field fld_sealskinref12_Part_Kind rfl) (TL.opV rfl (op_load ts_int rfl m0 rfl) (TL.opV rfl (op_loadS tst_sealskinref12_Part rfl m0 rfl) (TL.mv rfl rfl (TL.opV rfl (op_lenV rfl un_sl_sealskinref12_Step rfl rw1) (TL.opP rfl (op_add (r := ((ms.length + 1 : Nat) : Int)) rfl rfl (by omega) (by omega) (by omega)) (TL.opP rfl (op_build (ps := #[(0, _), (1, _), (2, _)]) rfl (bl_sealskinref12_Step_012 _ _ _)) ?_))))))))
    refine TL.opX rfl (OpX.buildSlice (ps := #[(0, _)]) rfl (bs_sealskinref12_Step_1 ((⟨4, false, [], ms.length + 1, 0⟩, p)) _ (by rw [c3]; kernel_rfl))) ?_; rintro _ _ ⟨g32, rfl, rfl⟩
    refine TL.hp (fun _ h => blk_row (k := 12) (m := 1) h rfl (by decide)) (TL.hp (fun _ h => h.pick2) ?_)
    refine TL.opX rfl (OpX.append (bytes := 128) tsl_sealskinref12_Step (by decide) (by decide) rfl rw1 (encs_one _) (by omega) (zs := encs (ms ++ [(⟨4, false, [], ms.length + 1, 0⟩, p)])) (encs_append _ _).symm) ?_; rintro v3 _ rfl
    refine TL.know (fun _ h => row1 h) (fun o3 => (TL.hp (fun _ h => row_len12 h) (TL.as rfl rfl (TL.nil (TQ.block_normal (TQ.then (TC.seq (TC.region (TL.mv rfl rfl (TL.as rfl rfl (TL.nil (TQ.then (TC.ret ?_)))))))))))))
    refine ret1 rfl rfl (fun w' hp => ?_)
    exact ⟨_, _, rfl, ⟨_, _, rfl, by rw [h3 c3]; exact .one1 (by assumption) (fun h => absurd (show (4 : Int) = 0 from h) (show ¬ (4 : Int) = 0 by decide)), rfl⟩, (hp.drop2.drop1)⟩
   ·omega

theorem pcS_snoc (t : Nd) : ∀ (k : List Nd) (b : Nat), pcS (k ++ [t]) b = pcS k b ++ pcN t (b + clens k)
  | [], b => by show pcN t b ++ pcS [] _ = _; rw [pcS, pcS, clens, List.append_nil, List.nil_append, Nat.add_zero]
  | a :: r, b => by rw [List.cons_append, pcS, pcS, pcS_snoc t r, clens, List.append_assoc, Nat.add_assoc]
theorem clens_append (a b : List Nd) : clens (a ++ b) = clens a + clens b := by
  induction a with
  | nil => simp [clens]
  | cons x r ih => rw [List.cons_append, clens, clens, ih]; omega
theorem take_nd {k : List Nd} {j : Nat} (h : j < k.length) : k.take (j + 1) = k.take j ++ [k.getD j .bol] := by
  rw [List.take_add_one, List.getElem?_eq_getElem h, List.getD_eq_getElem?_getD, List.getElem?_eq_getElem h]; rfl
theorem clens_take {k : List Nd} {j : Nat} (h : j < k.length) : clens (k.take j) + clen (k.getD j .bol) ≤ clens k := by
  have e := List.take_append_drop (j + 1) k
  have := congrArg clens e
  rw [clens_append, take_nd h, clens_append] at this
  simp only [clens] at this; omega
theorem xprogs_x (rs : List Res) (p : Pc) (lv : Value) (ms : List RM) (kd : List Nd) (ps : List Pc) (hk : p.k = 4) (hz : fz rs ∈ F) (hkv : Rdb F p.kv 8 ps.length (encs ps)) (hpl : kd.length = ps.length) (hpl2 : ps.length ≤ 5000) (hlv : lv.oneCell' = true) (hb : ms.length + clens kd ≤ 5000) (ih : ∀ j, j < ps.length → HProg rs (kd.getD j .bol) (ps.getD j default)) :
    CallX Tryd.prog 87 [lv, Pc.val p] S w0 (stRow lv (ms) :: F) (fun u L' => ∃ v' ks, u = v' ∧ PGR rs (pcS kd ms.length) ks v' ∧ L' = stRow v' (ms ++ ks) :: F) := by
 intro w hp
 refine calls_start Tryd.func87 rfl rfl rfl (hp) ?_
 refine TC.seq (TC.region ?_)
 refine TL.opX rfl (OpX.box (cs := (Pc.cs p)) rfl rfl) ?_; rintro _ _ ⟨g3, rfl, rfl⟩
 refine TL.as rfl rfl (TL.nil (TQ.then (TC.seq (TC.seq (TC.region (TL.opP rfl (op_field fld_sealskinref12_Part_Kind rfl) (TL.opV rfl (op_load ts_int rfl m0 rfl) (TL.nil (TQ.then (TC.block (TC.seq (TC.seq (TC.region (TL.opP rfl (op_eql rfl rfl) (TL.as rfl rfl (TL.nil (TQ.then ?_)))))))))))))))))
 refine TC.sp rfl (fun c1 => ?_) (fun c1 => ?_)
 ·omega
 ·refine TC.seq (TC.region (TL.opP rfl (op_eql rfl rfl) (TL.as rfl rfl (TL.nil (TQ.then ?_)))))
  refine TC.sp rfl (fun c2 => ?_) (fun c2 => ?_)
  ·omega
  ·refine TC.region (TL.opP rfl (op_eql rfl rfl) (TL.as rfl rfl (TL.nil (TQ.then ?_))))
   refine TC.sp rfl (fun c3 => ?_) (fun c3 => ?_)
   ·omega
   ·refine TC.seq (TC.region (TL.opP rfl (op_eql rfl rfl) (TL.as rfl rfl (TL.nil (TQ.then ?_)))))
    refine TC.sp rfl (fun c4 => ?_) (fun c4 => ?_)
    ·refine TC.seq (TC.region (TL.opP rfl (op_field fld_sealskinref12_Part_Kids rfl) (TL.opV rfl (op_load ts_sl_sealskinref12_Part rfl m0 rfl) (TL.opV rfl (op_lenV rfl un_sl_sealskinref12_Part rfl hkv.cons.cons) (TL.mv rfl rfl (TL.nil (TQ.then (TC.block ?_))))))))
     refine TC.loop (ι := Nat × Value × List RM) (fun (j, v, ks) => [(0, v), (3, .pointer (some ⟨g3, 0, none⟩)), (37, p.kv), (38, .int .i64 (ps.length : Int)), (39, .int .i64 (j : Int))]) (fun (j, v, ks) => stRow v (ms ++ ks) :: .blk g3 (.cells (Pc.cs p).toArray 130 (0, 0)) :: F) (fun (j, v, ks) => j ≤ ps.length ∧ PGR rs (pcS (kd.take j) ms.length) ks v) (fun (j, v, ks) => ps.length - j) ((0, lv, [])) (⟨Nat.zero_le _, .nil hlv⟩) ⟨rfl, rfl, rfl, rfl, rfl, trivial⟩ (fun _ h => by dsimp only; rw [List.append_nil]; exact h.pick1) ?_
     rintro ⟨j, v, ks⟩ ⟨hj, I⟩
     have hIl := I.len
     show TC _ _ _ _ [(0, v), (3, .pointer (some ⟨g3, 0, none⟩)), (37, p.kv), (38, .int .i64 (ps.length : Int)), (39, .int .i64 (j : Int))] _ _ (stRow v (ms ++ ks) :: .blk g3 (.cells (Pc.cs p).toArray 130 (0, 0)) :: F)
     refine TC.seq (TC.region (TL.opP rfl (op_lss rfl rfl) (TL.nil (TQ.then (TC.seq ?_)))))
     refine TC.sp rfl (fun c5 => ?_) (fun c5 => ?_)
     ·have hkl : j < ps.length := by omega
      obtain ⟨q, hpk⟩ : ∃ q, ps.getD j default = q := ⟨_, rfl⟩
      have hih := ih j hkl
      rw [hpk] at hih
      have hct := clens_take (k := kd) (j := j) (by omega)
      rw [pcS_len] at hIl
      have hwl : (ms ++ ks).length = ms.length + clens (kd.take j) := by rw [List.length_append, hIl]
      refine TC.skip (TQ.then (TC.seq (TC.block (TC.seq (TC.region (TL.opV rfl (op_index tsl_sealskinref12_Part rfl hkv.cons.cons rfl (by omega) (by omega)) (TL.opV rfl (op_loadRS tst_sealskinref12_Part rfl hkv.cons.cons (cs := Pc.cs q) rfl (lkS hkl hpk) (by decide)) ?_)))))))
      refine TL.opX rfl (OpX.alloc tz_sealskinref12_Part rfl) ?_; rintro _ _ ⟨g6, rfl, rfl⟩
      refine TL.opX0 (OpX.storeS tst_sealskinref12_Part rfl rfl rfl rfl rfl (nc_one (Pc.hs _) (Pc.hk _))) ?_; rintro _ _ rfl
      refine TL.nil (TQ.then (TC.region (TL.mv rfl rfl (TL.opV rfl (op_loadS tst_sealskinref12_Part rfl m0 rfl) (TL.hp (fun _ h => h.pick1) ?_)))))
      refine TL.opX rfl (OpX.callX en_87 rfl (hih _ _ _ v (ms ++ ks) (.tail _ (.tail _ hz)) I.one (by omega))) ?_; rintro vP1 _ ⟨_, kP1, rfl, hP1, rfl⟩
      refine TL.as rfl rfl (TL.nil (TQ.block_normal (TQ.then (TC.region (TL.opP rfl (op_add rfl rfl rfl (by omega) (by omega)) (TL.mv rfl rfl (TL.nil ?_)))))))
      exact TQ.round (j + 1, vP1, ks ++ kP1) (by (try dsimp only); exact ⟨by omega, by rw [take_nd (by omega), pcS_snoc, ← hwl]; exact I.app hP1⟩) (by show ps.length - (j + 1) < ps.length - j; omega) ⟨rfl, rfl, rfl, rfl, rfl, trivial⟩ (fun _ h => by dsimp only; rw [← List.append_assoc]; exact h.drop1)
     ·rw [List.take_of_length_le (by omega)] at I
      refine TC.exit (TQ.then_exit (TQ.loop_exit (TQ.block_hit (TQ.block_normal (TQ.then (TC.seq (TC.region (TL.mv rfl rfl (TL.as rfl rfl (TL.nil (TQ.then (TC.ret ?_))))))))))))
      refine ret1 rfl rfl (fun w' hp => ?_)
      exact ⟨_, _, rfl, ⟨_, _, rfl, I, rfl⟩, (hp.drop1)⟩
    ·omega

theorem grp_fin {rs : List Res} {ms kP : List RM} {t0 : Nd} {num : Nat} {d1 d2 : Pc} {v v' : Value} {f : RM} (h : PGR rs (pcN t0 (ms ++ [f]).length) kP v) (hv : v'.oneCell' = true) :
    PGR rs (pcN (.grp t0 num) ms.length) ((⟨2, false, [], ms.length + 1, 2 * num⟩, d1) :: (kP ++ [(⟨2, false, [], ms.length + clen t0 + 2, 2 * num + 1⟩, d2)])) v' := by
  rw [List.length_append, List.length_singleton] at h
  refine ⟨hv, by rw [pcN, List.map_cons, List.map_append, h.eq]; rfl, fun m hm => ?_⟩
  rcases List.mem_cons.1 hm with rfl | hm
  · exact fun h0 => absurd (show (2 : Int) = 0 from h0) (show ¬ (2 : Int) = 0 by decide)
  · rcases List.mem_append.1 hm with hm | hm
    · exact h.ok m hm
    · rw [List.mem_singleton.1 hm]; exact fun h0 => absurd (show (2 : Int) = 0 from h0) (show ¬ (2 : Int) = 0 by decide)
theorem xprogg_x (rs : List Res) (p : Pc) (lv : Value) (ms : List RM) (t0 : Nd) (q : Pc) (num : Nat) (hk : p.k = 7) (hnum : p.num = (num : Int)) (hn2 : num ≤ 1000) (hz : fz rs ∈ F) (hkv : Rdb F p.kv 8 1 (encs [q])) (hlv : lv.oneCell' = true) (hb : ms.length + clen t0 + 2 ≤ 5000) (ih : HProg rs t0 q) :
    CallX Tryd.prog 87 [lv, Pc.val p] S w0 (stRow lv (ms) :: F) (fun u L' => ∃ v' ks, u = v' ∧ PGR rs (pcN (.grp t0 num) ms.length) ks v' ∧ L' = stRow v' (ms ++ ks) :: F) := by
 intro w hp
 refine calls_start Tryd.func87 rfl rfl rfl (hp) ?_
 refine TC.seq (TC.region ?_)
 refine TL.opX rfl (OpX.box (cs := (Pc.cs p)) rfl rfl) ?_; rintro _ _ ⟨g3, rfl, rfl⟩
 refine TL.as rfl rfl (TL.nil (TQ.then (TC.seq (TC.seq (TC.region (TL.opP rfl (op_field fld_sealskinref12_Part_Kind rfl) (TL.opV rfl (op_load ts_int rfl m0 rfl) (TL.nil (TQ.then (TC.block (TC.seq (TC.seq (TC.region (TL.opP rfl (op_eql rfl rfl) (TL.as rfl rfl (TL.nil (TQ.then ?_)))))))))))))))))
 refine TC.sp rfl (fun c1 => ?_) (fun c1 => ?_)
 ·omega
 ·refine TC.seq (TC.region (TL.opP rfl (op_eql rfl rfl) (TL.as rfl rfl (TL.nil (TQ.then ?_)))))
  refine TC.sp rfl (fun c2 => ?_) (fun c2 => ?_)
  ·omega
  ·refine TC.region (TL.opP rfl (op_eql rfl rfl) (TL.as rfl rfl (TL.nil (TQ.then ?_))))
   refine TC.sp rfl (fun c3 => ?_) (fun c3 => ?_)
   ·omega
   ·refine TC.seq (TC.region (TL.opP rfl (op_eql rfl rfl) (TL.as rfl rfl (TL.nil (TQ.then ?_)))))
    refine TC.sp rfl (fun c4 => ?_) (fun c4 => ?_)
    ·omega
    ·refine TC.seq (TC.region (TL.opP rfl (op_eql rfl rfl) (TL.as rfl rfl (TL.nil (TQ.then ?_)))))
     refine TC.sp rfl (fun c5 => ?_) (fun c5 => ?_)
     ·omega
     ·refine TC.seq (TC.region (TL.opP rfl (op_eql rfl rfl) (TL.as rfl rfl (TL.nil (TQ.then ?_)))))
      refine TC.sp rfl (fun c6 => ?_) (fun c6 => ?_)
      ·omega
      ·refine TC.seq (TC.region (TL.opP rfl (op_eql rfl rfl) (TL.as rfl rfl (TL.nil (TQ.then ?_)))))
       refine TC.sp rfl (fun c7 => ?_) (fun c7 => ?_)
       ·refine TC.seq (TC.region (TL.mv rfl rfl (TL.opP rfl (op_field fld_sealskinref12_Part_Num rfl) (TL.opV rfl (op_load ts_int rfl m0 rfl) (TL.opP rfl (op_mul (r := ((2 * num : Nat) : Int)) rfl rfl (by omega) (by omega) (by omega)) (TL.mv rfl rfl (TL.opV rfl (op_lenV rfl un_sl_sealskinref12_Step rfl rw1) (TL.opP rfl (op_add (r := ((ms.length + 1 : Nat) : Int)) rfl rfl (by omega) (by omega) (by omega)) (TL.opP rfl (op_build (ps := #[(0, _), (4, _), (2, _)]) rfl (bl_sealskinref12_Step_042 _ _ _)) ?_)))))))))
        refine TL.opX rfl (OpX.buildSlice (ps := #[(0, _)]) rfl (bs_sealskinref12_Step_1 ((⟨2, false, [], ms.length + 1, 2 * num⟩, default) : RM) _ (by kernel_rfl))) ?_; rintro _ _ ⟨g225, rfl, rfl⟩
        refine TL.hp (fun _ h => blk_row (k := 12) (m := 1) h rfl (by decide)) (TL.hp (fun _ h => h.pick2) ?_)
        refine TL.opX rfl (OpX.append (bytes := 128) tsl_sealskinref12_Step (by decide) (by decide) rfl rw1 (encs_one _) (by omega) (zs := encs (ms ++ [((⟨2, false, [], ms.length + 1, 2 * num⟩, default) : RM)])) (encs_append _ _).symm) ?_; rintro v1 _ rfl
        refine TL.know (fun _ h => row1 h) (fun o1 => (TL.hp (fun _ h => row_len12 h) (TL.as rfl rfl (TL.nil (TQ.then (TC.seq (TC.region (TL.mv rfl rfl (TL.opP rfl (op_field fld_sealskinref12_Part_Kids rfl) (TL.opV rfl (op_load ts_sl_sealskinref12_Part rfl m2 rfl) (TL.opV rfl (op_index tsl_sealskinref12_Part rfl hkv.cons.cons.cons rfl (by omega) (by omega)) (TL.opV rfl (op_loadRS tst_sealskinref12_Part rfl hkv.cons.cons.cons (cs := Pc.cs q) rfl rfl (by decide)) ?_))))))))))))
        refine TL.opX rfl (OpX.callX en_87 rfl (ih _ _ _ _ (ms ++ [((⟨2, false, [], ms.length + 1, 2 * num⟩, default) : RM)]) (.tail _ (.tail _ hz)) (by assumption) (by rw [List.length_append, List.length_singleton]; omega))) ?_; rintro vP2 _ ⟨_, kP2, rfl, hP2, rfl⟩
        refine TL.opP rfl (op_assign rfl) ?_
        have hkl := hP2.len
        rw [pcN_len] at hkl
        have hwl : (ms ++ [((⟨2, false, [], ms.length + 1, 2 * num⟩, default) : RM)] ++ kP2).length = ms.length + 1 + clen t0 := by rw [List.length_append, List.length_append, List.length_singleton, hkl]
        refine TL.nil (TQ.then (TC.region (TL.mv rfl rfl (TL.opP rfl (op_field fld_sealskinref12_Part_Num rfl) (TL.opV rfl (op_load ts_int rfl m2 rfl) (TL.opP rfl (op_mul (r := ((2 * num : Nat) : Int)) rfl rfl (by omega) (by omega) (by omega)) (TL.opP rfl (op_add (r := ((2 * num + 1 : Nat) : Int)) rfl rfl (by omega) (by omega) (by omega)) (TL.mv rfl rfl (TL.opV rfl (op_lenV rfl un_sl_sealskinref12_Step rfl rw0) (TL.opP rfl (op_add (r := ((ms.length + clen t0 + 2 : Nat) : Int)) rfl rfl (by omega) (by omega) (by omega)) (TL.opP rfl (op_build (ps := #[(0, _), (4, _), (2, _)]) rfl (bl_sealskinref12_Step_042 _ _ _)) ?_)))))))))))
        refine TL.opX rfl (OpX.buildSlice (ps := #[(0, _)]) rfl (bs_sealskinref12_Step_1 ((⟨2, false, [], ms.length + clen t0 + 2, 2 * num + 1⟩, default) : RM) _ (by kernel_rfl))) ?_; rintro _ _ ⟨g242, rfl, rfl⟩
        refine TL.hp (fun _ h => blk_row (k := 12) (m := 1) h rfl (by decide)) (TL.hp (fun _ h => h.pick1) ?_)
        refine TL.opX rfl (OpX.append (bytes := 128) tsl_sealskinref12_Step (by decide) (by decide) rfl rw1 (encs_one _) (by omega) (zs := encs (ms ++ [((⟨2, false, [], ms.length + 1, 2 * num⟩, default) : RM)] ++ kP2 ++ [((⟨2, false, [], ms.length + clen t0 + 2, 2 * num + 1⟩, default) : RM)])) (encs_append _ _).symm) ?_; rintro v3 _ rfl
        refine TL.know (fun _ h => row1 h) (fun o3 => (TL.hp (fun _ h => row_len12 h) (TL.as rfl rfl (TL.nil (TQ.block_normal (TQ.then (TC.seq (TC.region (TL.mv rfl rfl (TL.as rfl rfl (TL.nil (TQ.then (TC.ret ?_)))))))))))))
        refine ret1 rfl rfl (fun w' hp => ?_)
        exact ⟨_, _, rfl, ⟨_, ((⟨2, false, [], ms.length + 1, 2 * num⟩, default) : RM) :: (kP2 ++ [((⟨2, false, [], ms.length + clen t0 + 2, 2 * num + 1⟩, default) : RM)]), rfl, grp_fin hP2 (by assumption), rfl⟩, by have h := (hp.drop3.drop2.drop1); simpa only [List.append_assoc, List.cons_append, List.nil_append] using h⟩
       ·omega

end Go.SK
