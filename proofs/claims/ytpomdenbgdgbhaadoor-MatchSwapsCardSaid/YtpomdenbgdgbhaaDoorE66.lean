/- Walks: layer 12, patterns compiled. -/
import Derived.Test.YtpomdenbgdgbhaaDoorE65
set_option linter.unusedVariables false
set_option linter.unusedSimpArgs false
set_option maxRecDepth 100000
namespace Go.SK
open Go Go.RowKit Go.Proofs
variable {S : Nat → Prop} {w0 : World} {F L : List Res}
/-- What a text is as a pattern. -/
def cmpF (s : ByteArray) : PR Nd := match readF s with
  | .err e j => .err e j
  | .ok t _ g => if 2000 < clen t then .err 4 0 else .ok t 0 g
theorem cmpF_a {s : ByteArray} {e : Int} {j : Nat} (h : readF s = .err e j) : cmpF s = .err e j := by unfold cmpF; rw [h]
theorem cmpF_b {s : ByteArray} {t : Nd} {j g : Nat} (h : readF s = .ok t j g) (h2 : 2000 < clen t) : cmpF s = .err 4 0 := by unfold cmpF; rw [h]; exact if_pos h2
theorem cmpF_c {s : ByteArray} {t : Nd} {j g : Nat} (h : readF s = .ok t j g) (h2 : ¬ 2000 < clen t) : cmpF s = .ok t 0 g := by unfold cmpF; rw [h]; exact if_neg h2
theorem PaRes.bad {s : ByteArray} {rs : List Res} {v : Value} {gn i e : Int} (h : PaRes s rs v gn i e) (he : e ≠ 0) : ∃ j : Nat, readF s = .err e j ∧ i = j ∧ v = .pointer none := by
  unfold PaRes at h
  cases hr : readF s with
  | err e' j => rw [hr] at h; obtain ⟨rfl, b, c, d⟩ := h; exact ⟨j, rfl, c, d⟩
  | ok t j g => rw [hr] at h; exact absurd h.1 he
theorem PaRes.good {s : ByteArray} {rs : List Res} {v : Value} {gn i e : Int} (h : PaRes s rs v gn i e) (he : ¬ e ≠ 0) : ∃ t j g, parseF (dec s) = .ok t j g ∧ valid s = true ∧ (dec s).length ≤ 200 ∧ i = 0 ∧ gn = (g : Nat) ∧ PNd rs t v := by
  unfold PaRes at h
  cases hr : readF s with
  | err e' j => rw [hr] at h; obtain ⟨rfl, b, c, d⟩ := h; exact absurd b he
  | ok t j g =>
    rw [hr] at h
    obtain ⟨a, b, c, d, f⟩ := h
    by_cases hv : valid s = true
    · by_cases hl : 200 < (dec s).length
      · rw [readF_b hv hl] at hr; cases hr
      · rw [readF_c hv (by omega)] at hr; exact ⟨t, j, g, hr, hv, by omega, b, c, f⟩
    · rw [readF_a (by simpa using hv)] at hr; cases hr
theorem MsOk.mono {rs rs' : List Res} {m : MS} (h : rs ⊆ rs') (hm : MsOk rs m) : MsOk rs' m := ⟨hm.1, h hm.2⟩
theorem fz_rowL {w : World} {v : Value} {e m : Nat} {ms : List MS} {rs : List Res} (h : Hp S w0 w (.row v e 5 m (msC ms) :: fz rs :: L)) : Hp S w0 w (fz (.rd v 5 ms.length (msC ms) :: rs) :: L) := fz_row (row_lenMS h)
/-- A pattern in memory: its steps, how many groups. -/
def PgIn (rs : List Res) (v : Value) (pg : List StP) (g : Nat) : Prop := ∃ a lv ms, v = ptrV a ∧ Res.blk a (.cells [lv, .int .i64 (g : Int), .bool true].toArray 81 (0, 0)) ∈ rs ∧ Res.rd lv 5 ms.length (msC ms) ∈ rs ∧ ms.map Prod.fst = pg ∧ ∀ m ∈ ms, MsOk rs m
def CmpRes (s : ByteArray) (rs : List Res) (v : Value) (i e : Int) : Prop := match cmpF s with
  | .ok t _ g => e = 0 ∧ i = 0 ∧ PgIn rs v (progF t) g
  | .err e' j => e = e' ∧ e' ≠ 0 ∧ i = j ∧ v = .pointer none
theorem pcompile_x (s : ByteArray) (hs : s.size ≤ 1048576) (hT : tabs ∈ L) :
    CallX Tryd.prog 55 [.string s] S w0 (L) (fun u L' => ∃ rs v i e, u = .tuple #[v, .int .i64 i, .int .i64 e] ∧ CmpRes s rs v i e ∧ L' = fz rs :: L) := by
 intro w hp
 refine calls_start Tryd.func55 rfl rfl rfl (hp) ?_
 refine TC.seq (TC.region (TL.as rfl rfl (TL.as rfl rfl (TL.as rfl rfl (TL.nil (TQ.then (TC.seq (TC.region (TL.opP rfl (op_move rfl) ?_)))))))))
 refine TL.opX rfl (OpX.callX en_92 rfl (pparse_x s hs hT)) ?_; rintro _ _ ⟨rz1, vz1, gz1, iz1, ez1, rfl, hR1, rfl⟩
 refine TL.mv rfl rfl (TL.opP rfl (op_extract rfl rfl) (TL.opP rfl (op_extract rfl rfl) (TL.opP rfl (op_extract rfl rfl) (TL.opP rfl (op_extract rfl rfl) (TL.as rfl rfl (TL.as rfl rfl (TL.as rfl rfl (TL.as rfl rfl (TL.nil (TQ.then (TC.seq (TC.seq (TC.region (TL.mv rfl rfl (TL.opP rfl (op_neq rfl rfl) (TL.nil (TQ.then ?_)))))))))))))))))
 refine TC.sp rfl (fun c1 => ?_) (fun c1 => ?_)
 ·obtain ⟨j, hE, rfl, rfl⟩ := hR1.bad c1
  refine TC.seq (TC.region (TL.mv rfl rfl (TL.mv rfl rfl (TL.as rfl rfl (TL.as rfl rfl (TL.as rfl rfl (TL.nil (TQ.then (TC.ret (TQ.then_ret ?_))))))))))
  refine ret3 rfl rfl rfl rfl (fun w' hp => ?_)
  exact ⟨_, _, rfl, ⟨_, _, _, _, rfl, by (unfold CmpRes; rw [cmpF_a hE]; exact ⟨rfl, c1, rfl, rfl⟩), rfl⟩, (hp)⟩
 ·obtain ⟨t, j, gg, hE, hv, hln, rfl, rfl, hPN⟩ := hR1.good c1
  obtain ⟨_, hsz, hgg, hok⟩ := parseF_ok hE
  have hok2 := hok.mono (show gg ≤ 200 by omega)
  have hE2 : readF s = .ok t j gg := (readF_c hv hln).trans hE
  refine TC.skip (TQ.then (TC.seq (TC.region (TL.opP rfl (op_build (ps := #[]) rfl (bl_match_maker_ )) ?_))))
  refine TL.opX rfl (OpX.box (cs := _) rfl rfl) ?_; rintro _ _ ⟨g22, rfl, rfl⟩
  refine TL.hp (fun _ h => new_nil 156 5 h) (TL.as rfl rfl (TL.nil (TQ.then (TC.seq (TC.seq (TC.region (TL.hp (fun _ h => h.pick2) (TL.hp (fun _ h => fz_none 2 h) (TL.mv rfl rfl (TL.mv rfl rfl (TL.hp (fun _ h => h.pick1.pick2) ?_)))))))))))
  refine TL.opX rfl (OpX.callX en_93 rfl (hnode _ t (Nat.le_refl _) hok2 _ _ _ _ vz1 g22 nilS [] m0 (.head _) (hPN.mono (fun x hx => .tail _ hx) _ _) rfl (fun _ h => by cases h) (Nat.zero_le _) (by omega))) ?_; rintro _ _ ⟨bA2, vA2, kA2, rfl, hA2, rfl⟩
  refine TL.opP rfl (op_not rfl rfl) (TL.opP rfl (op_move rfl) ?_)
  refine TL.sp (fun c2 => ?_) (fun c2 => ?_)
  ·obtain rfl : bA2 = false := by simpa using c2
   have hno := hA2.no rfl
   rw [pcN_len] at hno
   simp only [List.length_nil] at hno
   refine TL.gFt rfl rfl rfl (TL.gFt rfl rfl rfl (TL.gFt rfl rfl rfl (TL.gFt rfl rfl rfl (TL.gFt rfl rfl rfl (TL.gFt rfl rfl rfl (TL.opP rfl (op_pickT rfl rfl) (TL.nil (TQ.then (TC.condT rfl (TC.seq (TC.region (TL.as rfl rfl (TL.as rfl rfl (TL.as rfl rfl (TL.nil (TQ.then (TC.ret (TQ.then_ret ?_))))))))))))))))))
   refine ret3 rfl rfl rfl rfl (fun w' hp => ?_)
   exact ⟨_, _, rfl, ⟨_, _, _, _, rfl, by (unfold CmpRes; rw [cmpF_b hE2 (by omega)]; exact ⟨rfl, by decide, rfl, rfl⟩), rfl⟩, (hp.drop1.tail)⟩
  ·obtain rfl : bA2 = true := by simpa using c2
   have hyes := hA2.yes rfl
   have hkl := congrArg List.length hyes
   rw [List.length_map, pcN_len] at hkl
   have hkl2 : ([] ++ kA2).length = clen t := hkl
   refine TL.gT rfl rfl (TL.mv rfl rfl (TL.gT rfl rfl (TL.opP rfl (op_nilCheck rfl) (TL.gT rfl rfl (TL.opP rfl (op_field fld_match_maker_l rfl) (TL.gT rfl rfl (TL.opV rfl (op_load ts_sl_match_step rfl m0 rfl) (TL.gT rfl rfl (TL.opV rfl (op_lenV rfl un_sl_match_step rfl rw1) (TL.gT rfl rfl (TL.opP rfl (op_gtr rfl rfl) (TL.opP rfl (op_pickF rfl rfl) (TL.nil (TQ.then ?_))))))))))))))
   refine TC.sp rfl (fun c3 => ?_) (fun c3 => ?_)
   ·refine TC.seq (TC.region (TL.as rfl rfl (TL.as rfl rfl (TL.as rfl rfl (TL.nil (TQ.then (TC.ret (TQ.then_ret ?_))))))))
    refine ret3 rfl rfl rfl rfl (fun w' hp => ?_)
    exact ⟨_, _, rfl, ⟨_, _, _, _, rfl, by (unfold CmpRes; rw [cmpF_b hE2 (by omega)]; exact ⟨rfl, by decide, rfl, rfl⟩), rfl⟩, (hp.drop1.tail)⟩
   ·refine TC.skip (TQ.then (TC.seq (TC.region (TL.mv rfl rfl (TL.opP rfl (op_build (ps := #[(0, _)]) rfl (bl_match_step_0 _)) ?_)))))
    refine TL.opX rfl (OpX.callX en_94 rfl (madd_x g22 vA2 ([] ++ kA2) hA2.one (fun m hm => (hA2.ok m hm).1) ⟨5, false, [], 0, 0⟩ nilS rfl (by first | omega | (simp only [List.length_append, List.length_cons, List.length_nil]; omega)))) ?_; rintro _ _ ⟨wB3, rfl, hwB3, rfl⟩
    refine TL.nil (TQ.then (TC.seq (TC.region (TL.mv rfl rfl (TL.opP rfl (op_nilCheck rfl) (TL.opP rfl (op_field fld_match_maker_l rfl) (TL.opV rfl (op_load ts_sl_match_step rfl m0 rfl) (TL.mv rfl rfl (TL.opP rfl (op_build (ps := #[(0, _), (1, _), (2, _)]) rfl (bl_match_Pattern_012 _ _ _)) ?_)))))))))
    refine TL.opX rfl (OpX.box (cs := _) rfl rfl) ?_; rintro _ _ ⟨g44, rfl, rfl⟩
    refine TL.as rfl rfl (TL.as rfl rfl (TL.as rfl rfl (TL.nil (TQ.then (TC.ret ?_)))))
    refine ret3 rfl rfl rfl rfl (fun w' hp => ?_)
    exact ⟨_, _, rfl, ⟨_, _, _, _, rfl, by (unfold CmpRes; rw [cmpF_c hE2 (by omega)]; exact ⟨rfl, rfl, _, _, _, rfl, .head _, .tail _ (.head _), by (unfold progF; rw [List.nil_append, List.map_append, hyes]; rfl), fun m hm => MsOk.mono (fun x hx => .tail _ (.tail _ hx)) (ok_snoc hA2.ok (ok_cons (ok_nil (.head _)) (fun _ h => by cases h)) m hm)⟩), rfl⟩, fz_blk (Hp.pick1 (fz_rowL (hp.drop1.pick2.pick2)))⟩

end Go.SK
