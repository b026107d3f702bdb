/- Walks: the document's transformation: an edit spread out, behind another one. -/
import Derived.Test.YtlbaebaimhbbfaaDoorE45
set_option linter.unusedVariables false
set_option linter.unusedSimpArgs false
set_option maxRecDepth 100000
namespace Go.SK
open Go Go.RowKit Go.Proofs
variable {S : Nat → Prop} {w0 : World} {F L : List Res}
class BIs (b : Bool) (p q : outParam Prop) : Prop where
  t : b = true → p
  f : b = false → q
instance (priority := low) {b : Bool} : BIs b (b = true) (b = false) := ⟨id, id⟩
instance {p : Prop} [Decidable p] : BIs (decide p) p (¬ p) := ⟨of_decide_eq_true, of_decide_eq_false⟩
instance {p : Prop} [Decidable p] : BIs (!decide p) (¬ p) p := ⟨fun h => of_decide_eq_false (by simpa using h), fun h => of_decide_eq_true (by simpa using h)⟩
section
variable {P : Program} {Q : Exit → Act → World → Prop} {n : Nat} {l : FrL} {S : Nat → Prop} {w0 : World} {L LS : List Res} {ops : Array Oper} {rest : List Oper} {ord : Od} {t : Nat} {b : Bool} {p q : Prop} [BIs b p q]
theorem TL.sp (ht : p → TL P ops Q rest n ((t, .bool true) :: l) S w0 L) (hf : q → TL P ops Q rest n ((t, .bool false) :: l) S w0 L) : TL P ops Q rest n ((t, .bool b) :: l) S w0 L := by
  cases b with
  | true => exact ht (BIs.t (q := q) rfl)
  | false => exact hf (BIs.f (p := p) rfl)
theorem TR.sp (ht : p → TR P ops Q LS ord n ((t, .bool true) :: l) S w0 L) (hf : q → TR P ops Q LS ord n ((t, .bool false) :: l) S w0 L) : TR P ops Q LS ord n ((t, .bool b) :: l) S w0 L := by
  cases b with
  | true => exact ht (BIs.t (q := q) rfl)
  | false => exact hf (BIs.f (p := p) rfl)
theorem TC.sp {x y : Code} (hc : evO l (.tmp t) = some (.bool b)) (ht : p → TC P x Q n ((t, .bool true) :: l) S w0 L) (hf : q → TC P y Q n ((t, .bool false) :: l) S w0 L) : TC P (.cond (.tmp t) x y) Q n l S w0 L :=
  TC.condB hc (fun h => ht (BIs.t (q := q) h)) (fun h => hf (BIs.f (p := p) h))
end
theorem getD_psum : ∀ (A : List (List Int)) (k : Nat), ((A.getD k []).length : Int) ≤ psum A
  | [], k => by simp [psum]
  | t :: r, 0 => by have := psum_pos r; simp only [List.getD_cons_zero, psum]; omega
  | t :: r, k + 1 => by have := getD_psum r k; simp only [List.getD_cons_succ, psum]; omega
theorem psD {P : List (List Int)} {i : Nat} {x : List Int} (h : i < P.length) (hx : P.getD i [] = x) : psum (P.drop i) = x.length + psum (P.drop (i + 1)) := by
  rw [getD_drop h hx]; rfl
/-- How far meet has come, and how big it is. -/
structure MeJ (f : Bool) (P : List (List Int)) (D : List Bool) (Y : List (List Int)) (E : List Bool) (i : Nat) (A : List (List Int)) (B : List Bool) : Prop where
  I : MeI f P D Y E i A B
  ps : psum A + psum (P.drop i) = psum P
  ln : (A.length : Int) + psum (Y.drop i) ≤ (i : Int) + 1 + psum Y
section
variable {f : Bool} {P Y A A' : List (List Int)} {D E B B' : List Bool} {i : Nat} {x y : List Int}
theorem MeJ.start : MeJ f P D Y E 0 [[]] [] := ⟨MeI.start, by show psum [[]] + psum P = psum P; simp [psum], by show ((1 : Nat) : Int) + psum Y ≤ _; omega⟩
theorem MeJ.facts (h : MeJ f P D Y E i A B) (hi : i < P.length) (hY : Y.length = P.length) (hx : P.getD i [] = x) (hy : Y.getD i [] = y) :
    0 < A.length ∧ A.length = B.length + 1 ∧ (A.length : Int) + y.length ≤ (i : Int) + 1 + psum Y ∧ (∀ k j : Nat, (((A ++ rpE j).getD k []).length : Int) + x.length ≤ psum P) ∧ (y.length : Int) ≤ psum Y := by
  have h9 := getD_psum Y i
  rw [hy] at h9
  have h1 := h.I.len; have h2 := h.ps; have h3 := h.ln
  rw [psD hi hx] at h2
  rw [psD (by omega) hy] at h3
  have p1 := psum_pos (P.drop (i + 1)); have p2 := psum_pos (Y.drop (i + 1))
  refine ⟨by omega, h1, by omega, fun k j => ?_, by omega⟩
  have := getD_psum (A ++ rpE j) k
  rw [psum_append, psum_rep] at this
  omega
theorem MeJ.next (h : MeJ f P D Y E i A B) (hi : i < P.length) (hP : P.length = D.length + 1) (hY : Y.length = P.length) (hx : P.getD i [] = x) (hy : Y.getD i [] = y) (hA : A' = stW f x y.length A) (hB : B' = B ++ List.replicate y.length false) :
    (¬ i < D.length → MeJ f P D Y E (i + 1) A' B') ∧ (i < D.length → E.getD i false = true → MeJ f P D Y E (i + 1) A' B') ∧ (i < D.length → E.getD i false = false → MeJ f P D Y E (i + 1) (A' ++ [[]]) (B' ++ [D.getD i false])) := by
  have h1 := h.I.len; have h2 := h.ps; have h3 := h.ln
  rw [psD hi hx] at h2
  rw [psD (by omega) hy] at h3
  have e1 : psum A' = psum A + x.length := by rw [hA, psum_st _ _ _ (by omega)]
  have e2 : A'.length = A.length + y.length := by rw [hA, stW_len]
  subst hx hy hA hB
  refine ⟨fun hd => ⟨h.I.last (by omega), by omega, by push_cast; omega⟩, fun hd he => ⟨h.I.skip hd he, by omega, by push_cast; omega⟩, fun hd he => ⟨h.I.stay hd he, ?_, ?_⟩⟩
  · rw [psum_append]; simp only [psum, List.length_nil]; omega
  · rw [List.length_append, List.length_singleton]; push_cast; omega
theorem rp_succ (A : List (List Int)) (j : Nat) : A ++ rpE j ++ [[]] = A ++ rpE (j + 1) := by rw [List.append_assoc]; exact congrArg (A ++ ·) List.replicate_succ'.symm
theorem rb_succ (B : List Bool) (j : Nat) : B ++ List.replicate j false ++ [false] = B ++ List.replicate (j + 1) false := by rw [List.append_assoc]; exact congrArg (B ++ ·) List.replicate_succ'.symm
end
set_option maxHeartbeats 2000000
theorem wmeet_x (fb : Bool) (P Y : List (List Int)) (D E : List Bool) (xp xd yp yd : Value) (hP : P.length = D.length + 1) (hY : Y.length = P.length) (hE : E.length = D.length) (hys : scP Y) (hp1 : psum P ≤ 1073741824) (hp2 : psum Y ≤ 1073741824) (hp3 : P.length ≤ 1073741824) (hr : Rdb L xp 1 P.length (P.map sv)) (hr2 : Rdb L xd 1 D.length (D.map bv)) (hs : Rdb L yp 1 Y.length (Y.map sv)) (hs2 : Rdb L yd 1 E.length (E.map bv)) :
    CallX Tryd.prog 65 [.agg #[xp, xd], .agg #[yp, yd], .bool fb] S w0 (L) (fun u L' => ∃ v' w', u = .agg #[v', w'] ∧ L' = .row v' 9 1 ((mt fb P D Y E).1).length (((mt fb P D Y E).1).map sv) :: .row w' 4 1 ((mt fb P D Y E).2).length (((mt fb P D Y E).2).map bv) :: L) := by
 intro w hp
 refine calls_start Tryd.func65 rfl rfl rfl (hp) ?_
 refine TC.seq (TC.region ?_)
 refine TL.opX rfl (OpX.box (cs := [xp, xd]) rfl rfl) ?_; rintro _ _ ⟨g3, rfl, rfl⟩
 refine TL.opX rfl (OpX.box (cs := [yp, yd]) rfl rfl) ?_; rintro _ _ ⟨g4, rfl, rfl⟩
 refine TL.opX rfl (OpX.alloc tz_sealskinref03_Wide rfl) ?_; rintro _ _ ⟨g6, rfl, rfl⟩
 refine TL.nil (TQ.then (TC.seq (TC.region ?_)))
 refine TL.opX rfl (OpX.buildSlice (ps := #[(0, _)]) rfl (bs_string_1 _)) ?_; rintro _ _ ⟨g9, rfl, rfl⟩
 refine TL.hp (fun _ h => blk_row (k := 1) (m := 1) h rfl (by decide)) (TL.opP rfl (op_build (ps := #[(0, _)]) rfl (bl_sealskinref03_Wide_0 _)) ?_)
 refine TL.opX rfl (OpX.alloc tz_sealskinref03_Wide rfl) ?_; rintro _ _ ⟨g7, rfl, rfl⟩
 refine TL.opX0 (OpX.storeS tst_sealskinref03_Wide rfl rfl rfl rfl rfl (by first | exact (List.all_eq_true.1 rfl) | (intro u hu; simp only [List.mem_cons, List.not_mem_nil, or_false] at hu; rcases hu with rfl | rfl <;> assumption))) ?_; rintro _ _ rfl
 refine TL.hp (fun _ h => new_nil 4 1 h) (TL.nil (TQ.then (TC.seq (TC.seq (TC.region (TL.opP rfl (op_field fld_sealskinref03_Wide_Puts rfl) (TL.opV rfl (op_load ts_sl_string rfl m5 rfl) (TL.opV rfl (op_lenV rfl un_sl_string rfl hr.cons.cons.cons.cons.cons.cons) (TL.opP rfl (op_move rfl) (TL.nil (TQ.then (TC.block (TC.loop (ι := Nat × List (List Int) × List Bool × Value × Value) (fun (i, A, B, zv, zw) => [(2, .bool fb), (3, .pointer (some ⟨g3, 0, none⟩)), (4, .pointer (some ⟨g4, 0, none⟩)), (6, .pointer (some ⟨g6, 0, none⟩)), (7, .pointer (some ⟨g7, 0, none⟩)), (13, .int .i64 (P.length : Int)), (14, .int .i64 (i : Int))]) (fun (i, A, B, zv, zw) => .blk g7 (.cells [zv, zw].toArray 93 (0, 0)) :: .row zv 9 1 (A).length ((A).map sv) :: .row zw 4 1 (B).length ((B).map bv) :: .blk g3 (.cells [xp, xd].toArray 93 (0, 0)) :: .blk g4 (.cells [yp, yd].toArray 93 (0, 0)) :: .blk g6 (.cells [.slice none 0 0, .slice none 0 0].toArray 93 (0, 0)) :: L) (fun (i, A, B, zv, zw) => MeJ fb P D Y E i A B ∧ zv.oneCell' = true ∧ zw.oneCell' = true) (fun (i, A, B, zv, zw) => P.length - i) ((0, [[]], [], .slice (some ⟨g9, 0, none⟩) 1 1, .slice none 0 0)) (⟨MeJ.start, rfl, rfl⟩) ⟨rfl, rfl, rfl, rfl, rfl, rfl, rfl, trivial⟩ (fun _ h => h.pick3.pick4.pick5.pick3.pick5.pick5) ?_)))))))))))))
 rintro ⟨i, A, B, zv, zw⟩ ⟨hI, ozv, ozw⟩
 have hil := hI.I.ile
 show TC _ _ _ _ [(2, .bool fb), (3, .pointer (some ⟨g3, 0, none⟩)), (4, .pointer (some ⟨g4, 0, none⟩)), (6, .pointer (some ⟨g6, 0, none⟩)), (7, .pointer (some ⟨g7, 0, none⟩)), (13, .int .i64 (P.length : Int)), (14, .int .i64 (i : Int))] _ _ (.blk g7 (.cells [zv, zw].toArray 93 (0, 0)) :: .row zv 9 1 (A).length ((A).map sv) :: .row zw 4 1 (B).length ((B).map bv) :: .blk g3 (.cells [xp, xd].toArray 93 (0, 0)) :: .blk g4 (.cells [yp, yd].toArray 93 (0, 0)) :: .blk g6 (.cells [.slice none 0 0, .slice none 0 0].toArray 93 (0, 0)) :: L)
 refine TC.seq (TC.region (TL.opP rfl (op_lss rfl rfl) (TL.nil (TQ.then (TC.seq ?_)))))
 refine TC.sp rfl (fun c1 => ?_) (fun c1 => ?_)
 ·obtain ⟨x, hx⟩ : ∃ x, P.getD i [] = x := ⟨_, rfl⟩
  obtain ⟨y, hy⟩ : ∃ y, Y.getD i [] = y := ⟨_, rfl⟩
  obtain ⟨q1, q2, q3, q4, q5⟩ := hI.facts (by omega) hY hx hy
  have hyc : ∀ c ∈ y, scalar c := by rw [← hy]; exact hys _ (by rw [List.getD_eq_getElem?_getD, List.getElem?_eq_getElem (show i < Y.length by omega)]; exact List.getElem_mem _)
  have q6 := q4 (A.length - 1) 0
  rw [show A ++ rpE 0 = A from List.append_nil A] at q6
  have q7 := lastW_len A x
  have q8 := (enc_size y).2
  refine TC.skip (TQ.then (TC.seq (TC.block (TC.seq (TC.region (TL.opP rfl (op_move rfl) (TL.opP rfl (op_assign rfl) (TL.nil (TQ.then (TC.seq (TC.seq (TC.region (TL.opP rfl (op_move rfl) (TL.nil (TQ.then ?_)))))))))))))))
  refine TC.sp rfl (fun c2 => ?_) (fun c2 => ?_)
  ·subst c2
   refine TC.draw [7] (.cons (.p, 1) (.cons (.p, 3) (.cons (.t, 0) (.cons (.t, 2) (.cons (.t, 4) (.cons (.t, 5) (.cons (.o, 6) (.cons (.z, 7) (.nil))))))))) mo (by kernel_rfl) (TR.p rfl rfl wt0 (op_field fld_sealskinref03_Wide_Puts rfl) (TR.p rfl rfl wt0 (op_move rfl) (TR.t rfl rfl wt0 (op_loadS tst_sealskinref03_Wide rfl m0 rfl) (fun _ h => h) (TR.t rfl rfl wt0 (op_load ts_sl_string rfl m3 rfl) (fun _ h => h) (TR.t rfl rfl wt0 (op_index tsl_string rfl hr.cons.cons.cons.cons.cons.cons rfl (by omega) (by omega)) (fun _ h => h) (TR.t rfl rfl wt0 (op_loadR ts_string rfl hr.cons.cons.cons.cons.cons.cons (lkM (d := []) (by omega) hx (by omega))) (fun _ h => h) ?_))))))
   refine TR.o rfl rfl wt0 (OpX.callX en_69 rfl (wlast_x A x zv zw (by omega) (by omega) (by omega) (by assumption) rw1)) (by rintro _ _ ⟨lv1, rfl, olv1, rfl⟩; intro w h; exact h.tail) ?_; rintro _ _ ⟨lv1, rfl, olv1, rfl⟩
   refine TR.hp (fun _ h => h.pick1) ?_
   refine TR.z0 rfl wt0 (OpX.storeS tst_sealskinref03_Wide rfl rfl rfl rfl rfl (by first | exact (List.all_eq_true.1 rfl) | (intro u hu; simp only [List.mem_cons, List.not_mem_nil, or_false] at hu; rcases hu with rfl | rfl <;> assumption))) ?_; rintro _ _ rfl
   refine TR.nil (TQ.then (TC.seq (TC.seq (TC.region (TL.opP rfl (op_field fld_sealskinref03_Wide_Puts rfl) (TL.opV rfl (op_load ts_sl_string rfl m5 rfl) (TL.opP rfl (op_move rfl) (TL.opV rfl (op_index tsl_string rfl hs.cons.cons.cons.cons.cons.cons.cons rfl (by omega) (by omega)) (TL.opV rfl (op_loadR ts_string rfl hs.cons.cons.cons.cons.cons.cons.cons (lkM (d := []) (by omega) hy (by omega))) ?_)))))))))
   refine TL.opX rfl (OpX.callX en_50 rfl (charsE_x y hyc (by omega))) ?_; rintro w2 _ ⟨_, rfl, rfl⟩
   refine TL.opV rfl (op_lenV rfl un_sl_string rfl rw0) (TL.opP rfl (op_move rfl) (TL.nil (TQ.then (TC.block (TC.loop (ι := Nat × List (List Int) × List Bool × Value × Value) (fun (j, A', B', uv, uw) => [(2, .bool true), (3, .pointer (some ⟨g3, 0, none⟩)), (4, .pointer (some ⟨g4, 0, none⟩)), (6, .pointer (some ⟨g6, 0, none⟩)), (7, .pointer (some ⟨g7, 0, none⟩)), (13, .int .i64 (P.length : Int)), (14, .int .i64 (i : Int)), (8, .int .i64 (i : Int)), (31, .int .i64 (y.length : Int)), (32, .int .i64 (j : Int))]) (fun (j, A', B', uv, uw) => .blk g7 (.cells [uv, uw].toArray 93 (0, 0)) :: .row uv 9 1 (A').length ((A').map sv) :: .row uw 4 1 (B').length ((B').map bv) :: .blk g3 (.cells [xp, xd].toArray 93 (0, 0)) :: .blk g4 (.cells [yp, yd].toArray 93 (0, 0)) :: .blk g6 (.cells [.slice none 0 0, .slice none 0 0].toArray 93 (0, 0)) :: L) (fun (j, A', B', uv, uw) => A' = (lastW A x) ++ rpE j ∧ B' = B ++ List.replicate j false ∧ j ≤ y.length ∧ uv.oneCell' = true ∧ uw.oneCell' = true) (fun (j, A', B', uv, uw) => y.length - j) ((0, (lastW A x), B, lv1, zw)) (⟨(List.append_nil _).symm, (List.append_nil _).symm, Nat.zero_le _, by assumption, by assumption⟩) ⟨rfl, rfl, rfl, rfl, rfl, rfl, rfl, rfl, rfl, rfl, trivial⟩ (fun _ h => h.drop3.tail) ?_)))))
   rintro ⟨j, A', B', uv, uw⟩ ⟨hA', hB', hj, ouv, ouw⟩
   have hAl' : A'.length = (lastW A x).length + j := by rw [hA', List.length_append, List.length_replicate]
   have hBl' : B'.length = B.length + j := by rw [hB', List.length_append, List.length_replicate]
   show TC _ _ _ _ [(2, .bool true), (3, .pointer (some ⟨g3, 0, none⟩)), (4, .pointer (some ⟨g4, 0, none⟩)), (6, .pointer (some ⟨g6, 0, none⟩)), (7, .pointer (some ⟨g7, 0, none⟩)), (13, .int .i64 (P.length : Int)), (14, .int .i64 (i : Int)), (8, .int .i64 (i : Int)), (31, .int .i64 (y.length : Int)), (32, .int .i64 (j : Int))] _ _ (.blk g7 (.cells [uv, uw].toArray 93 (0, 0)) :: .row uv 9 1 (A').length ((A').map sv) :: .row uw 4 1 (B').length ((B').map bv) :: .blk g3 (.cells [xp, xd].toArray 93 (0, 0)) :: .blk g4 (.cells [yp, yd].toArray 93 (0, 0)) :: .blk g6 (.cells [.slice none 0 0, .slice none 0 0].toArray 93 (0, 0)) :: L)
   refine TC.seq (TC.region (TL.opP rfl (op_lss rfl rfl) (TL.nil (TQ.then (TC.seq ?_)))))
   refine TC.sp rfl (fun c3 => ?_) (fun c3 => ?_)
   ·refine TC.skip (TQ.then (TC.seq (TC.block (TC.region (TL.opV rfl (op_loadS tst_sealskinref03_Wide rfl m0 rfl) ?_)))))
    refine TL.opX rfl (OpX.callX en_70 rfl (wnext_x A' B' false uv uw (by omega) (by omega) rw1 rw2)) ?_; rintro _ _ ⟨nv3, nw3, rfl, onv3, onw3, rfl⟩
    refine TL.hp (fun _ h => h.pick2) ?_
    refine TL.opX0 (OpX.storeS tst_sealskinref03_Wide rfl rfl rfl rfl rfl (by first | exact (List.all_eq_true.1 rfl) | (intro u hu; simp only [List.mem_cons, List.not_mem_nil, or_false] at hu; rcases hu with rfl | rfl <;> assumption))) ?_; rintro _ _ rfl
    refine TL.nil (TQ.block_normal (TQ.then (TC.region (TL.opP rfl (op_add rfl rfl rfl (by omega) (by omega)) (TL.opP rfl (op_move rfl) (TL.nil ?_))))))
    exact TQ.round (j + 1, A' ++ [[]], B' ++ [false], nv3, nw3) (by (try dsimp only); exact ⟨by rw [hA', rp_succ], by rw [hB', rb_succ], by omega, by assumption, by assumption⟩) (by show _ - (j + 1) < _ - j; omega) ⟨rfl, rfl, rfl, rfl, rfl, rfl, rfl, rfl, rfl, rfl, trivial⟩ (fun _ h => h.drop4.drop3)
   ·obtain rfl : j = y.length := by omega
    have hst : A' = stW true x y.length A := by rw [hA']; rfl
    obtain ⟨n1, n2, n3⟩ := hI.next (by omega) hP hY hx hy hst hB'
    refine TC.exit (TQ.then_exit (TQ.loop_exit (TQ.block_hit (TQ.then (TC.seq (TC.seq (TC.region (TL.opP rfl (op_move rfl) (TL.opP rfl (op_not rfl rfl) (TL.nil (TQ.then ?_)))))))))))
    refine TC.sp rfl (fun c4 => ?_) (fun c4 => ?_)
    ·exact absurd c4 (by decide)
    ·refine TC.skip (TQ.then (TC.seq (TC.region (TL.opP rfl (op_move rfl) (TL.opP rfl (op_field fld_sealskinref03_Wide_Drop rfl) (TL.opV rfl (op_load ts_sl_bool rfl m3 rfl) (TL.opV rfl (op_lenV rfl un_sl_bool rfl hr2.cons.cons.cons.cons.cons.cons) (TL.opP rfl (op_lss rfl rfl) (TL.opP rfl (op_move rfl) ?_)))))))))
     refine TL.sp (fun c5 => ?_) (fun c5 => ?_)
     ·refine TL.gT rfl rfl (TL.opP rfl (op_field fld_sealskinref03_Wide_Drop rfl) (TL.gT rfl rfl (TL.opV rfl (op_load ts_sl_bool rfl m4 rfl) (TL.gT rfl rfl (TL.opP rfl (op_move rfl) (TL.gT rfl rfl (TL.opV rfl (op_index tsl_bool rfl hs2.cons.cons.cons.cons.cons.cons rfl (by omega) (by omega)) (TL.gT rfl rfl (TL.opV rfl (op_loadR ts_bool rfl hs2.cons.cons.cons.cons.cons.cons (lkM (i := i) (d := false) (by omega) rfl (by omega))) (TL.gT rfl rfl (TL.opP rfl (op_not rfl rfl) (TL.opP rfl (op_pickT rfl rfl) (TL.nil (TQ.then ?_))))))))))))))
      refine TC.sp rfl (fun c6 => ?_) (fun c6 => ?_)
      ·refine TC.draw [7] (.cons (.p, 1) (.cons (.p, 3) (.cons (.t, 0) (.cons (.t, 2) (.cons (.t, 4) (.cons (.t, 5) (.cons (.o, 6) (.cons (.z, 7) (.nil))))))))) mo (by kernel_rfl) (TR.p rfl rfl wt0 (op_field fld_sealskinref03_Wide_Drop rfl) (TR.p rfl rfl wt0 (op_move rfl) (TR.t rfl rfl wt0 (op_loadS tst_sealskinref03_Wide rfl m0 rfl) (fun _ h => h) (TR.t rfl rfl wt0 (op_load ts_sl_bool rfl m3 rfl) (fun _ h => h) (TR.t rfl rfl wt0 (op_index tsl_bool rfl hr2.cons.cons.cons.cons.cons.cons rfl (by omega) (by omega)) (fun _ h => h) (TR.t rfl rfl wt0 (op_loadR ts_bool rfl hr2.cons.cons.cons.cons.cons.cons (lkM (i := i) (d := false) (by omega) rfl (by omega))) (fun _ h => h) ?_))))))
       refine TR.o rfl rfl wt0 (OpX.callX en_70 rfl (wnext_x A' B' (D.getD i false) uv uw (by omega) (by omega) rw1 rw2)) (by rintro _ _ ⟨nv4, nw4, rfl, onv4, onw4, rfl⟩; intro w h; exact h.drop1.tail) ?_; rintro _ _ ⟨nv4, nw4, rfl, onv4, onw4, rfl⟩
       refine TR.hp (fun _ h => h.pick2) ?_
       refine TR.z0 rfl wt0 (OpX.storeS tst_sealskinref03_Wide rfl rfl rfl rfl rfl (by first | exact (List.all_eq_true.1 rfl) | (intro u hu; simp only [List.mem_cons, List.not_mem_nil, or_false] at hu; rcases hu with rfl | rfl <;> assumption))) ?_; rintro _ _ rfl
       refine TR.nil (TQ.block_normal (TQ.then (TC.region (TL.opP rfl (op_add rfl rfl rfl (by omega) (by omega)) (TL.opP rfl (op_move rfl) (TL.nil ?_))))))
       exact TQ.round (i + 1, A' ++ [[]], B' ++ [D.getD i false], nv4, nw4) (by (try dsimp only); exact ⟨n3 (by omega) (by simpa using c6), by assumption, by assumption⟩) (by show _ - (i + 1) < _ - i; omega) ⟨rfl, rfl, rfl, rfl, rfl, rfl, rfl, trivial⟩ (fun _ h => h.drop4.drop3)
      ·refine TC.skip (TQ.block_normal (TQ.then (TC.region (TL.opP rfl (op_add rfl rfl rfl (by omega) (by omega)) (TL.opP rfl (op_move rfl) (TL.nil ?_))))))
       exact TQ.round (i + 1, A', B', uv, uw) (by (try dsimp only); exact ⟨n2 (by omega) (by simpa using c6), by assumption, by assumption⟩) (by show _ - (i + 1) < _ - i; omega) ⟨rfl, rfl, rfl, rfl, rfl, rfl, rfl, trivial⟩ (fun _ h => h)
     ·refine TL.gFf rfl rfl rfl (TL.gFf rfl rfl rfl (TL.gFf rfl rfl rfl (TL.gFf rfl rfl rfl (TL.gFf rfl rfl rfl (TL.gFf rfl rfl rfl (TL.opP rfl (op_pickF rfl rfl) (TL.nil (TQ.then (TC.condF rfl (TC.skip (TQ.block_normal (TQ.then (TC.region (TL.opP rfl (op_add rfl rfl rfl (by omega) (by omega)) (TL.opP rfl (op_move rfl) (TL.nil ?_))))))))))))))))
      exact TQ.round (i + 1, A', B', uv, uw) (by (try dsimp only); exact ⟨n1 (by omega), by assumption, by assumption⟩) (by show _ - (i + 1) < _ - i; omega) ⟨rfl, rfl, rfl, rfl, rfl, rfl, rfl, trivial⟩ (fun _ h => h)
  ·subst c2
   refine TC.skip (TQ.then (TC.seq (TC.seq (TC.region (TL.opP rfl (op_field fld_sealskinref03_Wide_Puts rfl) (TL.opV rfl (op_load ts_sl_string rfl m4 rfl) (TL.opP rfl (op_move rfl) (TL.opV rfl (op_index tsl_string rfl hs.cons.cons.cons.cons.cons.cons rfl (by omega) (by omega)) (TL.opV rfl (op_loadR ts_string rfl hs.cons.cons.cons.cons.cons.cons (lkM (d := []) (by omega) hy (by omega))) ?_)))))))))
   refine TL.opX rfl (OpX.callX en_50 rfl (charsE_x y hyc (by omega))) ?_; rintro w5 _ ⟨_, rfl, rfl⟩
   refine TL.opV rfl (op_lenV rfl un_sl_string rfl rw0) (TL.opP rfl (op_move rfl) (TL.nil (TQ.then (TC.block (TC.loop (ι := Nat × List (List Int) × List Bool × Value × Value) (fun (j, A', B', uv, uw) => [(2, .bool false), (3, .pointer (some ⟨g3, 0, none⟩)), (4, .pointer (some ⟨g4, 0, none⟩)), (6, .pointer (some ⟨g6, 0, none⟩)), (7, .pointer (some ⟨g7, 0, none⟩)), (13, .int .i64 (P.length : Int)), (14, .int .i64 (i : Int)), (8, .int .i64 (i : Int)), (31, .int .i64 (y.length : Int)), (32, .int .i64 (j : Int))]) (fun (j, A', B', uv, uw) => .blk g7 (.cells [uv, uw].toArray 93 (0, 0)) :: .row uv 9 1 (A').length ((A').map sv) :: .row uw 4 1 (B').length ((B').map bv) :: .blk g3 (.cells [xp, xd].toArray 93 (0, 0)) :: .blk g4 (.cells [yp, yd].toArray 93 (0, 0)) :: .blk g6 (.cells [.slice none 0 0, .slice none 0 0].toArray 93 (0, 0)) :: L) (fun (j, A', B', uv, uw) => A' = A ++ rpE j ∧ B' = B ++ List.replicate j false ∧ j ≤ y.length ∧ uv.oneCell' = true ∧ uw.oneCell' = true) (fun (j, A', B', uv, uw) => y.length - j) ((0, A, B, zv, zw)) (⟨(List.append_nil _).symm, (List.append_nil _).symm, Nat.zero_le _, by assumption, by assumption⟩) ⟨rfl, rfl, rfl, rfl, rfl, rfl, rfl, rfl, rfl, rfl, trivial⟩ (fun _ h => h.tail) ?_)))))
   rintro ⟨j, A', B', uv, uw⟩ ⟨hA', hB', hj, ouv, ouw⟩
   have hAl' : A'.length = A.length + j := by rw [hA', List.length_append, List.length_replicate]
   have hBl' : B'.length = B.length + j := by rw [hB', List.length_append, List.length_replicate]
   show TC _ _ _ _ [(2, .bool false), (3, .pointer (some ⟨g3, 0, none⟩)), (4, .pointer (some ⟨g4, 0, none⟩)), (6, .pointer (some ⟨g6, 0, none⟩)), (7, .pointer (some ⟨g7, 0, none⟩)), (13, .int .i64 (P.length : Int)), (14, .int .i64 (i : Int)), (8, .int .i64 (i : Int)), (31, .int .i64 (y.length : Int)), (32, .int .i64 (j : Int))] _ _ (.blk g7 (.cells [uv, uw].toArray 93 (0, 0)) :: .row uv 9 1 (A').length ((A').map sv) :: .row uw 4 1 (B').length ((B').map bv) :: .blk g3 (.cells [xp, xd].toArray 93 (0, 0)) :: .blk g4 (.cells [yp, yd].toArray 93 (0, 0)) :: .blk g6 (.cells [.slice none 0 0, .slice none 0 0].toArray 93 (0, 0)) :: L)
   refine TC.seq (TC.region (TL.opP rfl (op_lss rfl rfl) (TL.nil (TQ.then (TC.seq ?_)))))
   refine TC.sp rfl (fun c7 => ?_) (fun c7 => ?_)
   ·refine TC.skip (TQ.then (TC.seq (TC.block (TC.region (TL.opV rfl (op_loadS tst_sealskinref03_Wide rfl m0 rfl) ?_)))))
    refine TL.opX rfl (OpX.callX en_70 rfl (wnext_x A' B' false uv uw (by omega) (by omega) rw1 rw2)) ?_; rintro _ _ ⟨nv6, nw6, rfl, onv6, onw6, rfl⟩
    refine TL.hp (fun _ h => h.pick2) ?_
    refine TL.opX0 (OpX.storeS tst_sealskinref03_Wide rfl rfl rfl rfl rfl (by first | exact (List.all_eq_true.1 rfl) | (intro u hu; simp only [List.mem_cons, List.not_mem_nil, or_false] at hu; rcases hu with rfl | rfl <;> assumption))) ?_; rintro _ _ rfl
    refine TL.nil (TQ.block_normal (TQ.then (TC.region (TL.opP rfl (op_add rfl rfl rfl (by omega) (by omega)) (TL.opP rfl (op_move rfl) (TL.nil ?_))))))
    exact TQ.round (j + 1, A' ++ [[]], B' ++ [false], nv6, nw6) (by (try dsimp only); exact ⟨by rw [hA', rp_succ], by rw [hB', rb_succ], by omega, by assumption, by assumption⟩) (by show _ - (j + 1) < _ - j; omega) ⟨rfl, rfl, rfl, rfl, rfl, rfl, rfl, rfl, rfl, rfl, trivial⟩ (fun _ h => h.drop4.drop3)
   ·have q10 := lastW_len A' x
    have q11 := q4 (A'.length - 1) j
    rw [← hA'] at q11
    have hst : lastW A' x = stW false x j A := by rw [hA']; rfl
    obtain ⟨n1, n2, n3⟩ := hI.next (by omega) hP hY hx hy (hst.trans (by rw [show j = y.length by omega])) (hB'.trans (by rw [show j = y.length by omega]))
    refine TC.exit (TQ.then_exit (TQ.loop_exit (TQ.block_hit (TQ.then (TC.seq (TC.seq (TC.region (TL.opP rfl (op_move rfl) (TL.opP rfl (op_not rfl rfl) (TL.nil (TQ.then ?_)))))))))))
    refine TC.sp rfl (fun c8 => ?_) (fun c8 => ?_)
    ·refine TC.draw [7] (.cons (.p, 1) (.cons (.p, 3) (.cons (.t, 0) (.cons (.t, 2) (.cons (.t, 4) (.cons (.t, 5) (.cons (.o, 6) (.cons (.z, 7) (.nil))))))))) mo (by kernel_rfl) (TR.p rfl rfl wt0 (op_field fld_sealskinref03_Wide_Puts rfl) (TR.p rfl rfl wt0 (op_move rfl) (TR.t rfl rfl wt0 (op_loadS tst_sealskinref03_Wide rfl m0 rfl) (fun _ h => h) (TR.t rfl rfl wt0 (op_load ts_sl_string rfl m3 rfl) (fun _ h => h) (TR.t rfl rfl wt0 (op_index tsl_string rfl hr.cons.cons.cons.cons.cons.cons rfl (by omega) (by omega)) (fun _ h => h) (TR.t rfl rfl wt0 (op_loadR ts_string rfl hr.cons.cons.cons.cons.cons.cons (lkM (d := []) (by omega) hx (by omega))) (fun _ h => h) ?_))))))
     refine TR.o rfl rfl wt0 (OpX.callX en_69 rfl (wlast_x A' x uv uw (by omega) (by omega) (by omega) (by assumption) rw1)) (by rintro _ _ ⟨lv7, rfl, olv7, rfl⟩; intro w h; exact h.tail) ?_; rintro _ _ ⟨lv7, rfl, olv7, rfl⟩
     refine TR.hp (fun _ h => h.pick1) ?_
     refine TR.z0 rfl wt0 (OpX.storeS tst_sealskinref03_Wide rfl rfl rfl rfl rfl (by first | exact (List.all_eq_true.1 rfl) | (intro u hu; simp only [List.mem_cons, List.not_mem_nil, or_false] at hu; rcases hu with rfl | rfl <;> assumption))) ?_; rintro _ _ rfl
     refine TR.nil (TQ.then (TC.seq (TC.region (TL.opP rfl (op_move rfl) (TL.opP rfl (op_field fld_sealskinref03_Wide_Drop rfl) (TL.opV rfl (op_load ts_sl_bool rfl m4 rfl) (TL.opV rfl (op_lenV rfl un_sl_bool rfl hr2.cons.cons.cons.cons.cons.cons.cons) (TL.opP rfl (op_lss rfl rfl) (TL.opP rfl (op_move rfl) ?_)))))))))
     refine TL.sp (fun c9 => ?_) (fun c9 => ?_)
     ·refine TL.gT rfl rfl (TL.opP rfl (op_field fld_sealskinref03_Wide_Drop rfl) (TL.gT rfl rfl (TL.opV rfl (op_load ts_sl_bool rfl m5 rfl) (TL.gT rfl rfl (TL.opP rfl (op_move rfl) (TL.gT rfl rfl (TL.opV rfl (op_index tsl_bool rfl hs2.cons.cons.cons.cons.cons.cons.cons rfl (by omega) (by omega)) (TL.gT rfl rfl (TL.opV rfl (op_loadR ts_bool rfl hs2.cons.cons.cons.cons.cons.cons.cons (lkM (i := i) (d := false) (by omega) rfl (by omega))) (TL.gT rfl rfl (TL.opP rfl (op_not rfl rfl) (TL.opP rfl (op_pickT rfl rfl) (TL.nil (TQ.then ?_))))))))))))))
      refine TC.sp rfl (fun c10 => ?_) (fun c10 => ?_)
      ·refine TC.draw [7] (.cons (.p, 1) (.cons (.p, 3) (.cons (.t, 0) (.cons (.t, 2) (.cons (.t, 4) (.cons (.t, 5) (.cons (.o, 6) (.cons (.z, 7) (.nil))))))))) mo (by kernel_rfl) (TR.p rfl rfl wt0 (op_field fld_sealskinref03_Wide_Drop rfl) (TR.p rfl rfl wt0 (op_move rfl) (TR.t rfl rfl wt0 (op_loadS tst_sealskinref03_Wide rfl m0 rfl) (fun _ h => h) (TR.t rfl rfl wt0 (op_load ts_sl_bool rfl m4 rfl) (fun _ h => h) (TR.t rfl rfl wt0 (op_index tsl_bool rfl hr2.cons.cons.cons.cons.cons.cons.cons rfl (by omega) (by omega)) (fun _ h => h) (TR.t rfl rfl wt0 (op_loadR ts_bool rfl hr2.cons.cons.cons.cons.cons.cons.cons (lkM (i := i) (d := false) (by omega) rfl (by omega))) (fun _ h => h) ?_))))))
       refine TR.o rfl rfl wt0 (OpX.callX en_70 rfl (wnext_x (lastW A' x) B' (D.getD i false) lv7 uw (by omega) (by omega) rw1 rw3)) (by rintro _ _ ⟨nv8, nw8, rfl, onv8, onw8, rfl⟩; intro w h; exact h.drop1.tail) ?_; rintro _ _ ⟨nv8, nw8, rfl, onv8, onw8, rfl⟩
       refine TR.hp (fun _ h => h.pick2) ?_
       refine TR.z0 rfl wt0 (OpX.storeS tst_sealskinref03_Wide rfl rfl rfl rfl rfl (by first | exact (List.all_eq_true.1 rfl) | (intro u hu; simp only [List.mem_cons, List.not_mem_nil, or_false] at hu; rcases hu with rfl | rfl <;> assumption))) ?_; rintro _ _ rfl
       refine TR.nil (TQ.block_normal (TQ.then (TC.region (TL.opP rfl (op_add rfl rfl rfl (by omega) (by omega)) (TL.opP rfl (op_move rfl) (TL.nil ?_))))))
       exact TQ.round (i + 1, (lastW A' x) ++ [[]], B' ++ [D.getD i false], nv8, nw8) (by (try dsimp only); exact ⟨n3 (by omega) (by simpa using c10), by assumption, by assumption⟩) (by show _ - (i + 1) < _ - i; omega) ⟨rfl, rfl, rfl, rfl, rfl, rfl, rfl, trivial⟩ (fun _ h => h.drop5.drop4.drop3)
      ·refine TC.skip (TQ.block_normal (TQ.then (TC.region (TL.opP rfl (op_add rfl rfl rfl (by omega) (by omega)) (TL.opP rfl (op_move rfl) (TL.nil ?_))))))
       exact TQ.round (i + 1, (lastW A' x), B', lv7, uw) (by (try dsimp only); exact ⟨n2 (by omega) (by simpa using c10), by assumption, by assumption⟩) (by show _ - (i + 1) < _ - i; omega) ⟨rfl, rfl, rfl, rfl, rfl, rfl, rfl, trivial⟩ (fun _ h => h.drop2)
     ·refine TL.gFf rfl rfl rfl (TL.gFf rfl rfl rfl (TL.gFf rfl rfl rfl (TL.gFf rfl rfl rfl (TL.gFf rfl rfl rfl (TL.gFf rfl rfl rfl (TL.opP rfl (op_pickF rfl rfl) (TL.nil (TQ.then (TC.condF rfl (TC.skip (TQ.block_normal (TQ.then (TC.region (TL.opP rfl (op_add rfl rfl rfl (by omega) (by omega)) (TL.opP rfl (op_move rfl) (TL.nil ?_))))))))))))))))
      exact TQ.round (i + 1, (lastW A' x), B', lv7, uw) (by (try dsimp only); exact ⟨n1 (by omega), by assumption, by assumption⟩) (by show _ - (i + 1) < _ - i; omega) ⟨rfl, rfl, rfl, rfl, rfl, rfl, rfl, trivial⟩ (fun _ h => h.drop2)
    ·exact absurd c8 (by decide)
 ·have hend := hI.I.off (by omega)
  refine TC.exit (TQ.then_exit (TQ.loop_exit (TQ.block_hit (TQ.then (TC.seq (TC.region (TL.opV rfl (op_loadS tst_sealskinref03_Wide rfl m0 rfl) (TL.hp (fun _ h => h.pick5) ?_))))))))
  refine TL.opX0 (OpX.storeS tst_sealskinref03_Wide rfl rfl rfl rfl rfl (by first | exact (List.all_eq_true.1 rfl) | (intro u hu; simp only [List.mem_cons, List.not_mem_nil, or_false] at hu; rcases hu with rfl | rfl <;> assumption))) ?_; rintro _ _ rfl
  refine TL.nil (TQ.then (TC.ret ?_))
  refine retc tst_sealskinref03_Wide rfl rfl m0 rfl (fun w' hp => ?_)
  exact ⟨_, _, rfl, ⟨_, _, rfl, by rw [hend.1, hend.2]⟩, (hp.drop5.drop4.drop1.tail)⟩

end Go.SK
