/- Walks: the document's own answer, spread out. -/
import Derived.Test.YtlbaebaimhbbfaaDoorMF
import Derived.Test.YtlbaebaimhbbfaaDoorMG
import Derived.Test.YtlbaebaimhbbfaaDoorMB
import Derived.Laws.OwnMore
set_option linter.unusedVariables false
set_option linter.unusedSimpArgs false
set_option maxRecDepth 100000
namespace Go.SK
open Go Go.RowKit Go.Proofs
variable {S : Nat → Prop} {w0 : World} {F L : List Res}
section
variable {P : Program} {n : Nat} {l : FrL} {dst : Option Tmp} {x y : Operand} {ty : TypeId} {pos : String} {af : Array Edge} {gd : Option (Nat × Bool)} {t t' : TypeId}
theorem op_unrune1 {d' : Nat} {k : IntKind} {c : Int} (ht : (P.underlying t).isSome = true) (hs : P.underlying d' = some .string) (hx : evO l x = some (.int k c)) : OpP P n l ⟨dst, .convert t d' x, ty, pos, af, gd⟩ (chv c) := by
  have := op_unrune (P := P) (n := n) (l := l) (dst := dst) (ty := ty) (pos := pos) (af := af) (gd := gd) ht hs hx
  rw [enc_one] at this; exact this
theorem op_sadde {a b : List Int} (hx : evO l x = some (.string (enc a))) (hy : evO l y = some (.string (enc b))) (hs : (enc a).size + (enc b).size ≤ 9223372036854775807) : OpP P n l ⟨dst, .binOp .add t x y t', ty, pos, af, gd⟩ (.string (enc (a ++ b))) := by
  rw [enc_append]; exact op_sadd hx hy hs
theorem op_saddt {a : List Int} {b : ByteArray} (hv : valid b = true) (hx : evO l x = some (.string (enc a))) (hy : evO l y = some (.string b)) (hs : (enc a).size + b.size ≤ 9223372036854775807) : OpP P n l ⟨dst, .binOp .add t x y t', ty, pos, af, gd⟩ (.string (enc (a ++ dec b))) := by
  rw [enc_append, enc_dec hv]; exact op_sadd hx hy hs
end
theorem one1 {v : Value} (h : v.oneCell' = true) : ∀ u ∈ [v], u.oneCell' = true := fun u hu => by rw [List.mem_singleton.1 hu]; exact h
theorem made_str (n : Nat) : (madeCells (Value.string ⟨#[]⟩).cells (n * 1)).toList = (List.replicate n ([] : List Int)).map sv := by
  rw [Nat.mul_one, List.map_replicate]
  exact toList_madeCells_one _ n
theorem made_bool (n : Nat) : (madeCells (Value.bool false).cells (n * 1)).toList = (List.replicate n false).map bv := by
  rw [Nat.mul_one, List.map_replicate]
  exact toList_madeCells_one _ n
theorem chars_x (s : ByteArray) (hs : s.size ≤ 4398046511104) :
    CallX Tryd.prog 50 [.string s] S w0 (L) (fun u L' => ∃ v', u = v' ∧ L' = .row v' 9 1 (dec s).length ((dec s).map chv) :: L) := by
 intro w hp
 refine calls_start Tryd.func50 rfl rfl rfl (hp) ?_
 refine TC.seq (TC.region (TL.opP rfl (op_assign rfl) (TL.nil (TQ.then (TC.seq (TC.region (TL.opP rfl (op_assign rfl) (TL.nil (TQ.then (TC.seq (TC.seq (TC.region (TL.opP rfl (op_move rfl) ?_)))))))))))))
 refine TL.opX rfl (OpX.range un_string rfl) ?_; rintro _ _ ⟨g7, rfl, rfl⟩
 refine TL.nil (TQ.then (TC.block (TC.hp (fun _ h => new_nil 9 1 h) ?_)))
 refine TC.loop (ι := Nat × List Int × Value) (fun (pos, out, ov) => [(3, ov), (7, .pointer (some ⟨g7, 0, none⟩))]) (fun (pos, out, ov) => .blk g7 (.stringIter s pos) :: .row ov 9 1 (out).length ((out).map chv) :: L) (fun (pos, out, ov) => out ++ decFrom s pos = dec s) (fun (pos, out, ov) => (decFrom s pos).length) ((0, [], .slice none 0 0)) ((by show [] ++ decFrom s 0 = dec s; rw [decFrom_zero]; rfl)) ⟨rfl, rfl, trivial⟩ (fun _ h => h.pick1) ?_
 rintro ⟨pos, out, ov⟩ (hI : out ++ decFrom s pos = dec s)
 have hol : out.length ≤ s.size := by have h1 := dec_len s; rw [← hI, List.length_append] at h1; omega
 show TC _ _ _ _ [(3, ov), (7, .pointer (some ⟨g7, 0, none⟩))] _ _ (.blk g7 (.stringIter s pos) :: .row ov 9 1 (out).length ((out).map chv) :: L)
 refine TC.seq (TC.region ?_)
 refine TL.opX rfl (OpX.next rfl) ?_; rintro _ _ (⟨hn1, rfl, rfl⟩ | ⟨hn1, rfl, rfl⟩)
 ·skip
  have hst := decFrom_step hn1
  have hc : (out ++ [((Utf8.decode s pos).1 : Int)]) ++ decFrom s (pos + (Utf8.decode s pos).2) = dec s := by rw [← hI, hst]; simp
  have hm : (decFrom s (pos + (Utf8.decode s pos).2)).length < (decFrom s pos).length := by rw [hst]; simp
  refine TL.opP rfl (op_extract rfl rfl) (TL.nil (TQ.then (TC.seq (TC.condT rfl (TC.skip (TQ.then (TC.block (TC.seq (TC.region (TL.opP rfl (op_extract rfl rfl) (TL.opP rfl (op_assign rfl) (TL.nil (TQ.then (TC.region (TL.opP rfl (op_move rfl) (TL.opP rfl (op_move rfl) (TL.opP rfl (op_unrune1 rfl un_string rfl) ?_)))))))))))))))))
  refine TL.opX rfl (OpX.buildSlice (ps := #[(0, _)]) rfl (bs_string_1 _)) ?_; rintro _ _ ⟨g14, rfl, rfl⟩
  refine TL.hp (fun _ h => blk_row (k := 1) (m := 1) h rfl (by decide)) (TL.hp (fun _ h => h.pick2) ?_)
  refine TL.opX rfl (OpX.append (bytes := 16) tsl_string (by decide) (by decide) rfl rw1 (one1 rfl) (by omega) (zs := (out ++ [((Utf8.decode s pos).1 : Int)]).map chv) (by simp)) ?_; rintro v1 _ rfl
  refine TL.know (fun _ h => row1 h) (fun o1 => (TL.hp (fun _ h => row_lenM h) (TL.opP rfl (op_assign rfl) (TL.nil (TQ.block_normal ?_)))))
  exact TQ.round (_, _, v1) (hc) (hm) ⟨rfl, rfl, trivial⟩ (fun _ h => h.drop1.pick1)
 ·skip
  have hz : out = dec s := by rw [← hI, decFrom_end hn1, List.append_nil]
  refine TL.opP rfl (op_extract rfl rfl) (TL.nil (TQ.then (TC.seq (TC.condF rfl (TC.exit (TQ.then_exit (TQ.loop_exit (TQ.block_hit (TQ.then (TC.seq (TC.region (TL.opP rfl (op_move rfl) (TL.opP rfl (op_assign rfl) (TL.nil (TQ.then (TC.ret ?_))))))))))))))))
  refine ret1 rfl rfl (fun w' hp => ?_)
  exact ⟨_, _, rfl, ⟨_, rfl, by rw [hz]⟩, (hp.tail)⟩

theorem spread_x (e : List Part) (n : Nat) (v : Value) (oe : Ok e) (hn : fromS e = n) (hl : e.length ≤ 4398046511104) (hr : Rdb L v 3 e.length (encs e)) :
    CallX Tryd.prog 49 [v, .int .i64 (n : Int)] S w0 (L) (fun u L' => ∃ vp vd, u = .agg #[vp, vd] ∧ L' = .row vp 9 1 (spP e).length ((spP e).map sv) :: .row vd 4 1 (dv e).length ((dv e).map bv) :: L) := by
 intro w hp
 have hf := oe.1
 have hn2 := oe.2.2.1
 refine calls_start Tryd.func49 rfl rfl rfl (hp) ?_
 refine TC.seq (TC.region ?_)
 refine TL.opX rfl (OpX.alloc tz_sealskinref03_Wide rfl) ?_; rintro _ _ ⟨g4, rfl, rfl⟩
 refine TL.nil (TQ.then ?_)
 refine TC.join (ι := Nat × Value × Value) (fun (g5, vp, vd) => [(0, v), (4, .pointer (some ⟨g4, 0, none⟩)), (5, .pointer (some ⟨g5, 0, none⟩))]) (fun (g5, vp, vd) => .blk g5 (.cells [vp, vd].toArray 93 (0, 0)) :: .row vp 9 1 (List.replicate (n + 1) ([] : List Int)).length ((List.replicate (n + 1) ([] : List Int)).map sv) :: .row vd 4 1 (List.replicate n false).length ((List.replicate n false).map bv) :: .blk g4 (.cells [.slice none 0 0, .slice none 0 0].toArray 93 (0, 0)) :: L) (fun (g5, vp, vd) => vp.oneCell' = true ∧ vd.oneCell' = true) ?_ ?_
 ·refine TC.draw [7] (.cons (.p, 0) (.cons (.p, 1) (.cons (.p, 3) (.alt (.cons (.o, 2) (.alt (.cons (.o, 4) (.cons (.p, 5) (.cons (.o, 6) (.cons (.z, 7) (.nil))))) (.cons (.o, 6) (.cons (.o, 4) (.cons (.p, 5) (.cons (.z, 7) (.nil))))))) (.alt (.cons (.o, 4) (.alt (.cons (.o, 2) (.cons (.p, 5) (.cons (.o, 6) (.cons (.z, 7) (.nil))))) (.cons (.o, 6) (.cons (.o, 2) (.cons (.p, 5) (.cons (.z, 7) (.nil))))))) (.cons (.o, 6) (.alt (.cons (.o, 2) (.cons (.o, 4) (.cons (.p, 5) (.cons (.z, 7) (.nil))))) (.cons (.o, 4) (.cons (.o, 2) (.cons (.p, 5) (.cons (.z, 7) (.nil)))))))))))) mo (by kernel_rfl) (TR.p rfl rfl wt0 (op_move rfl) (TR.p rfl rfl wt0 (op_add rfl rfl rfl (by omega) (by omega)) (TR.p rfl rfl wt0 (op_move rfl) ?_)))
  refine TR.alt ?_ ?_
  ·refine TR.o rfl rfl wt0 (OpX.make (m := (n + 1)) (zs := ((List.replicate (n + 1) ([] : List Int)).map sv)) tsl_string rfl rfl (by omega) (by decide) (by omega) (made_str _)) (by rintro v1 _ rfl; intro w h; exact h.tail) ?_; rintro v1 _ rfl
   refine TR.know (fun _ h => row1 h) (fun o1 => (TR.hp (fun _ h => row_lenM h) ?_))
   refine TR.alt ?_ ?_
   ·refine TR.o rfl rfl wt0 (OpX.make (m := n) (zs := ((List.replicate n false).map bv)) tsl_bool rfl rfl rfl (by decide) (by omega) (made_bool _)) (by rintro v2 _ rfl; intro w h; exact h.drop1.tail) ?_; rintro v2 _ rfl
    refine TR.know (fun _ h => row1 h) (fun o2 => (TR.hp (fun _ h => row_lenM h) (TR.p rfl rfl wt0 (op_build (ps := #[(0, _), (1, _)]) rfl (bl_sealskinref03_Wide_01 _ _)) ?_)))
    refine TR.o rfl rfl wt0 (OpX.alloc tz_sealskinref03_Wide rfl) (by rintro _ _ ⟨g5, rfl, rfl⟩; intro w h; exact h.drop2.drop1.tail) ?_; rintro _ _ ⟨g5, rfl, rfl⟩
    refine TR.z0 rfl wt0 (OpX.storeS tst_sealskinref03_Wide rfl rfl rfl rfl rfl (by first | exact (List.all_eq_true.1 rfl) | (intro u hu; simp only [List.mem_cons, List.not_mem_nil, or_false] at hu; rcases hu with rfl | rfl <;> assumption))) ?_; rintro _ _ rfl
    refine TR.nil ?_
    exact TQ.join (g5, v1, v2) (⟨by assumption, by assumption⟩) ⟨rfl, rfl, rfl, trivial⟩ (fun _ h => h.pick3.pick2.pick3.pick3)
   ·refine TR.o rfl rfl wt0 (OpX.alloc tz_sealskinref03_Wide rfl) (by rintro _ _ ⟨g5, rfl, rfl⟩; intro w h; exact h.drop1.tail) ?_; rintro _ _ ⟨g5, rfl, rfl⟩
    refine TR.o rfl rfl wt0 (OpX.make (m := n) (zs := ((List.replicate n false).map bv)) tsl_bool rfl rfl rfl (by decide) (by omega) (made_bool _)) (by rintro v3 _ rfl; intro w h; exact h.drop2.drop1.tail) ?_; rintro v3 _ rfl
    refine TR.know (fun _ h => row1 h) (fun o3 => (TR.hp (fun _ h => row_lenM h) (TR.p rfl rfl wt0 (op_build (ps := #[(0, _), (1, _)]) rfl (bl_sealskinref03_Wide_01 _ _)) (TR.hp (fun _ h => h.pick1) ?_))))
    refine TR.z0 rfl wt0 (OpX.storeS tst_sealskinref03_Wide rfl rfl rfl rfl rfl (by first | exact (List.all_eq_true.1 rfl) | (intro u hu; simp only [List.mem_cons, List.not_mem_nil, or_false] at hu; rcases hu with rfl | rfl <;> assumption))) ?_; rintro _ _ rfl
    refine TR.nil ?_
    exact TQ.join (g5, v1, v3) (⟨by assumption, by assumption⟩) ⟨rfl, rfl, rfl, trivial⟩ (fun _ h => h.pick3.pick2.pick3.pick3)
  ·refine TR.alt ?_ ?_
   ·refine TR.o rfl rfl wt0 (OpX.make (m := n) (zs := ((List.replicate n false).map bv)) tsl_bool rfl rfl rfl (by decide) (by omega) (made_bool _)) (by rintro v4 _ rfl; intro w h; exact h.tail) ?_; rintro v4 _ rfl
    refine TR.know (fun _ h => row1 h) (fun o4 => (TR.hp (fun _ h => row_lenM h) ?_))
    refine TR.alt ?_ ?_
    ·refine TR.o rfl rfl wt0 (OpX.make (m := (n + 1)) (zs := ((List.replicate (n + 1) ([] : List Int)).map sv)) tsl_string rfl rfl (by omega) (by decide) (by omega) (made_str _)) (by rintro v5 _ rfl; intro w h; exact h.drop1.tail) ?_; rintro v5 _ rfl
     refine TR.know (fun _ h => row1 h) (fun o5 => (TR.hp (fun _ h => row_lenM h) (TR.p rfl rfl wt0 (op_build (ps := #[(0, _), (1, _)]) rfl (bl_sealskinref03_Wide_01 _ _)) ?_)))
     refine TR.o rfl rfl wt0 (OpX.alloc tz_sealskinref03_Wide rfl) (by rintro _ _ ⟨g5, rfl, rfl⟩; intro w h; exact h.drop2.drop1.tail) ?_; rintro _ _ ⟨g5, rfl, rfl⟩
     refine TR.z0 rfl wt0 (OpX.storeS tst_sealskinref03_Wide rfl rfl rfl rfl rfl (by first | exact (List.all_eq_true.1 rfl) | (intro u hu; simp only [List.mem_cons, List.not_mem_nil, or_false] at hu; rcases hu with rfl | rfl <;> assumption))) ?_; rintro _ _ rfl
     refine TR.nil ?_
     exact TQ.join (g5, v5, v4) (⟨by assumption, by assumption⟩) ⟨rfl, rfl, rfl, trivial⟩ (fun _ h => h)
    ·refine TR.o rfl rfl wt0 (OpX.alloc tz_sealskinref03_Wide rfl) (by rintro _ _ ⟨g5, rfl, rfl⟩; intro w h; exact h.drop1.tail) ?_; rintro _ _ ⟨g5, rfl, rfl⟩
     refine TR.o rfl rfl wt0 (OpX.make (m := (n + 1)) (zs := ((List.replicate (n + 1) ([] : List Int)).map sv)) tsl_string rfl rfl (by omega) (by decide) (by omega) (made_str _)) (by rintro v6 _ rfl; intro w h; exact h.drop2.drop1.tail) ?_; rintro v6 _ rfl
     refine TR.know (fun _ h => row1 h) (fun o6 => (TR.hp (fun _ h => row_lenM h) (TR.p rfl rfl wt0 (op_build (ps := #[(0, _), (1, _)]) rfl (bl_sealskinref03_Wide_01 _ _)) (TR.hp (fun _ h => h.pick1) ?_))))
     refine TR.z0 rfl wt0 (OpX.storeS tst_sealskinref03_Wide rfl rfl rfl rfl rfl (by first | exact (List.all_eq_true.1 rfl) | (intro u hu; simp only [List.mem_cons, List.not_mem_nil, or_false] at hu; rcases hu with rfl | rfl <;> assumption))) ?_; rintro _ _ rfl
     refine TR.nil ?_
     exact TQ.join (g5, v6, v4) (⟨by assumption, by assumption⟩) ⟨rfl, rfl, rfl, trivial⟩ (fun _ h => h)
   ·refine TR.o rfl rfl wt0 (OpX.alloc tz_sealskinref03_Wide rfl) (by rintro _ _ ⟨g5, rfl, rfl⟩; intro w h; exact h.tail) ?_; rintro _ _ ⟨g5, rfl, rfl⟩
    refine TR.alt ?_ ?_
    ·refine TR.o rfl rfl wt0 (OpX.make (m := (n + 1)) (zs := ((List.replicate (n + 1) ([] : List Int)).map sv)) tsl_string rfl rfl (by omega) (by decide) (by omega) (made_str _)) (by rintro v7 _ rfl; intro w h; exact h.drop1.tail) ?_; rintro v7 _ rfl
     refine TR.know (fun _ h => row1 h) (fun o7 => (TR.hp (fun _ h => row_lenM h) ?_))
     refine TR.o rfl rfl wt0 (OpX.make (m := n) (zs := ((List.replicate n false).map bv)) tsl_bool rfl rfl rfl (by decide) (by omega) (made_bool _)) (by rintro v8 _ rfl; intro w h; exact h.drop2.drop1.tail) ?_; rintro v8 _ rfl
     refine TR.know (fun _ h => row1 h) (fun o8 => (TR.hp (fun _ h => row_lenM h) (TR.p rfl rfl wt0 (op_build (ps := #[(0, _), (1, _)]) rfl (bl_sealskinref03_Wide_01 _ _)) (TR.hp (fun _ h => h.pick2) ?_))))
     refine TR.z0 rfl wt0 (OpX.storeS tst_sealskinref03_Wide rfl rfl rfl rfl rfl (by first | exact (List.all_eq_true.1 rfl) | (intro u hu; simp only [List.mem_cons, List.not_mem_nil, or_false] at hu; rcases hu with rfl | rfl <;> assumption))) ?_; rintro _ _ rfl
     refine TR.nil ?_
     exact TQ.join (g5, v7, v8) (⟨by assumption, by assumption⟩) ⟨rfl, rfl, rfl, trivial⟩ (fun _ h => h.pick3.pick2.pick3.pick3)
    ·refine TR.o rfl rfl wt0 (OpX.make (m := n) (zs := ((List.replicate n false).map bv)) tsl_bool rfl rfl rfl (by decide) (by omega) (made_bool _)) (by rintro v9 _ rfl; intro w h; exact h.drop1.tail) ?_; rintro v9 _ rfl
     refine TR.know (fun _ h => row1 h) (fun o9 => (TR.hp (fun _ h => row_lenM h) ?_))
     refine TR.o rfl rfl wt0 (OpX.make (m := (n + 1)) (zs := ((List.replicate (n + 1) ([] : List Int)).map sv)) tsl_string rfl rfl (by omega) (by decide) (by omega) (made_str _)) (by rintro v10 _ rfl; intro w h; exact h.drop2.drop1.tail) ?_; rintro v10 _ rfl
     refine TR.know (fun _ h => row1 h) (fun o10 => (TR.hp (fun _ h => row_lenM h) (TR.p rfl rfl wt0 (op_build (ps := #[(0, _), (1, _)]) rfl (bl_sealskinref03_Wide_01 _ _)) (TR.hp (fun _ h => h.pick2) ?_))))
     refine TR.z0 rfl wt0 (OpX.storeS tst_sealskinref03_Wide rfl rfl rfl rfl rfl (by first | exact (List.all_eq_true.1 rfl) | (intro u hu; simp only [List.mem_cons, List.not_mem_nil, or_false] at hu; rcases hu with rfl | rfl <;> assumption))) ?_; rintro _ _ rfl
     refine TR.nil ?_
     exact TQ.join (g5, v10, v9) (⟨by assumption, by assumption⟩) ⟨rfl, rfl, rfl, trivial⟩ (fun _ h => h)
 ·rintro ⟨g5, vp, vd⟩ ⟨o1, o2⟩
  show TC _ _ _ _ [(0, v), (4, .pointer (some ⟨g4, 0, none⟩)), (5, .pointer (some ⟨g5, 0, none⟩))] _ _ (.blk g5 (.cells [vp, vd].toArray 93 (0, 0)) :: .row vp 9 1 (List.replicate (n + 1) ([] : List Int)).length ((List.replicate (n + 1) ([] : List Int)).map sv) :: .row vd 4 1 (List.replicate n false).length ((List.replicate n false).map bv) :: .blk g4 (.cells [.slice none 0 0, .slice none 0 0].toArray 93 (0, 0)) :: L)
  refine TC.seq (TC.region (TL.opP rfl (op_assign rfl) (TL.nil (TQ.then (TC.seq (TC.seq (TC.region (TL.opP rfl (op_move rfl) (TL.opV rfl (op_lenV rfl un_sl_api_Part rfl hr.cons.cons.cons.cons) (TL.opP rfl (op_move rfl) (TL.nil (TQ.then (TC.block (TC.loop (ι := Nat × Nat × List (List Int) × List Bool) (fun (k, i, P, D) => [(4, .pointer (some ⟨g4, 0, none⟩)), (5, .pointer (some ⟨g5, 0, none⟩)), (6, .int .i64 (i : Int)), (15, v), (16, .int .i64 (e.length : Int)), (17, .int .i64 (k : Int))]) (fun (k, i, P, D) => .blk g5 (.cells [vp, vd].toArray 93 (0, 0)) :: .row vp 9 1 (P).length ((P).map sv) :: .row vd 4 1 (D).length ((D).map bv) :: .blk g4 (.cells [.slice none 0 0, .slice none 0 0].toArray 93 (0, 0)) :: L) (fun (k, i, P, D) => SInv e n k i P D) (fun (k, i, P, D) => e.length - k) ((0, 0, List.replicate (n + 1) [], List.replicate n false)) ((SInv.start hf hn)) ⟨rfl, rfl, rfl, rfl, rfl, rfl, trivial⟩ (fun _ h => h) ?_))))))))))))))
  rintro ⟨k, i, P, D⟩ (hI : SInv e n k i P D)
  have hk := hI.kle
  have hi := hI.ile hf
  have hlens := hI.lens hf
  have htx := hI.text oe
  show TC _ _ _ _ [(4, .pointer (some ⟨g4, 0, none⟩)), (5, .pointer (some ⟨g5, 0, none⟩)), (6, .int .i64 (i : Int)), (15, v), (16, .int .i64 (e.length : Int)), (17, .int .i64 (k : Int))] _ _ (.blk g5 (.cells [vp, vd].toArray 93 (0, 0)) :: .row vp 9 1 (P).length ((P).map sv) :: .row vd 4 1 (D).length ((D).map bv) :: .blk g4 (.cells [.slice none 0 0, .slice none 0 0].toArray 93 (0, 0)) :: L)
  refine TC.seq (TC.region (TL.opP rfl (op_lss rfl rfl) (TL.nil (TQ.then (TC.seq ?_)))))
  first | refine TC.condD rfl (fun c1 => ?_) (fun c1 => ?_) | refine TC.condB rfl (fun c1 => ?_) (fun c1 => ?_)
  ·have hkl : k < e.length := by omega
   obtain ⟨p, hpk⟩ : ∃ p, e.getD k default = p := ⟨_, rfl⟩
   have hd := drop_getD hkl hpk
   have hpe : p ∈ e := by rw [← hpk, List.getD_eq_getElem?_getD, List.getElem?_eq_getElem hkl]; exact List.getElem_mem hkl
   refine TC.skip (TQ.then (TC.seq (TC.block (TC.seq (TC.region (TL.opV rfl (op_index tsl_api_Part rfl hr.cons.cons.cons.cons rfl (by omega) (by omega)) (TL.opV rfl (op_loadRS tst_api_Part rfl hr.cons.cons.cons.cons (cs := p.cs) rfl (lkS hkl hpk) (by decide)) ?_)))))))
   refine TL.opX rfl (OpX.alloc tz_api_Part rfl) ?_; rintro _ _ ⟨g8, rfl, rfl⟩
   refine TL.opX0 (OpX.storeS tst_api_Part rfl rfl rfl rfl rfl (by first | exact (List.all_eq_true.1 rfl) | (intro u hu; simp only [List.mem_cons, List.not_mem_nil, or_false] at hu; rcases hu with rfl | rfl <;> assumption))) ?_; rintro _ _ rfl
   refine TL.nil (TQ.then (TC.seq (TC.seq (TC.region (TL.opP rfl (op_field fld_api_Part_Kind rfl) (TL.opV rfl (op_load ts_int rfl m0 rfl) (TL.opP rfl (op_eql rfl rfl) (TL.nil (TQ.then ?_)))))))))
   first | refine TC.condD rfl (fun c2 => ?_) (fun c2 => ?_) | refine TC.condB rfl (fun c2 => ?_) (fun c2 => ?_)
   ·have hpv : valid p.text = true := by rcases (hf p hpe).2 with ⟨k', _⟩ | ⟨k', _⟩ | ⟨_, hv, _⟩ <;> first | exact hv | omega
    have hps := fits_sizeN (oe.fits p hpe)
    refine TC.seq (TC.draw [12] (.cons (.p, 0) (.cons (.p, 2) (.cons (.p, 3) (.cons (.p, 5) (.cons (.p, 8) (.cons (.t, 1) (.cons (.t, 4) (.cons (.t, 6) (.cons (.t, 7) (.cons (.t, 9) (.cons (.p, 10) (.cons (.t, 11) (.cons (.z, 12) (.nil)))))))))))))) mo (by kernel_rfl) (TR.p rfl rfl wt0 (op_field fld_sealskinref03_Wide_Puts rfl) (TR.p rfl rfl wt0 (op_move rfl) (TR.p rfl rfl wt0 (op_field fld_sealskinref03_Wide_Puts rfl) (TR.p rfl rfl wt0 (op_move rfl) (TR.p rfl rfl wt0 (op_field fld_api_Part_Text rfl) (TR.t rfl rfl wt0 (op_load ts_sl_string rfl m1 rfl) (fun _ h => h) (TR.t rfl rfl wt0 (op_load ts_sl_string rfl m1 rfl) (fun _ h => h) (TR.t rfl rfl wt0 (op_index tsl_string rfl rw2 rfl (by omega) (by omega)) (fun _ h => h) ?_)))))))))
    refine TR.t rfl rfl wt0 (op_loadR ts_string rfl rw2 (lkM (i := i) (d := []) (by omega) rfl (by omega))) (fun _ h => h) (TR.t rfl rfl wt0 (op_load ts_string rfl m0 rfl) (fun _ h => h) (TR.p rfl rfl wt0 (op_saddt hpv rfl rfl (by omega)) (TR.t rfl rfl wt0 (op_index tsl_string rfl rw2 rfl (by omega) (by omega)) (fun _ h => h) (TR.hp (fun _ h => h.pick2) ?_))))
    refine TR.z0 rfl wt0 (OpX.storeRow (k := 1) (fun w => by kernel_rfl) rfl rfl rfl (ys := [sv (P.getD i [] ++ dec p.text)]) rfl (by decide) (by first | exact (List.all_eq_true.1 rfl) | (intro u hu; simp only [List.mem_cons, List.not_mem_nil, or_false] at hu; rcases hu with rfl | rfl <;> assumption)) (by omega) (stM (i := i) (by omega) (by omega))) ?_; rintro _ _ rfl
    refine TR.hp (fun _ h => row_lenM h) (TR.nil (TQ.then (TC.exit (TQ.then_exit (TQ.block_hit (TQ.then (TC.region (TL.opP rfl (op_add rfl rfl rfl (by omega) (by omega)) (TL.opP rfl (op_move rfl) (TL.nil ?_))))))))))
    exact TQ.round (k + 1, i, P.set i (P.getD i [] ++ dec p.text), D) (hI.put hf hkl hpk c2) (by show _ - (k + 1) < _ - k; omega) ⟨rfl, rfl, rfl, rfl, rfl, rfl, trivial⟩ (fun _ h => h.drop1.pick3.pick3.pick2.pick3)
   ·have ho := hI.over hf hkl hpk c2
    refine TC.skip (TQ.then (TC.seq (TC.region (TL.opP rfl (op_field fld_api_Part_N rfl) (TL.opV rfl (op_load ts_int rfl m0 rfl) (TL.opP rfl (op_move rfl) (TL.nil (TQ.then (TC.block (TC.loop (ι := Nat × List Bool) (fun (j, D') => [(4, .pointer (some ⟨g4, 0, none⟩)), (5, .pointer (some ⟨g5, 0, none⟩)), (6, .int .i64 ((i + j : Nat) : Int)), (15, v), (16, .int .i64 (e.length : Int)), (17, .int .i64 (k : Int)), (8, .pointer (some ⟨g8, 0, none⟩)), (37, .int .i64 p.n), (38, .int .i64 (j : Int))]) (fun (j, D') => .row vd 4 1 (D').length ((D').map bv) :: .blk g8 (.cells p.cs.toArray 38 (0, 0)) :: .blk g5 (.cells [vp, vd].toArray 93 (0, 0)) :: .row vp 9 1 (P).length ((P).map sv) :: .blk g4 (.cells [.slice none 0 0, .slice none 0 0].toArray 93 (0, 0)) :: L) (fun (j, D') => SIn n i D (decide (p.kind = 3)) j D' ∧ j ≤ p.n.toNat) (fun (j, D') => p.n.toNat - j) ((0, D)) (⟨hI.inner _, Nat.zero_le _⟩) ⟨rfl, rfl, rfl, rfl, rfl, rfl, rfl, rfl, rfl, trivial⟩ (fun _ h => h.pick4.pick3.pick3.pick3.pick4) ?_))))))))))
    rintro ⟨j, D'⟩ ⟨hJ, hjl⟩
    show TC _ _ _ _ [(4, .pointer (some ⟨g4, 0, none⟩)), (5, .pointer (some ⟨g5, 0, none⟩)), (6, .int .i64 ((i + j : Nat) : Int)), (15, v), (16, .int .i64 (e.length : Int)), (17, .int .i64 (k : Int)), (8, .pointer (some ⟨g8, 0, none⟩)), (37, .int .i64 p.n), (38, .int .i64 (j : Int))] _ _ (.row vd 4 1 (D').length ((D').map bv) :: .blk g8 (.cells p.cs.toArray 38 (0, 0)) :: .blk g5 (.cells [vp, vd].toArray 93 (0, 0)) :: .row vp 9 1 (P).length ((P).map sv) :: .blk g4 (.cells [.slice none 0 0, .slice none 0 0].toArray 93 (0, 0)) :: L)
    refine TC.seq (TC.region (TL.opP rfl (op_lss rfl rfl) (TL.nil (TQ.then (TC.seq ?_)))))
    first | refine TC.condD rfl (fun c3 => ?_) (fun c3 => ?_) | refine TC.condB rfl (fun c3 => ?_) (fun c3 => ?_)
    ·obtain ⟨hst1, hst2⟩ := hJ.step (show j < n - i by omega)
     refine TC.skip (TQ.then (TC.seq (TC.block (TC.seq (TC.region (TL.opP rfl (op_field fld_sealskinref03_Wide_Drop rfl) (TL.opV rfl (op_load ts_sl_bool rfl m2 rfl) (TL.opP rfl (op_move rfl) (TL.opP rfl (op_field fld_api_Part_Kind rfl) (TL.opV rfl (op_load ts_int rfl m1 rfl) (TL.opP rfl (op_eql rfl rfl) (TL.opV rfl (op_index tsl_bool rfl rw0 rfl (by omega) (by omega)) ?_))))))))))))
     refine TL.opX0 (OpX.storeRow (k := 1) (fun w => by kernel_rfl) rfl rfl rfl (ys := [bv (decide (p.kind = 3))]) rfl (by decide) (by first | exact (List.all_eq_true.1 rfl) | (intro u hu; simp only [List.mem_cons, List.not_mem_nil, or_false] at hu; rcases hu with rfl | rfl <;> assumption)) (by omega) (stM (i := i + j) (by omega) (by omega))) ?_; rintro _ _ rfl
     refine TL.hp (fun _ h => row_lenM h) (TL.nil (TQ.then (TC.region (TL.opP rfl (op_move rfl) (TL.opP rfl (op_add rfl rfl rfl (by omega) (by omega)) (TL.opP rfl (op_assign rfl) (TL.nil (TQ.block_normal (TQ.then (TC.region (TL.opP rfl (op_add rfl rfl rfl (by omega) (by omega)) (TL.opP rfl (op_move rfl) (TL.nil ?_)))))))))))))
     exact TQ.round (j + 1, D'.set (i + j) (decide (p.kind = 3))) (⟨hst2, by show j + 1 ≤ _; omega⟩) (by show _ - (j + 1) < _ - j; omega) ⟨rfl, rfl, rfl, rfl, rfl, rfl, rfl, rfl, rfl, trivial⟩ (fun _ h => h)
    ·obtain rfl : j = p.n.toNat := by omega
     refine TC.exit (TQ.then_exit (TQ.loop_exit (TQ.block_hit (TQ.block_normal (TQ.then (TC.region (TL.opP rfl (op_add rfl rfl rfl (by omega) (by omega)) (TL.opP rfl (op_move rfl) (TL.nil ?_)))))))))
     exact TQ.round (k + 1, i + p.n.toNat, P, D') (hI.next hf hkl hpk c2 hJ) (by show _ - (k + 1) < _ - k; omega) ⟨rfl, rfl, rfl, rfl, rfl, rfl, trivial⟩ (fun _ h => h.drop1.pick3.pick1.pick3.pick3)
  ·obtain ⟨rfl, rfl⟩ := hI.stop hf (by omega)
   refine TC.exit (TQ.then_exit (TQ.loop_exit (TQ.block_hit (TQ.then (TC.seq (TC.region (TL.opV rfl (op_loadS tst_sealskinref03_Wide rfl m0 rfl) (TL.hp (fun _ h => h.pick3) ?_))))))))
   refine TL.opX0 (OpX.storeS tst_sealskinref03_Wide rfl rfl rfl rfl rfl (by first | exact (List.all_eq_true.1 rfl) | (intro u hu; simp only [List.mem_cons, List.not_mem_nil, or_false] at hu; rcases hu with rfl | rfl <;> assumption))) ?_; rintro _ _ rfl
   refine TL.nil (TQ.then (TC.ret ?_))
   refine retc tst_sealskinref03_Wide rfl rfl m0 rfl (fun w' hp => ?_)
   exact ⟨_, _, rfl, ⟨_, _, rfl, rfl⟩, (hp.drop1.tail)⟩

theorem close_x (P : List (List Int)) (D : List Bool) (vp vd : Value) (hb : CLB P D) (hr : Rdb L vp 1 P.length (P.map sv)) (hr2 : Rdb L vd 1 D.length (D.map bv)) :
    CallX Tryd.prog 51 [.agg #[vp, vd]] S w0 (L) (fun u L' => ∃ v', u = v' ∧ L' = .row v' 38 3 (closeF P D).length (encs (closeF P D)) :: L) := by
 intro w hp
 have hlen := hb.len
 have hDb := hb.n
 have hpp := psum_pos P
 refine calls_start Tryd.func51 rfl rfl rfl (hp) ?_
 refine TC.seq (TC.region ?_)
 refine TL.opX rfl (OpX.box (cs := [vp, vd]) rfl rfl) ?_; rintro _ _ ⟨g1, rfl, rfl⟩
 refine TL.opP rfl (op_assign rfl) (TL.nil (TQ.then (TC.seq (TC.region (TL.opP rfl (op_assign rfl) (TL.nil (TQ.then (TC.seq (TC.region (TL.opP rfl (op_assign rfl) (TL.nil (TQ.then (TC.seq (TC.region (TL.opP rfl (op_assign rfl) (TL.nil (TQ.then (TC.seq (TC.seq (TC.region (TL.opP rfl (op_field fld_sealskinref03_Wide_Puts rfl) (TL.opV rfl (op_load ts_sl_string rfl m0 rfl) (TL.opV rfl (op_lenV rfl un_sl_string rfl hr.cons) (TL.opP rfl (op_move rfl) (TL.nil (TQ.then (TC.block (TC.hp (fun _ h => new_nil 38 3 h) (TC.loop (ι := Nat × List Part × List Int × Int × Value) (fun (i, r, ahead, drops, ov) => [(1, .pointer (some ⟨g1, 0, none⟩)), (3, ov), (4, .string (enc ahead)), (5, .int .i64 drops), (9, vp), (10, .int .i64 (P.length : Int)), (11, .int .i64 (i : Int))]) (fun (i, r, ahead, drops, ov) => .blk g1 (.cells [vp, vd].toArray 93 (0, 0)) :: .row ov 38 3 (r).length (encs (r).reverse) :: L) (fun (i, r, ahead, drops, ov) => CLInv P D i r ahead drops) (fun (i, r, ahead, drops, ov) => D.length + 1 - i) ((0, [], [], 0, .slice none 0 0)) ((CLInv.start hb)) ⟨rfl, rfl, rfl, rfl, rfl, rfl, rfl, trivial⟩ (fun _ h => h.pick1) ?_)))))))))))))))))))))))))))))
 rintro ⟨i, r, ahead, drops, ov⟩ (hI : CLInv P D i r ahead drops)
 have hil := hI.ile
 have hd0 := hI.d0
 show TC _ _ _ _ [(1, .pointer (some ⟨g1, 0, none⟩)), (3, ov), (4, .string (enc ahead)), (5, .int .i64 drops), (9, vp), (10, .int .i64 (P.length : Int)), (11, .int .i64 (i : Int))] _ _ (.blk g1 (.cells [vp, vd].toArray 93 (0, 0)) :: .row ov 38 3 (r).length (encs (r).reverse) :: L)
 refine TC.seq (TC.region (TL.opP rfl (op_lss rfl rfl) (TL.nil (TQ.then (TC.seq ?_)))))
 first | refine TC.condD rfl (fun c1 => ?_) (fun c1 => ?_) | refine TC.condB rfl (fun c1 => ?_) (fun c1 => ?_)
 ·obtain ⟨t, ht⟩ : ∃ t, P.getD i [] = t := ⟨_, rfl⟩
  obtain ⟨a1, a2, a3, a4, a5, a6, a7⟩ := hI.at_ hb ht
  refine TC.skip (TQ.then (TC.seq (TC.block (TC.seq (TC.region (TL.opP rfl (op_move rfl) (TL.opV rfl (op_index tsl_string rfl hr.cons.cons rfl (by omega) (by omega)) (TL.opV rfl (op_loadR ts_string rfl hr.cons.cons (lkM (d := []) a1 ht (by omega))) (TL.opP rfl (op_assign rfl) (TL.opP rfl (op_assign rfl) (TL.nil (TQ.then (TC.seq (TC.region (TL.opP rfl (op_move rfl) (TL.opP rfl (op_move rfl) (TL.opP rfl (op_sadde rfl rfl (by omega)) (TL.opP rfl (op_assign rfl) (TL.nil (TQ.then (TC.seq (TC.seq (TC.region (TL.opP rfl (op_move rfl) (TL.opP rfl (op_field fld_sealskinref03_Wide_Drop rfl) (TL.opV rfl (op_load ts_sl_bool rfl m0 rfl) (TL.opV rfl (op_lenV rfl un_sl_bool rfl hr2.cons.cons) (TL.opP rfl (op_eql rfl rfl) ?_))))))))))))))))))))))))))))
  refine TL.nil (TQ.then ?_)
  first | refine TC.condD rfl (fun c2 => ?_) (fun c2 => ?_) | refine TC.condB rfl (fun c2 => ?_) (fun c2 => ?_)
  ·refine TC.exit (TQ.then_exit (TQ.block_miss rfl (TQ.then_exit (TQ.loop_exit (TQ.block_hit (TQ.then (TC.seq (TC.region (TL.opP rfl (op_move rfl) (TL.opP rfl (op_move rfl) (TL.opP rfl (op_move rfl) (TL.hp (fun _ h => h.pick1) ?_))))))))))))
   refine TL.opX rfl (OpX.callX en_60 rfl (rboth_x r (enc (ahead ++ t)) drops _ a5 a6 a7)) ?_; rintro _ _ ⟨w1, rfl, rfl⟩
   refine TL.opP rfl (op_assign rfl) (TL.nil (TQ.then (TC.ret ?_)))
   refine ret1 rfl rfl (fun w' hp => ?_)
   have hst := hI.stop hb ht (by omega)
   have hq := (hp.drop1)
   exact ⟨_, _, rfl, ⟨_, rfl, by rw [closeF, ← hst, List.length_reverse]⟩, hq⟩
  ·refine TC.skip (TQ.then (TC.seq (TC.seq (TC.region (TL.opP rfl (op_field fld_sealskinref03_Wide_Drop rfl) (TL.opV rfl (op_load ts_sl_bool rfl m0 rfl) (TL.opP rfl (op_move rfl) (TL.opV rfl (op_index tsl_bool rfl hr2.cons.cons rfl (by omega) (by omega)) (TL.opV rfl (op_loadR ts_bool rfl hr2.cons.cons (lkM (i := i) (d := false) (by omega) rfl (by omega))) (TL.nil (TQ.then ?_)))))))))))
   first | refine TC.condD rfl (fun c3 => ?_) (fun c3 => ?_) | refine TC.condB rfl (fun c3 => ?_) (fun c3 => ?_)
   ·refine TC.seq (TC.region (TL.opP rfl (op_move rfl) (TL.opP rfl (op_add rfl rfl rfl (by omega) (by omega)) (TL.opP rfl (op_assign rfl) (TL.nil (TQ.then (TC.exit (TQ.then_exit (TQ.block_hit (TQ.then (TC.region (TL.opP rfl (op_add rfl rfl rfl (by omega) (by omega)) (TL.opP rfl (op_move rfl) (TL.nil ?_))))))))))))))
    exact TQ.round (i + 1, r, ahead ++ t, drops + 1, ov) (hI.stepT hb ht (by omega) c3) (by show _ - (i + 1) < _ - i; omega) ⟨rfl, rfl, rfl, rfl, rfl, rfl, rfl, trivial⟩ (fun _ h => h)
   ·obtain ⟨b1', b2'⟩ := hI.stepF hb ht (by omega) c3
    refine TC.skip (TQ.then (TC.seq (TC.region (TL.opP rfl (op_move rfl) (TL.opP rfl (op_move rfl) (TL.opP rfl (op_move rfl) (TL.hp (fun _ h => h.pick1) ?_)))))))
    refine TL.opX rfl (OpX.callX en_60 rfl (rboth_x r (enc (ahead ++ t)) drops _ a5 a6 a7)) ?_; rintro _ _ ⟨w2, rfl, rfl⟩
    refine TL.opP rfl (op_build (ps := #[(0, _), (1, _)]) rfl (bl_api_Part_01 _ _)) ?_
    refine TL.opX rfl (OpX.callX en_59 rfl (rone_x (bothR r (enc (ahead ++ t)) drops) ⟨1, 1, ⟨#[]⟩⟩ _ b1' rw0)) ?_; rintro w3 _ ⟨_, rfl, rfl⟩
    refine TL.opP rfl (op_assign rfl) (TL.nil (TQ.then (TC.seq (TC.region (TL.opP rfl (op_assign rfl) (TL.nil (TQ.then (TC.region (TL.opP rfl (op_assign rfl) (TL.nil (TQ.block_normal (TQ.then (TC.region (TL.opP rfl (op_add rfl rfl rfl (by omega) (by omega)) (TL.opP rfl (op_move rfl) (TL.nil ?_))))))))))))))))
    exact TQ.round (i + 1, _, [], 0, w3) (b2') (by show _ - (i + 1) < _ - i; omega) ⟨rfl, rfl, rfl, rfl, rfl, rfl, rfl, trivial⟩ (fun _ h => h.drop1.pick1)
 ·exact absurd hil (by omega)

end Go.SK
