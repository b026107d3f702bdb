/- Walks: layer 11, the document's own answer. -/
import Derived.Test.YtpomdenbgdgbhaaDoorE53
import Derived.Test.YtpomdenbgdgbhaaDoorMB
import Derived.Laws.OwnMore
set_option linter.unusedVariables false
set_option linter.unusedSimpArgs false
set_option maxRecDepth 100000
namespace Go.SK
open Go Go.RowKit Go.Proofs
variable {S : Nat → Prop} {w0 : World} {F L : List Res}
section
variable {P : Program} {n : Nat} {l : FrL} {dst : Option Tmp} {x y : Operand} {ty : TypeId} {pos : String} {af : Array Edge} {gd : Option (Nat × Bool)} {t t' : TypeId}
theorem enc_one' (c : Int) : enc [c] = Utf8.encode c := ba_ext (by simp [enc, encsL, encL])
theorem op_unrune1 {d' : Nat} {k : IntKind} {c : Int} (ht : (P.underlying t).isSome = true) (hs : P.underlying d' = some .string) (hx : evO l x = some (.int k c)) : OpP P n l ⟨dst, .convert t d' x, ty, pos, af, gd⟩ (.string (enc [c])) := by
  have := op_unrune (P := P) (n := n) (l := l) (dst := dst) (ty := ty) (pos := pos) (af := af) (gd := gd) ht hs hx
  rw [enc_one']; exact this
theorem op_sadde {a b : List Int} (hx : evO l x = some (.string (enc a))) (hy : evO l y = some (.string (enc b))) (hs : (enc a).size + (enc b).size ≤ 9223372036854775807) : OpP P n l ⟨dst, .binOp .add t x y t', ty, pos, af, gd⟩ (.string (enc (a ++ b))) := by
  rw [enc_append]; exact op_sadd hx hy hs
end
theorem one1 {v : Value} (h : v.oneCell' = true) : ∀ u ∈ [v], u.oneCell' = true := fun u hu => by rw [List.mem_singleton.1 hu]; exact h
theorem made_str (n : Nat) : (madeCells (Value.string ⟨#[]⟩).cells (n * 1)).toList = (List.replicate n ([] : List Int)).map sv := by
  rw [Nat.mul_one, List.map_replicate]
  exact toList_madeCells_one _ n
theorem made_bool (n : Nat) : (madeCells (Value.bool false).cells (n * 1)).toList = (List.replicate n false).map bv := by
  rw [Nat.mul_one, List.map_replicate]
  exact toList_madeCells_one _ n
theorem geq_runes (s : ByteArray) : decide (0 ≤ runesF s.data.toList) = valid s := by
  rcases runesF_cases s with ⟨h, e⟩ | ⟨h, e⟩ <;> rw [e, h] <;> simp
theorem gs {l : FrL} {t : Nat} {b c : List Int} (h : get l t = some (.string (enc b))) (e : b = c) : get l t = some (.string (enc c)) := e ▸ h
def boA (l : List Int) (k : Int) : Int := if noLine l k then 0 else bg l k
def boZ (l : List Int) (k : Int) : Int := if noLine l k then 0 else en l k
def boB (l : List Int) (k : Int) : Bool := if noLine l k then false else true
theorem close_x (P : List (List Int)) (D : List Bool) (vp vd : Value) (hb : CLB P D) (hr : Rdb L vp 1 P.length (P.map sv)) (hr2 : Rdb L vd 1 D.length (D.map bv)) :
    CallX Tryd.prog 70 [.agg #[vp, vd]] S w0 (L) (fun u L' => ∃ v', u = v' ∧ L' = .row v' 104 3 (closeF P D).length (encs (closeF P D)) :: L) := by
 intro w hp
 have hlen := hb.len
 have hDb := hb.n
 have hpp := psum_pos P
 refine calls_start Tryd.func70 rfl rfl rfl (hp) ?_
 refine TC.seq (TC.region ?_)
 refine TL.opX rfl (OpX.box (cs := [vp, vd]) rfl rfl) ?_; rintro _ _ ⟨g1, rfl, rfl⟩
 refine TL.opP rfl (op_assign rfl) (TL.nil (TQ.then (TC.seq (TC.region (TL.opP rfl (op_assign rfl) (TL.nil (TQ.then (TC.seq (TC.region (TL.opP rfl (op_assign rfl) (TL.nil (TQ.then (TC.seq (TC.region (TL.opP rfl (op_assign rfl) (TL.nil (TQ.then (TC.seq (TC.seq (TC.region (TL.opP rfl (op_field fld_sealskinref03_Wide_Puts rfl) (TL.opV rfl (op_load ts_sl_string rfl m0 rfl) (TL.opV rfl (op_lenV rfl un_sl_string rfl hr.cons) (TL.opP rfl (op_move rfl) (TL.nil (TQ.then (TC.block (TC.hp (fun _ h => new_nil 104 3 h) (TC.loop (ι := Nat × List Part × List Int × Int × Value) (fun (i, r, ahead, drops, ov) => [(1, .pointer (some ⟨g1, 0, none⟩)), (3, ov), (4, .string (enc ahead)), (5, .int .i64 drops), (9, vp), (10, .int .i64 (P.length : Int)), (11, .int .i64 (i : Int))]) (fun (i, r, ahead, drops, ov) => .blk g1 (.cells [vp, vd].toArray 101 (0, 0)) :: .row ov 104 3 (r).length (encs (r).reverse) :: L) (fun (i, r, ahead, drops, ov) => CLInv P D i r ahead drops) (fun (i, r, ahead, drops, ov) => D.length + 1 - i) ((0, [], [], 0, .slice none 0 0)) ((CLInv.start hb)) ⟨rfl, rfl, rfl, rfl, rfl, rfl, rfl, trivial⟩ (fun _ h => h.pick1) ?_)))))))))))))))))))))))))))))
 rintro ⟨i, r, ahead, drops, ov⟩ (hI : CLInv P D i r ahead drops)
 have hil := hI.ile
 have hd0 := hI.d0
 show TC _ _ _ _ [(1, .pointer (some ⟨g1, 0, none⟩)), (3, ov), (4, .string (enc ahead)), (5, .int .i64 drops), (9, vp), (10, .int .i64 (P.length : Int)), (11, .int .i64 (i : Int))] _ _ (.blk g1 (.cells [vp, vd].toArray 101 (0, 0)) :: .row ov 104 3 (r).length (encs (r).reverse) :: L)
 refine TC.seq (TC.region (TL.opP rfl (op_lss rfl rfl) (TL.nil (TQ.then (TC.seq ?_)))))
 first | refine TC.condD rfl (fun c1 => ?_) (fun c1 => ?_) | refine TC.condB rfl (fun c1 => ?_) (fun c1 => ?_)
 ·obtain ⟨t, ht⟩ : ∃ t, P.getD i [] = t := ⟨_, rfl⟩
  obtain ⟨a1, a2, a3, a4, a5, a6, a7⟩ := hI.at_ hb ht
  refine TC.skip (TQ.then (TC.seq (TC.block (TC.seq (TC.region (TL.opP rfl (op_move rfl) (TL.opV rfl (op_index tsl_string rfl hr.cons.cons rfl (by omega) (by omega)) (TL.opV rfl (op_loadR ts_string rfl hr.cons.cons (lkM (d := []) a1 ht (by omega))) (TL.opP rfl (op_assign rfl) (TL.opP rfl (op_assign rfl) (TL.nil (TQ.then (TC.seq (TC.region (TL.opP rfl (op_move rfl) (TL.opP rfl (op_move rfl) (TL.opP rfl (op_sadde rfl rfl (by omega)) (TL.opP rfl (op_assign rfl) (TL.nil (TQ.then (TC.seq (TC.seq (TC.region (TL.opP rfl (op_move rfl) (TL.opP rfl (op_field fld_sealskinref03_Wide_Drop rfl) (TL.opV rfl (op_load ts_sl_bool rfl m0 rfl) (TL.opV rfl (op_lenV rfl un_sl_bool rfl hr2.cons.cons) (TL.opP rfl (op_eql rfl rfl) ?_))))))))))))))))))))))))))))
  refine TL.nil (TQ.then ?_)
  first | refine TC.condD rfl (fun c2 => ?_) (fun c2 => ?_) | refine TC.condB rfl (fun c2 => ?_) (fun c2 => ?_)
  ·refine TC.exit (TQ.then_exit (TQ.block_miss rfl (TQ.then_exit (TQ.loop_exit (TQ.block_hit (TQ.then (TC.seq (TC.region (TL.opP rfl (op_move rfl) (TL.opP rfl (op_move rfl) (TL.opP rfl (op_move rfl) (TL.hp (fun _ h => h.pick1) ?_))))))))))))
   refine TL.opX rfl (OpX.callX en_109 rfl (rboth_x r (enc (ahead ++ t)) drops _ a5 a6 a7)) ?_; rintro _ _ ⟨w1, rfl, rfl⟩
   refine TL.opP rfl (op_assign rfl) (TL.nil (TQ.then (TC.ret ?_)))
   refine ret1 rfl rfl (fun w' hp => ?_)
   have hst := hI.stop hb ht (by omega)
   have hq := (hp.drop1)
   exact ⟨_, _, rfl, ⟨_, rfl, by rw [closeF, ← hst, List.length_reverse]⟩, hq⟩
  ·refine TC.skip (TQ.then (TC.seq (TC.seq (TC.region (TL.opP rfl (op_field fld_sealskinref03_Wide_Drop rfl) (TL.opV rfl (op_load ts_sl_bool rfl m0 rfl) (TL.opP rfl (op_move rfl) (TL.opV rfl (op_index tsl_bool rfl hr2.cons.cons rfl (by omega) (by omega)) (TL.opV rfl (op_loadR ts_bool rfl hr2.cons.cons (lkM (i := i) (d := false) (by omega) rfl (by omega))) (TL.nil (TQ.then ?_)))))))))))
   first | refine TC.condD rfl (fun c3 => ?_) (fun c3 => ?_) | refine TC.condB rfl (fun c3 => ?_) (fun c3 => ?_)
   ·refine TC.seq (TC.region (TL.opP rfl (op_move rfl) (TL.opP rfl (op_add rfl rfl rfl (by omega) (by omega)) (TL.opP rfl (op_assign rfl) (TL.nil (TQ.then (TC.exit (TQ.then_exit (TQ.block_hit (TQ.then (TC.region (TL.opP rfl (op_add rfl rfl rfl (by omega) (by omega)) (TL.opP rfl (op_move rfl) (TL.nil ?_))))))))))))))
    exact TQ.round (i + 1, r, ahead ++ t, drops + 1, ov) (hI.stepT hb ht (by omega) c3) (by show _ - (i + 1) < _ - i; omega) ⟨rfl, rfl, rfl, rfl, rfl, rfl, rfl, trivial⟩ (fun _ h => h)
   ·obtain ⟨b1', b2'⟩ := hI.stepF hb ht (by omega) c3
    refine TC.skip (TQ.then (TC.seq (TC.region (TL.opP rfl (op_move rfl) (TL.opP rfl (op_move rfl) (TL.opP rfl (op_move rfl) (TL.hp (fun _ h => h.pick1) ?_)))))))
    refine TL.opX rfl (OpX.callX en_109 rfl (rboth_x r (enc (ahead ++ t)) drops _ a5 a6 a7)) ?_; rintro _ _ ⟨w2, rfl, rfl⟩
    refine TL.opP rfl (op_build (ps := #[(0, _), (1, _)]) rfl (bl_api_Part_01 _ _)) ?_
    refine TL.opX rfl (OpX.callX en_108 rfl (rone_x (bothR r (enc (ahead ++ t)) drops) ⟨1, 1, ⟨#[]⟩⟩ _ b1' rw0)) ?_; rintro w3 _ ⟨_, rfl, rfl⟩
    refine TL.opP rfl (op_assign rfl) (TL.nil (TQ.then (TC.seq (TC.region (TL.opP rfl (op_assign rfl) (TL.nil (TQ.then (TC.region (TL.opP rfl (op_assign rfl) (TL.nil (TQ.block_normal (TQ.then (TC.region (TL.opP rfl (op_add rfl rfl rfl (by omega) (by omega)) (TL.opP rfl (op_move rfl) (TL.nil ?_))))))))))))))))
    exact TQ.round (i + 1, _, [], 0, w3) (b2') (by show _ - (i + 1) < _ - i; omega) ⟨rfl, rfl, rfl, rfl, rfl, rfl, rfl, trivial⟩ (fun _ h => h.drop1.pick1)
 ·exact absurd hil (by omega)

theorem ychars_x (s : ByteArray) (hs : s.size ≤ 4398046511104) :
    CallX Tryd.prog 64 [.string s] S w0 (L) (fun u L' => ∃ v', u = .tuple #[v', .bool (valid s)] ∧ L' = .row v' 21 1 (dec s).length ((dec s).map (Value.int .i32)) :: L) := by
 intro w hp
 refine calls_start Tryd.func64 rfl rfl rfl (hp) ?_
 refine TC.seq (TC.region (TL.opP rfl (op_assign rfl) (TL.opP rfl (op_assign rfl) (TL.nil (TQ.then (TC.seq (TC.region (TL.opP rfl (op_assign rfl) (TL.nil (TQ.then (TC.seq (TC.seq (TC.region (TL.opP rfl (op_move rfl) ?_))))))))))))))
 refine TL.opX rfl (OpX.range un_string rfl) ?_; rintro _ _ ⟨g8, rfl, rfl⟩
 refine TL.nil (TQ.then (TC.block (TC.hp (fun _ h => new_nil 21 1 h) ?_)))
 refine TC.loop (ι := Nat × List Int × Value) (fun (pos, out, ov) => [(0, .string s), (4, ov), (8, .pointer (some ⟨g8, 0, none⟩))]) (fun (pos, out, ov) => .blk g8 (.stringIter s pos) :: .row ov 21 1 (out).length ((out).map (Value.int .i32)) :: L) (fun (pos, out, ov) => out ++ decFrom s pos = dec s) (fun (pos, out, ov) => (decFrom s pos).length) ((0, [], .slice none 0 0)) ((by show [] ++ decFrom s 0 = dec s; rw [decFrom_zero]; rfl)) ⟨rfl, rfl, rfl, trivial⟩ (fun _ h => h.pick1) ?_
 rintro ⟨pos, out, ov⟩ (hI : out ++ decFrom s pos = dec s)
 have hol : out.length ≤ s.size := by have h1 := dec_len s; rw [← hI, List.length_append] at h1; omega
 show TC _ _ _ _ [(0, .string s), (4, ov), (8, .pointer (some ⟨g8, 0, none⟩))] _ _ (.blk g8 (.stringIter s pos) :: .row ov 21 1 (out).length ((out).map (Value.int .i32)) :: L)
 refine TC.seq (TC.region ?_)
 refine TL.opX rfl (OpX.next rfl) ?_; rintro _ _ (⟨hn1, rfl, rfl⟩ | ⟨hn1, rfl, rfl⟩)
 ·skip
  have hst := decFrom_step hn1
  have hc : (out ++ [((Utf8.decode s pos).1 : Int)]) ++ decFrom s (pos + (Utf8.decode s pos).2) = dec s := by rw [← hI, hst]; simp
  have hm : (decFrom s (pos + (Utf8.decode s pos).2)).length < (decFrom s pos).length := by rw [hst]; simp
  refine TL.opP rfl (op_extract rfl rfl) (TL.nil (TQ.then (TC.seq (TC.condT rfl (TC.skip (TQ.then (TC.block (TC.seq (TC.region (TL.opP rfl (op_extract rfl rfl) (TL.opP rfl (op_assign rfl) (TL.nil (TQ.then (TC.region (TL.opP rfl (op_move rfl) (TL.opP rfl (op_move rfl) ?_))))))))))))))))
  refine TL.opX rfl (OpX.buildSlice (ps := #[(0, _)]) rfl (bs_int32_1 _)) ?_; rintro _ _ ⟨g14, rfl, rfl⟩
  refine TL.hp (fun _ h => blk_row (k := 1) (m := 1) h rfl (by decide)) (TL.hp (fun _ h => h.pick2) ?_)
  refine TL.opX rfl (OpX.append (bytes := 4) tsl_int32 (by decide) (by decide) rfl rw1 (one1 rfl) (by omega) (zs := (out ++ [((Utf8.decode s pos).1 : Int)]).map (Value.int .i32)) (by simp)) ?_; rintro v1 _ rfl
  refine TL.know (fun _ h => row1 h) (fun o1 => (TL.hp (fun _ h => row_lenM h) (TL.opP rfl (op_assign rfl) (TL.nil (TQ.block_normal ?_)))))
  exact TQ.round (_, _, v1) (hc) (hm) ⟨rfl, rfl, rfl, trivial⟩ (fun _ h => h.drop1.pick1)
 ·skip
  have hz : out = dec s := by rw [← hI, decFrom_end hn1, List.append_nil]
  refine TL.opP rfl (op_extract rfl rfl) (TL.nil (TQ.then (TC.seq (TC.condF rfl (TC.exit (TQ.then_exit (TQ.loop_exit (TQ.block_hit (TQ.then (TC.seq (TC.region (TL.opP rfl (op_move rfl) (TL.opP rfl (op_move rfl) ?_)))))))))))))
  refine TL.opX rfl (OpX.bytes un_string tsl_uint8 un_uint8 rfl (by simp only [maxLen]; omega)) ?_; rintro v2 _ rfl
  refine TL.know (fun _ h => rd1' h) (fun o2 => ?_)
  refine TL.callq rfl en_96 rfl (fun w2 hp => runes_calls s.data.toList _ w2 (by rw [size_len]; exact rd0 _ _ _ hp)) ?_
  refine TL.opP rfl (op_geq rfl rfl) (TL.opP rfl (op_assign rfl) (TL.opP rfl (op_assign rfl) (TL.nil (TQ.then (TC.ret ?_)))))
  refine ret2 rfl rfl rfl (fun w' hp => ?_)
  exact ⟨_, _, rfl, ⟨_, by rw [geq_runes s], by rw [hz]⟩, (hp.drop1.tail)⟩

theorem ynew_x (s : ByteArray) (hv : valid s = true) (hs : s.size ≤ 1048576) :
    CallX Tryd.prog 20 [.string s] S w0 (L) (fun u L' => ∃ g lv, u = .tuple #[.pointer (some ⟨g, 0, none⟩), .int .i64 0] ∧ L' = .blk g (.cells [lv].toArray 56 (0, 0)) :: .rd lv 1 (dec s).length ((dec s).map (Value.int .i32)) :: L) := by
 intro w hp
 refine calls_start Tryd.func20 rfl rfl rfl (hp) ?_
 refine TC.seq (TC.region (TL.opP rfl (op_assign rfl) (TL.opP rfl (op_assign rfl) (TL.nil (TQ.then (TC.seq (TC.region (TL.opP rfl (op_move rfl) ?_))))))))
 refine TL.opX rfl (OpX.callX en_64 rfl (ychars_x s (by omega))) ?_; rintro _ _ ⟨w1, rfl, rfl⟩
 refine TL.know (fun _ h => row1 h) (fun ob => (TL.opP rfl (op_move rfl) (TL.hp (fun _ h => row_rd h) (TL.opP rfl (op_extract rfl rfl) (TL.opP rfl (op_extract rfl rfl) (TL.opP rfl (op_assign rfl) (TL.opP rfl (op_assign rfl) (TL.nil (TQ.then (TC.seq (TC.seq (TC.region (TL.opP rfl (op_move rfl) (TL.opP rfl (op_not rfl rfl) (TL.nil (TQ.then ?_))))))))))))))))
 first | refine TC.condD rfl (fun c1 => ?_) (fun c1 => ?_) | refine TC.condB rfl (fun c1 => ?_) (fun c1 => ?_)
 ·exact absurd c1 (by rw [hv]; decide)
 ·refine TC.skip (TQ.then (TC.seq (TC.region (TL.opP rfl (op_move rfl) (TL.opP rfl (op_build (ps := #[(0, _)]) rfl (bl_sealskinref11_Index_0 _)) ?_)))))
  refine TL.opX rfl (OpX.box (cs := [w1]) rfl rfl) ?_; rintro _ _ ⟨g15, rfl, rfl⟩
  refine TL.opP rfl (op_assign rfl) (TL.opP rfl (op_assign rfl) (TL.nil (TQ.then (TC.ret ?_))))
  refine ret2 rfl rfl rfl (fun w' hp => ?_)
  exact ⟨_, _, rfl, ⟨_, _, rfl, rfl⟩, (hp)⟩

theorem ynewb_x (s : ByteArray) (hv : valid s = false) (hs : s.size ≤ 4398046511104) :
    CallX Tryd.prog 20 [.string s] S w0 (L) (fun u L' => u = .tuple #[.pointer none, .int .i64 21] ∧ L' = L) := by
 intro w hp
 refine calls_start Tryd.func20 rfl rfl rfl (hp) ?_
 refine TC.seq (TC.region (TL.opP rfl (op_assign rfl) (TL.opP rfl (op_assign rfl) (TL.nil (TQ.then (TC.seq (TC.region (TL.opP rfl (op_move rfl) ?_))))))))
 refine TL.opX rfl (OpX.callX en_64 rfl (ychars_x s (by omega))) ?_; rintro _ _ ⟨w1, rfl, rfl⟩
 refine TL.opP rfl (op_move rfl) (TL.opP rfl (op_extract rfl rfl) (TL.opP rfl (op_extract rfl rfl) (TL.opP rfl (op_assign rfl) (TL.opP rfl (op_assign rfl) (TL.nil (TQ.then (TC.seq (TC.seq (TC.region (TL.opP rfl (op_move rfl) (TL.opP rfl (op_not rfl rfl) (TL.nil (TQ.then ?_)))))))))))))
 first | refine TC.condD rfl (fun c1 => ?_) (fun c1 => ?_) | refine TC.condB rfl (fun c1 => ?_) (fun c1 => ?_)
 ·refine TC.seq (TC.region (TL.opP rfl (op_assign rfl) (TL.opP rfl (op_assign rfl) (TL.nil (TQ.then (TC.ret (TQ.then_ret ?_)))))))
  refine ret2 rfl rfl rfl (fun w' hp => ?_)
  exact ⟨_, _, rfl, ⟨rfl, rfl⟩, (hp.tail)⟩
 ·exact absurd c1 (by rw [hv]; decide)

theorem ybegins_x (l : List Int) (lv : Value) (g : Nat) (hyl : Rdb F lv 1 l.length (l.map (Value.int .i32))) (hln : l.length ≤ 1048576) :
    CallX Tryd.prog 38 [.pointer (some ⟨g, 0, none⟩)] S w0 (.blk g (.cells [lv].toArray 56 (0, 0)) :: F) (fun u L' => ∃ v', u = v' ∧ L' = .row v' 3 1 (begs l).length ((begs l).map nv) :: .blk g (.cells [lv].toArray 56 (0, 0)) :: F) := by
 intro w hp
 have hyll := hyl.cons.lenLe hp
 have hbl := begs_len l
 refine calls_start Tryd.func38 rfl rfl rfl (hp) ?_
 refine TC.seq (TC.region (TL.opP rfl (op_assign rfl) (TL.nil (TQ.then (TC.seq (TC.region ?_))))))
 refine TL.opX rfl (OpX.buildSlice (ps := #[(0, _)]) rfl (bs_int_1 _)) ?_; rintro _ _ ⟨g6, rfl, rfl⟩
 refine TL.hp (fun _ h => blk_row (k := 1) (m := 1) h rfl (by decide)) (TL.opP rfl (op_assign rfl) (TL.nil (TQ.then (TC.seq (TC.seq (TC.region (TL.opP rfl (op_move rfl) (TL.opP rfl (op_nilCheck rfl) (TL.opP rfl (op_field fld_sealskinref11_Index_L rfl) (TL.opV rfl (op_load ts_sl_int32 rfl m1 rfl) (TL.opV rfl (op_lenV rfl un_sl_int32 rfl hyl.cons.cons) (TL.opP rfl (op_move rfl) (TL.nil (TQ.then (TC.block (TC.loop (ι := Nat × Value) (fun (i, bv) => [(3, bv), (10, lv), (11, .int .i64 (l.length : Int)), (12, .int .i64 (i : Int))]) (fun (i, bv) => .row bv 3 1 (begs (l.take i)).length ((begs (l.take i)).map nv) :: .blk g (.cells [lv].toArray 56 (0, 0)) :: F) (fun (i, bv) => i ≤ l.length) (fun (i, bv) => l.length - i) ((0, .slice (some ⟨g6, 0, none⟩) 1 1)) (Nat.zero_le _) ⟨rfl, rfl, rfl, rfl, trivial⟩ (fun _ h => h) ?_))))))))))))))))
 rintro ⟨i, bv⟩ (hi : i ≤ l.length)
 have hbl2 := begs_len (l.take i)
 rw [List.length_take] at hbl2
 show TC _ _ _ _ [(3, bv), (10, lv), (11, .int .i64 (l.length : Int)), (12, .int .i64 (i : Int))] _ _ (.row bv 3 1 (begs (l.take i)).length ((begs (l.take i)).map nv) :: .blk g (.cells [lv].toArray 56 (0, 0)) :: F)
 refine TC.seq (TC.region (TL.opP rfl (op_lss rfl rfl) (TL.nil (TQ.then (TC.seq ?_)))))
 first | refine TC.condD rfl (fun c1 => ?_) (fun c1 => ?_) | refine TC.condB rfl (fun c1 => ?_) (fun c1 => ?_)
 ·refine TC.skip (TQ.then (TC.seq (TC.block (TC.seq (TC.region (TL.opP rfl (op_move rfl) (TL.opV rfl (op_index tsl_int32 rfl hyl.cons.cons rfl (by omega) (by omega)) (TL.opV rfl (op_loadR ts_int32 rfl hyl.cons.cons (lkM (i := i) (d := 0) (by omega) rfl (by omega))) (TL.opP rfl (op_assign rfl) (TL.opP rfl (op_assign rfl) (TL.nil (TQ.then (TC.seq (TC.region (TL.opP rfl (op_move rfl) (TL.opP rfl (op_eql rfl rfl) (TL.nil (TQ.then ?_))))))))))))))))))
  first | refine TC.condD rfl (fun c2 => ?_) (fun c2 => ?_) | refine TC.condB rfl (fun c2 => ?_) (fun c2 => ?_)
  ·refine TC.region (TL.opP rfl (op_move rfl) (TL.opP rfl (op_move rfl) (TL.opP rfl (op_add rfl rfl rfl (by omega) (by omega)) ?_)))
   refine TL.opX rfl (OpX.buildSlice (ps := #[(0, _)]) rfl (bs_int_1 _)) ?_; rintro _ _ ⟨g22, rfl, rfl⟩
   refine TL.hp (fun _ h => blk_row (k := 1) (m := 1) h rfl (by decide)) (TL.hp (fun _ h => h.pick1) ?_)
   refine TL.opX rfl (OpX.append (bytes := 8) tsl_int (by decide) (by decide) rfl rw1 (fun u hu => by rw [List.mem_singleton.1 hu]; rfl) (by omega) (zs := (begs (l.take (i + 1))).map nv) (begs_map (by omega) c2)) ?_; rintro v1 _ rfl
   refine TL.know (fun _ h => row1 h) (fun o1 => (TL.hp (fun _ h => row_lenM h) (TL.opP rfl (op_assign rfl) (TL.nil (TQ.block_normal (TQ.then (TC.region (TL.opP rfl (op_add rfl rfl rfl (by omega) (by omega)) (TL.opP rfl (op_move rfl) (TL.nil ?_))))))))))
   exact TQ.round (i + 1, v1) (by show i + 1 ≤ _; omega) (by show _ - (i + 1) < _ - i; omega) ⟨rfl, rfl, rfl, rfl, trivial⟩ (fun _ h => by dsimp only; first | exact h.drop1 | (rw [begs_nom (by omega) c2]; exact h.drop1))
  ·refine TC.skip (TQ.block_normal (TQ.then (TC.region (TL.opP rfl (op_add rfl rfl rfl (by omega) (by omega)) (TL.opP rfl (op_move rfl) (TL.nil ?_))))))
   exact TQ.round (i + 1, bv) (by show i + 1 ≤ _; omega) (by show _ - (i + 1) < _ - i; omega) ⟨rfl, rfl, rfl, rfl, trivial⟩ (fun _ h => by dsimp only; first | exact h | (rw [begs_nom (by omega) c2]; exact h))
 ·refine TC.exit (TQ.then_exit (TQ.loop_exit (TQ.block_hit (TQ.then (TC.seq (TC.region (TL.opP rfl (op_move rfl) (TL.opP rfl (op_assign rfl) (TL.nil (TQ.then (TC.ret ?_)))))))))))
  refine ret1 rfl rfl (fun w' hp => ?_)
  have hq := (hp)
  rw [List.take_of_length_le (by omega)] at hq
  exact ⟨_, _, rfl, ⟨_, rfl, rfl⟩, hq⟩

theorem ybounds_x (l : List Int) (lv : Value) (g : Nat) (hyl : Rdb F lv 1 l.length (l.map (Value.int .i32))) (k : Int) (hln : l.length ≤ 1048576) :
    CallX Tryd.prog 72 [.pointer (some ⟨g, 0, none⟩), .int .i64 k] S w0 (.blk g (.cells [lv].toArray 56 (0, 0)) :: F) (fun u L' => u = .tuple #[.int .i64 (boA l k), .int .i64 (boZ l k), .bool (boB l k)] ∧ L' = .blk g (.cells [lv].toArray 56 (0, 0)) :: F) := by
 intro w hp
 have hyll := hyl.cons.lenLe hp
 have hbl := begs_len l
 refine calls_start Tryd.func72 rfl rfl rfl (hp) ?_
 refine TC.seq (TC.region (TL.opP rfl (op_assign rfl) (TL.opP rfl (op_assign rfl) (TL.opP rfl (op_assign rfl) (TL.nil (TQ.then (TC.seq (TC.region (TL.opP rfl (op_move rfl) ?_)))))))))
 refine TL.opX rfl (OpX.callX en_38 rfl (ybegins_x l _ _ hyl hln)) ?_; rintro w1 _ ⟨_, rfl, rfl⟩
 refine TL.opP rfl (op_assign rfl) (TL.nil (TQ.then (TC.seq (TC.seq (TC.region (TL.opP rfl (op_move rfl) (TL.opP rfl (op_lss rfl rfl) (TL.opP rfl (op_move rfl) ?_))))))))
 first | refine TL.splitD (fun c1 => ?_) (fun c1 => ?_) | refine TL.splitB (fun c1 => ?_) (fun c1 => ?_)
 ·refine TL.gFt rfl rfl rfl (TL.gFt rfl rfl rfl (TL.gFt rfl rfl rfl (TL.gFt rfl rfl rfl (TL.opP rfl (op_pickT rfl rfl) (TL.nil (TQ.then (TC.condT rfl (TC.seq (TC.region (TL.opP rfl (op_assign rfl) (TL.opP rfl (op_assign rfl) (TL.opP rfl (op_assign rfl) (TL.nil (TQ.then (TC.ret (TQ.then_ret ?_))))))))))))))))
  refine ret3 rfl rfl rfl rfl (fun w' hp => ?_)
  first
    | (have hn : noLine l k := by unfold noLine; omega
       exact ⟨_, _, rfl, ⟨by rw [show boA l k = _ from if_pos hn, show boZ l k = _ from if_pos hn, show boB l k = _ from if_pos hn], rfl⟩, (hp.tail)⟩)
    | (have h1 : boZ l j = l.length := by (rw [show boZ l j = _ from if_neg hnl, hen, he2])
       exact ⟨_, _, rfl, ⟨by (rw [show boA l j = _ from if_neg hnl, h1, show boB l j = _ from if_neg hnl, hbg]; first | done | rfl), rfl⟩, (hp.tail)⟩)
    | (have h1 : boZ l j = (((begs l).getD (j + 1) 0 : Nat) : Int) - 1 := by (rw [show boZ l j = _ from if_neg hnl, hen, he]; omega)
       exact ⟨_, _, rfl, ⟨by (rw [show boA l j = _ from if_neg hnl, h1, show boB l j = _ from if_neg hnl, hbg]; first | done | rfl), rfl⟩, (hp.tail)⟩)
 ·refine TL.gT rfl rfl (TL.opP rfl (op_move rfl) (TL.gT rfl rfl (TL.opP rfl (op_move rfl) (TL.gT rfl rfl (TL.opV rfl (op_lenV rfl un_sl_int rfl rw0) (TL.gT rfl rfl (TL.opP rfl (op_geq rfl rfl) (TL.opP rfl (op_pickF rfl rfl) (TL.nil (TQ.then ?_))))))))))
  first | refine TC.condD rfl (fun c2 => ?_) (fun c2 => ?_) | refine TC.condB rfl (fun c2 => ?_) (fun c2 => ?_)
  ·refine TC.seq (TC.region (TL.opP rfl (op_assign rfl) (TL.opP rfl (op_assign rfl) (TL.opP rfl (op_assign rfl) (TL.nil (TQ.then (TC.ret (TQ.then_ret ?_))))))))
   refine ret3 rfl rfl rfl rfl (fun w' hp => ?_)
   first
     | (have hn : noLine l k := by unfold noLine; omega
        exact ⟨_, _, rfl, ⟨by rw [show boA l k = _ from if_pos hn, show boZ l k = _ from if_pos hn, show boB l k = _ from if_pos hn], rfl⟩, (hp.tail)⟩)
     | (have h1 : boZ l j = l.length := by (rw [show boZ l j = _ from if_neg hnl, hen, he2])
        exact ⟨_, _, rfl, ⟨by (rw [show boA l j = _ from if_neg hnl, h1, show boB l j = _ from if_neg hnl, hbg]; first | done | rfl), rfl⟩, (hp.tail)⟩)
     | (have h1 : boZ l j = (((begs l).getD (j + 1) 0 : Nat) : Int) - 1 := by (rw [show boZ l j = _ from if_neg hnl, hen, he]; omega)
        exact ⟨_, _, rfl, ⟨by (rw [show boA l j = _ from if_neg hnl, h1, show boB l j = _ from if_neg hnl, hbg]; first | done | rfl), rfl⟩, (hp.tail)⟩)
  ·have hnl : ¬ noLine l k := by unfold noLine; omega
   have hkk : (k.toNat : Int) = k := by omega
   have hbe := bg_en hnl
   have hkl : k.toNat < (begs l).length := by omega
   obtain ⟨j, rfl⟩ : ∃ j : Nat, k = j := ⟨k.toNat, hkk.symm⟩
   simp only [Int.toNat_natCast] at hkl
   have hbg : bg l (j : Int) = (begs l).getD j 0 := rfl
   have hen : en l (j : Int) = endOf l j := rfl
   refine TC.skip (TQ.then (TC.seq (TC.seq (TC.region (TL.opP rfl (op_move rfl) (TL.opP rfl (op_move rfl) (TL.opV rfl (op_lenV rfl un_sl_int rfl rw0) (TL.opP rfl (op_sub rfl rfl rfl (by omega) (by omega)) (TL.opP rfl (op_eql rfl rfl) (TL.nil (TQ.then ?_)))))))))))
   first | refine TC.condD rfl (fun c3 => ?_) (fun c3 => ?_) | refine TC.condB rfl (fun c3 => ?_) (fun c3 => ?_)
   ·have he2 : endOf l j = l.length := if_neg (by omega)
    refine TC.seq (TC.draw [] (.cons (.p, 0) (.cons (.p, 1) (.cons (.p, 4) (.cons (.p, 5) (.cons (.p, 6) (.cons (.t, 2) (.cons (.t, 3) (.cons (.p, 9) (.cons (.t, 7) (.cons (.t, 8) (.cons (.p, 10) (.cons (.p, 11) (.nil))))))))))))) mo (by kernel_rfl) (TR.p rfl rfl wt0 (op_move rfl) (TR.p rfl rfl wt0 (op_move rfl) (TR.p rfl rfl wt0 (op_move rfl) (TR.p rfl rfl wt0 (op_nilCheck rfl) (TR.p rfl rfl wt0 (op_field fld_sealskinref11_Index_L rfl) (TR.t rfl rfl wt0 (op_index tsl_int rfl rw0 rfl (by omega) (by omega)) (fun _ h => h) (TR.t rfl rfl wt0 (op_loadR ts_int rfl rw0 (lkM (f := nv) (i := j) (d := 0) (by omega) rfl (by omega))) (fun _ h => h) (TR.p rfl rfl wt0 (op_assign rfl) (TR.t rfl rfl wt0 (op_load ts_sl_int32 rfl m1 rfl) (fun _ h => h) ?_))))))))))
    refine TR.t rfl rfl wt0 (op_lenV rfl un_sl_int32 rfl hyl.cons.cons) (fun _ h => h) (TR.p rfl rfl wt0 (op_assign rfl) (TR.p rfl rfl wt0 (op_assign rfl) (TR.nil (TQ.then (TC.ret (TQ.then_ret ?_))))))
    refine ret3 rfl rfl rfl rfl (fun w' hp => ?_)
    first
      | (have hn : noLine l k := by unfold noLine; omega
         exact ⟨_, _, rfl, ⟨by rw [show boA l k = _ from if_pos hn, show boZ l k = _ from if_pos hn, show boB l k = _ from if_pos hn], rfl⟩, (hp.tail)⟩)
      | (have h1 : boZ l j = l.length := by (rw [show boZ l j = _ from if_neg hnl, hen, he2])
         exact ⟨_, _, rfl, ⟨by (rw [show boA l j = _ from if_neg hnl, h1, show boB l j = _ from if_neg hnl, hbg]; first | done | rfl), rfl⟩, (hp.tail)⟩)
      | (have h1 : boZ l j = (((begs l).getD (j + 1) 0 : Nat) : Int) - 1 := by (rw [show boZ l j = _ from if_neg hnl, hen, he]; omega)
         exact ⟨_, _, rfl, ⟨by (rw [show boA l j = _ from if_neg hnl, h1, show boB l j = _ from if_neg hnl, hbg]; first | done | rfl), rfl⟩, (hp.tail)⟩)
   ·have hk1 : j + 1 < (begs l).length := by omega
    have hlt := begs_lt (l := l) (show j < j + 1 by omega) hk1
    have hle := begs_le l _ (begs_get_mem hk1)
    have he : endOf l j = (begs l).getD (j + 1) 0 - 1 := if_pos hk1
    refine TC.skip (TQ.then (TC.seq (TC.draw [] (.cons (.p, 0) (.cons (.p, 1) (.cons (.p, 4) (.cons (.p, 5) (.cons (.p, 6) (.cons (.t, 2) (.cons (.t, 3) (.cons (.p, 10) (.cons (.t, 7) (.cons (.t, 8) (.cons (.p, 9) (.cons (.p, 11) (.cons (.p, 12) (.nil)))))))))))))) mo (by kernel_rfl) (TR.p rfl rfl wt0 (op_move rfl) (TR.p rfl rfl wt0 (op_move rfl) (TR.p rfl rfl wt0 (op_move rfl) (TR.p rfl rfl wt0 (op_move rfl) (TR.p rfl rfl wt0 (op_add rfl rfl rfl (by omega) (by omega)) (TR.t rfl rfl wt0 (op_index tsl_int rfl rw0 rfl (by omega) (by omega)) (fun _ h => h) (TR.t rfl rfl wt0 (op_loadR ts_int rfl rw0 (lkM (f := nv) (i := j) (d := 0) (by omega) rfl (by omega))) (fun _ h => h) (TR.p rfl rfl wt0 (op_assign rfl) ?_)))))))))))
    refine TR.t rfl rfl wt0 (op_index tsl_int rfl rw0 rfl (by omega) (by omega)) (fun _ h => h) (TR.t rfl rfl wt0 (op_loadR ts_int rfl rw0 (lkM (f := nv) (i := j + 1) (d := 0) (by omega) rfl (by omega))) (fun _ h => h) (TR.p rfl rfl wt0 (op_sub rfl rfl rfl (by omega) (by omega)) (TR.p rfl rfl wt0 (op_assign rfl) (TR.p rfl rfl wt0 (op_assign rfl) (TR.nil (TQ.then (TC.ret ?_)))))))
    refine ret3 rfl rfl rfl rfl (fun w' hp => ?_)
    first
      | (have hn : noLine l k := by unfold noLine; omega
         exact ⟨_, _, rfl, ⟨by rw [show boA l k = _ from if_pos hn, show boZ l k = _ from if_pos hn, show boB l k = _ from if_pos hn], rfl⟩, (hp.tail)⟩)
      | (have h1 : boZ l j = l.length := by (rw [show boZ l j = _ from if_neg hnl, hen, he2])
         exact ⟨_, _, rfl, ⟨by (rw [show boA l j = _ from if_neg hnl, h1, show boB l j = _ from if_neg hnl, hbg]; first | done | rfl), rfl⟩, (hp.tail)⟩)
      | (have h1 : boZ l j = (((begs l).getD (j + 1) 0 : Nat) : Int) - 1 := by (rw [show boZ l j = _ from if_neg hnl, hen, he]; omega)
         exact ⟨_, _, rfl, ⟨by (rw [show boA l j = _ from if_neg hnl, h1, show boB l j = _ from if_neg hnl, hbg]; first | done | rfl), rfl⟩, (hp.tail)⟩)

theorem yline_x (l : List Int) (lv : Value) (g : Nat) (hyl : Rdb F lv 1 l.length (l.map (Value.int .i32))) (k : Int) (hln : l.length ≤ 1048576) (hsc : ∀ c ∈ l, scalar c) :
    CallX Tryd.prog 34 [.pointer (some ⟨g, 0, none⟩), .int .i64 k] S w0 (.blk g (.cells [lv].toArray 56 (0, 0)) :: F) (fun u L' => u = .tuple #[.string (lineF l k), .int .i64 (lineE l k)] ∧ L' = .blk g (.cells [lv].toArray 56 (0, 0)) :: F) := by
 intro w hp
 have hyll := hyl.cons.lenLe hp
 have hbl := begs_len l
 refine calls_start Tryd.func34 rfl rfl rfl (hp) ?_
 refine TC.seq (TC.region (TL.opP rfl (op_assign rfl) (TL.opP rfl (op_assign rfl) (TL.nil (TQ.then (TC.seq (TC.region (TL.opP rfl (op_move rfl) (TL.opP rfl (op_move rfl) ?_)))))))))
 refine TL.opX rfl (OpX.callX en_72 rfl (ybounds_x l _ _ hyl k hln)) ?_; rintro _ _ ⟨rfl, rfl⟩
 refine TL.opP rfl (op_move rfl) (TL.opP rfl (op_extract rfl rfl) (TL.opP rfl (op_extract rfl rfl) (TL.opP rfl (op_extract rfl rfl) (TL.opP rfl (op_assign rfl) (TL.opP rfl (op_assign rfl) (TL.opP rfl (op_assign rfl) (TL.nil (TQ.then (TC.seq (TC.seq (TC.region (TL.opP rfl (op_move rfl) (TL.opP rfl (op_not rfl rfl) (TL.nil (TQ.then ?_)))))))))))))))
 first | refine TC.condD rfl (fun c1 => ?_) (fun c1 => ?_) | refine TC.condB rfl (fun c1 => ?_) (fun c1 => ?_)
 ·refine TC.seq (TC.region (TL.opP rfl (op_assign rfl) (TL.opP rfl (op_assign rfl) (TL.nil (TQ.then (TC.ret (TQ.then_ret ?_)))))))
  refine ret2 rfl rfl rfl (fun w' hp => ?_)
  first
    | (have hn : noLine l k := by
         cases Decidable.em (noLine l k) with
         | inl h => exact h
         | inr h => exact absurd c1 (by rw [show boB l k = true from if_neg h]; decide)
       exact ⟨_, _, rfl, ⟨by rw [show lineF l k = _ from if_pos hn, show lineE l k = 1 from if_pos hn], rfl⟩, (hp)⟩)
    | (have hi2 : i = en l k - bg l k := by omega
       have ht : ((l.drop (bg l k)).take (en l k - bg l k)).take i = ((l.drop (bg l k)).take (en l k - bg l k)) := List.take_of_length_le (by omega)
       exact ⟨_, _, rfl, ⟨by rw [show lineF l k = _ from if_neg hnl, show lineE l k = 0 from if_neg hnl, ht], rfl⟩, (hp)⟩)
 ·have hnl : ¬ noLine l k := fun h => by rw [show boB l k = false from if_pos h] at c1; exact absurd c1 (by decide)
  have hA : boA l k = bg l k := if_neg hnl
  have hZ : boZ l k = en l k := if_neg hnl
  have hbe := bg_en hnl
  have hsl : ((l.drop (bg l k)).take (en l k - bg l k)).length = en l k - bg l k := by rw [List.length_take, List.length_drop]; omega
  refine TC.skip (TQ.then (TC.seq (TC.region (TL.opP rfl (op_assign rfl) (TL.nil (TQ.then (TC.seq (TC.seq (TC.region (TL.opP rfl (op_move rfl) (TL.opP rfl (op_nilCheck rfl) (TL.opP rfl (op_field fld_sealskinref11_Index_L rfl) (TL.opV rfl (op_load ts_sl_int32 rfl m0 rfl) (TL.opP rfl (op_move rfl) (TL.opP rfl (op_move rfl) (TL.opV rfl (op_cut (bg l k) (en l k) tsl_int32 rfl hyl.cons (vlo := (some _)) (vhi := (some _)) rfl rfl (.inr ⟨_, _, rfl, by omega⟩) (.inr ⟨_, _, rfl, by omega⟩) (by omega) (by omega)) (TL.opV rfl (op_lenV rfl un_sl_int32 rfl (Rdb.cut hyl.cons (bg l k) (en l k) (by omega) (by omega))) (TL.opP rfl (op_move rfl) (TL.nil (TQ.then (TC.block (TC.loop (ι := Nat) (fun i => [(9, .string (enc (((l.drop (bg l k)).take (en l k - bg l k)).take i))), (27, Value.cut lv (bg l k) (en l k) 1), (28, .int .i64 ((en l k - bg l k : Nat) : Int)), (29, .int .i64 (i : Int))]) (fun i => .blk g (.cells [lv].toArray 56 (0, 0)) :: F) (fun i => i ≤ en l k - bg l k) (fun i => en l k - bg l k - i) (0) (Nat.zero_le _) ⟨rfl, rfl, rfl, rfl, trivial⟩ (fun _ h => h) ?_))))))))))))))))))))))
  rintro i (hi : i ≤ en l k - bg l k)
  have hes := (enc_size (((l.drop (bg l k)).take (en l k - bg l k)).take i)).2
  rw [List.length_take] at hes
  refine TC.seq (TC.region (TL.opP rfl (op_lss rfl rfl) (TL.nil (TQ.then (TC.seq ?_)))))
  first | refine TC.condD rfl (fun c2 => ?_) (fun c2 => ?_) | refine TC.condB rfl (fun c2 => ?_) (fun c2 => ?_)
  ·obtain ⟨c, hc⟩ : ∃ c, ((l.drop (bg l k)).take (en l k - bg l k)).getD i 0 = c := ⟨_, rfl⟩
   have hc1 := (enc_size [c]).2
   simp only [List.length_singleton] at hc1
   refine TC.skip (TQ.then (TC.seq (TC.block (TC.seq (TC.region (TL.opV rfl (op_index tsl_int32 rfl (ints_cut hyl (bg l k) (en l k) hbe.1 hbe.2).cons rfl (by omega) (by omega)) (TL.opV rfl (op_loadR ts_int32 rfl (ints_cut hyl (bg l k) (en l k) hbe.1 hbe.2).cons (lkM (d := 0) (by omega) hc (by omega))) (TL.opP rfl (op_assign rfl) (TL.nil (TQ.then (TC.region (TL.opP rfl (op_move rfl) (TL.opP rfl (op_move rfl) (TL.opP rfl (op_unrune1 rfl un_string rfl) (TL.opP rfl (op_sadde rfl rfl (by omega)) (TL.opP rfl (op_assign rfl) (TL.nil (TQ.block_normal (TQ.then (TC.region (TL.opP rfl (op_add rfl rfl rfl (by omega) (by omega)) (TL.opP rfl (op_move rfl) (TL.nil ?_)))))))))))))))))))))))
   exact TQ.round (i + 1) (by show i + 1 ≤ _; omega) (by show _ - (i + 1) < _ - i; omega) ⟨gs rfl (by rw [take_succ_get (by omega) hc]), rfl, rfl, rfl, trivial⟩ (fun _ h => h)
  ·refine TC.exit (TQ.then_exit (TQ.loop_exit (TQ.block_hit (TQ.then (TC.seq (TC.region (TL.opP rfl (op_move rfl) (TL.opP rfl (op_assign rfl) (TL.opP rfl (op_assign rfl) (TL.nil (TQ.then (TC.ret ?_))))))))))))
   refine ret2 rfl rfl rfl (fun w' hp => ?_)
   first
     | (have hn : noLine l k := by
          cases Decidable.em (noLine l k) with
          | inl h => exact h
          | inr h => exact absurd c1 (by rw [show boB l k = true from if_neg h]; decide)
        exact ⟨_, _, rfl, ⟨by rw [show lineF l k = _ from if_pos hn, show lineE l k = 1 from if_pos hn], rfl⟩, (hp)⟩)
     | (have hi2 : i = en l k - bg l k := by omega
        have ht : ((l.drop (bg l k)).take (en l k - bg l k)).take i = ((l.drop (bg l k)).take (en l k - bg l k)) := List.take_of_length_le (by omega)
        exact ⟨_, _, rfl, ⟨by rw [show lineF l k = _ from if_neg hnl, show lineE l k = 0 from if_neg hnl, ht], rfl⟩, (hp)⟩)

theorem get_cut0 {l : List Int} {i j : Nat} (h : j < i) : ((l.drop 0).take (i - 0)).getD j 0 = l.getD j 0 := by
  rw [List.drop_zero, Nat.sub_zero, List.getD_eq_getElem?_getD, List.getD_eq_getElem?_getD, List.getElem?_take, if_pos h]
theorem st_next {p l : List Int} {i k : Nat} (h : p.take k = (l.drop i).take k) (hk : k < p.length) (hl : i + k < l.length) (he : l.getD (i + k) 0 = p.getD k 0) : p.take (k + 1) = (l.drop i).take (k + 1) := by
  rw [take_succ_get hk rfl, take_succ_get (p := l.drop i) (x := p.getD k 0) (by rw [List.length_drop]; omega) (by rw [← he, List.getD_eq_getElem?_getD, List.getElem?_drop, List.getD_eq_getElem?_getD]), h]
theorem st_full {p l : List Int} {i k : Nat} (h : p.take k = (l.drop i).take k) (hk : p.length ≤ k) : stands p l i = true := by
  rw [stands_iff, List.prefix_iff_eq_take]
  rw [List.take_of_length_le hk] at h
  rw [h, List.length_take]
  exact List.take_eq_take_min
theorem st_short {p l : List Int} {i : Nat} (hi : i ≤ l.length) (h : l.length < p.length + i) : stands p l i = false := by
  cases hs : stands p l i with
  | false => rfl
  | true =>
    have := (stands_iff.1 hs).length_le
    rw [List.length_drop] at this
    omega
theorem st_diff {p l : List Int} {i k : Nat} (hk : k < p.length) (hl : i + k < l.length) (he : l.getD (i + k) 0 ≠ p.getD k 0) : stands p l i = false := by
  cases hs : stands p l i with
  | false => rfl
  | true =>
    obtain ⟨r, hr⟩ := stands_iff.1 hs
    exact absurd (by
      rw [List.getD_eq_getElem?_getD, List.getD_eq_getElem?_getD, ← List.getElem?_drop, ← hr, List.getElem?_append_left hk]) he
theorem patE_dec {s : ByteArray} (h : valid s = true) : patE s = if (dec s).length = 0 then 1 else 0 := by
  unfold patE
  rw [if_neg (by rw [h]; decide)]
  by_cases c : s = ⟨#[]⟩
  · rw [if_pos c, c, if_pos (by rfl)]
  · rw [if_neg c, if_neg (fun e => decP_ne h c (List.length_eq_zero_iff.1 e))]
theorem yat_x (l : List Int) (lv : Value) (g : Nat) (hyl : Rdb F lv 1 l.length (l.map (Value.int .i32))) (k c : Int) (hln : l.length ≤ 1048576) :
    CallX Tryd.prog 35 [.pointer (some ⟨g, 0, none⟩), .int .i64 k, .int .i64 c] S w0 (.blk g (.cells [lv].toArray 56 (0, 0)) :: F) (fun u L' => u = .tuple #[.int .i64 (atF l k c), .int .i64 (atE l k c)] ∧ L' = .blk g (.cells [lv].toArray 56 (0, 0)) :: F) := by
 intro w hp
 have hyll := hyl.cons.lenLe hp
 have hbl := begs_len l
 refine calls_start Tryd.func35 rfl rfl rfl (hp) ?_
 refine TC.seq (TC.region (TL.opP rfl (op_assign rfl) (TL.opP rfl (op_assign rfl) (TL.nil (TQ.then (TC.seq (TC.region (TL.opP rfl (op_move rfl) (TL.opP rfl (op_move rfl) ?_)))))))))
 refine TL.opX rfl (OpX.callX en_72 rfl (ybounds_x l _ _ hyl k hln)) ?_; rintro _ _ ⟨rfl, rfl⟩
 refine TL.opP rfl (op_move rfl) (TL.opP rfl (op_extract rfl rfl) (TL.opP rfl (op_extract rfl rfl) (TL.opP rfl (op_extract rfl rfl) (TL.opP rfl (op_assign rfl) (TL.opP rfl (op_assign rfl) (TL.opP rfl (op_assign rfl) (TL.nil (TQ.then (TC.seq (TC.seq (TC.region (TL.opP rfl (op_move rfl) (TL.opP rfl (op_not rfl rfl) (TL.opP rfl (op_move rfl) ?_))))))))))))))
 first | refine TL.splitD (fun c1 => ?_) (fun c1 => ?_) | refine TL.splitB (fun c1 => ?_) (fun c1 => ?_)
 ·refine TL.gFt rfl rfl rfl (TL.gFt rfl rfl rfl (TL.opP rfl (op_pickT rfl rfl) (TL.nil (TQ.then (TC.condT rfl (TC.seq (TC.region (TL.opP rfl (op_assign rfl) (TL.opP rfl (op_assign rfl) (TL.nil (TQ.then (TC.ret (TQ.then_ret ?_)))))))))))))
  refine ret2 rfl rfl rfl (fun w' hp => ?_)
  first
    | (have hn : noLine l k ∨ c < 0 := by
         first
           | exact .inr (by omega)
           | (cases Decidable.em (noLine l k) with
              | inl h => exact .inl h
              | inr h => exact absurd c1 (by rw [show boB l k = true from if_neg h]; decide))
       exact ⟨_, _, rfl, ⟨by rw [show atF l k c = _ from if_pos hn, show atE l k c = 1 from if_pos hn], rfl⟩, (hp)⟩)
    | (have hn : ¬ (noLine l k ∨ c < 0) := by rintro (a | a); exact hnl a; omega
       have h1 : boZ l k = atF l k c := by
         unfold atF; rw [if_neg hn, if_pos (by omega)]; omega
       exact ⟨_, _, rfl, ⟨by (rw [← h1, show atE l k c = 0 from if_neg hn]; first | done | rfl), rfl⟩, (hp)⟩)
    | (have hn : ¬ (noLine l k ∨ c < 0) := by rintro (a | a); exact hnl a; omega
       have h1 : boA l k + c = atF l k c := by
         unfold atF; rw [if_neg hn, if_neg (by omega)]; omega
       exact ⟨_, _, rfl, ⟨by (rw [← h1, show atE l k c = 0 from if_neg hn]; first | done | rfl), rfl⟩, (hp)⟩)
 ·have hnl : ¬ noLine l k := fun h => by rw [show boB l k = false from if_pos h] at c1; exact absurd c1 (by decide)
  have hA : boA l k = bg l k := if_neg hnl
  have hZ : boZ l k = en l k := if_neg hnl
  have hbe := bg_en hnl
  refine TL.gT rfl rfl (TL.opP rfl (op_move rfl) (TL.gT rfl rfl (TL.opP rfl (op_lss rfl rfl) (TL.opP rfl (op_pickF rfl rfl) (TL.nil (TQ.then ?_))))))
  first | refine TC.condD rfl (fun c2 => ?_) (fun c2 => ?_) | refine TC.condB rfl (fun c2 => ?_) (fun c2 => ?_)
  ·refine TC.seq (TC.region (TL.opP rfl (op_assign rfl) (TL.opP rfl (op_assign rfl) (TL.nil (TQ.then (TC.ret (TQ.then_ret ?_)))))))
   refine ret2 rfl rfl rfl (fun w' hp => ?_)
   first
     | (have hn : noLine l k ∨ c < 0 := by
          first
            | exact .inr (by omega)
            | (cases Decidable.em (noLine l k) with
               | inl h => exact .inl h
               | inr h => exact absurd c1 (by rw [show boB l k = true from if_neg h]; decide))
        exact ⟨_, _, rfl, ⟨by rw [show atF l k c = _ from if_pos hn, show atE l k c = 1 from if_pos hn], rfl⟩, (hp)⟩)
     | (have hn : ¬ (noLine l k ∨ c < 0) := by rintro (a | a); exact hnl a; omega
        have h1 : boZ l k = atF l k c := by
          unfold atF; rw [if_neg hn, if_pos (by omega)]; omega
        exact ⟨_, _, rfl, ⟨by (rw [← h1, show atE l k c = 0 from if_neg hn]; first | done | rfl), rfl⟩, (hp)⟩)
     | (have hn : ¬ (noLine l k ∨ c < 0) := by rintro (a | a); exact hnl a; omega
        have h1 : boA l k + c = atF l k c := by
          unfold atF; rw [if_neg hn, if_neg (by omega)]; omega
        exact ⟨_, _, rfl, ⟨by (rw [← h1, show atE l k c = 0 from if_neg hn]; first | done | rfl), rfl⟩, (hp)⟩)
  ·refine TC.skip (TQ.then (TC.seq (TC.seq (TC.region (TL.opP rfl (op_move rfl) (TL.opP rfl (op_move rfl) (TL.opP rfl (op_move rfl) (TL.opP rfl (op_sub rfl rfl rfl (by omega) (by omega)) (TL.opP rfl (op_gtr rfl rfl) (TL.nil (TQ.then ?_)))))))))))
   first | refine TC.condD rfl (fun c3 => ?_) (fun c3 => ?_) | refine TC.condB rfl (fun c3 => ?_) (fun c3 => ?_)
   ·refine TC.seq (TC.region (TL.opP rfl (op_move rfl) (TL.opP rfl (op_assign rfl) (TL.opP rfl (op_assign rfl) (TL.nil (TQ.then (TC.ret (TQ.then_ret ?_))))))))
    refine ret2 rfl rfl rfl (fun w' hp => ?_)
    first
      | (have hn : noLine l k ∨ c < 0 := by
           first
             | exact .inr (by omega)
             | (cases Decidable.em (noLine l k) with
                | inl h => exact .inl h
                | inr h => exact absurd c1 (by rw [show boB l k = true from if_neg h]; decide))
         exact ⟨_, _, rfl, ⟨by rw [show atF l k c = _ from if_pos hn, show atE l k c = 1 from if_pos hn], rfl⟩, (hp)⟩)
      | (have hn : ¬ (noLine l k ∨ c < 0) := by rintro (a | a); exact hnl a; omega
         have h1 : boZ l k = atF l k c := by
           unfold atF; rw [if_neg hn, if_pos (by omega)]; omega
         exact ⟨_, _, rfl, ⟨by (rw [← h1, show atE l k c = 0 from if_neg hn]; first | done | rfl), rfl⟩, (hp)⟩)
      | (have hn : ¬ (noLine l k ∨ c < 0) := by rintro (a | a); exact hnl a; omega
         have h1 : boA l k + c = atF l k c := by
           unfold atF; rw [if_neg hn, if_neg (by omega)]; omega
         exact ⟨_, _, rfl, ⟨by (rw [← h1, show atE l k c = 0 from if_neg hn]; first | done | rfl), rfl⟩, (hp)⟩)
   ·refine TC.skip (TQ.then (TC.seq (TC.region (TL.opP rfl (op_move rfl) (TL.opP rfl (op_move rfl) (TL.opP rfl (op_add rfl rfl rfl (by omega) (by omega)) (TL.opP rfl (op_assign rfl) (TL.opP rfl (op_assign rfl) (TL.nil (TQ.then (TC.ret ?_)))))))))))
    refine ret2 rfl rfl rfl (fun w' hp => ?_)
    first
      | (have hn : noLine l k ∨ c < 0 := by
           first
             | exact .inr (by omega)
             | (cases Decidable.em (noLine l k) with
                | inl h => exact .inl h
                | inr h => exact absurd c1 (by rw [show boB l k = true from if_neg h]; decide))
         exact ⟨_, _, rfl, ⟨by rw [show atF l k c = _ from if_pos hn, show atE l k c = 1 from if_pos hn], rfl⟩, (hp)⟩)
      | (have hn : ¬ (noLine l k ∨ c < 0) := by rintro (a | a); exact hnl a; omega
         have h1 : boZ l k = atF l k c := by
           unfold atF; rw [if_neg hn, if_pos (by omega)]; omega
         exact ⟨_, _, rfl, ⟨by (rw [← h1, show atE l k c = 0 from if_neg hn]; first | done | rfl), rfl⟩, (hp)⟩)
      | (have hn : ¬ (noLine l k ∨ c < 0) := by rintro (a | a); exact hnl a; omega
         have h1 : boA l k + c = atF l k c := by
           unfold atF; rw [if_neg hn, if_neg (by omega)]; omega
         exact ⟨_, _, rfl, ⟨by (rw [← h1, show atE l k c = 0 from if_neg hn]; first | done | rfl), rfl⟩, (hp)⟩)

theorem ywhere_x (l : List Int) (lv : Value) (g : Nat) (hyl : Rdb F lv 1 l.length (l.map (Value.int .i32))) (i : Int) (hln : l.length ≤ 1048576) :
    CallX Tryd.prog 36 [.pointer (some ⟨g, 0, none⟩), .int .i64 i] S w0 (.blk g (.cells [lv].toArray 56 (0, 0)) :: F) (fun u L' => u = .tuple #[.int .i64 (whL l i), .int .i64 (whC l i), .int .i64 (whE l i)] ∧ L' = .blk g (.cells [lv].toArray 56 (0, 0)) :: F) := by
 intro w hp
 have hyll := hyl.cons.lenLe hp
 have hbl := begs_len l
 refine calls_start Tryd.func36 rfl rfl rfl (hp) ?_
 refine TC.seq (TC.region (TL.opP rfl (op_assign rfl) (TL.opP rfl (op_assign rfl) (TL.opP rfl (op_assign rfl) (TL.nil (TQ.then (TC.seq (TC.seq (TC.region (TL.opP rfl (op_move rfl) (TL.opP rfl (op_lss rfl rfl) (TL.opP rfl (op_move rfl) ?_))))))))))))
 first | refine TL.splitD (fun c1 => ?_) (fun c1 => ?_) | refine TL.splitB (fun c1 => ?_) (fun c1 => ?_)
 ·refine TL.gFt rfl rfl rfl (TL.gFt rfl rfl rfl (TL.gFt rfl rfl rfl (TL.gFt rfl rfl rfl (TL.gFt rfl rfl rfl (TL.gFt rfl rfl rfl (TL.gFt rfl rfl rfl (TL.opP rfl (op_pickT rfl rfl) (TL.nil (TQ.then (TC.condT rfl (TC.seq (TC.region (TL.opP rfl (op_assign rfl) (TL.opP rfl (op_assign rfl) (TL.opP rfl (op_assign rfl) (TL.nil (TQ.then (TC.ret (TQ.then_ret ?_)))))))))))))))))))
  refine ret3 rfl rfl rfl rfl (fun w' hp => ?_)
  first
    | (have hn : noAt l i := by unfold noAt; omega
       exact ⟨_, _, rfl, ⟨by rw [show whL l i = 0 from if_pos hn, show whC l i = 0 from if_pos hn, show whE l i = 1 from if_pos hn], rfl⟩, (hp)⟩)
    | (obtain rfl : j = i := by omega
       exact ⟨_, _, rfl, ⟨by (rw [show whL l j = _ from if_neg hni, show whC l j = _ from if_neg hni, show whE l j = 0 from if_neg hni, Int.toNat_natCast]; first | done | rfl), rfl⟩, (hp)⟩)
 ·refine TL.gT rfl rfl (TL.opP rfl (op_move rfl) (TL.gT rfl rfl (TL.opP rfl (op_move rfl) (TL.gT rfl rfl (TL.opP rfl (op_nilCheck rfl) (TL.gT rfl rfl (TL.opP rfl (op_field fld_sealskinref11_Index_L rfl) (TL.gT rfl rfl (TL.opV rfl (op_load ts_sl_int32 rfl m0 rfl) (TL.gT rfl rfl (TL.opV rfl (op_lenV rfl un_sl_int32 rfl hyl.cons) (TL.gT rfl rfl (TL.opP rfl (op_gtr rfl rfl) (TL.opP rfl (op_pickF rfl rfl) (TL.nil (TQ.then ?_))))))))))))))))
  first | refine TC.condD rfl (fun c2 => ?_) (fun c2 => ?_) | refine TC.condB rfl (fun c2 => ?_) (fun c2 => ?_)
  ·refine TC.seq (TC.region (TL.opP rfl (op_assign rfl) (TL.opP rfl (op_assign rfl) (TL.opP rfl (op_assign rfl) (TL.nil (TQ.then (TC.ret (TQ.then_ret ?_))))))))
   refine ret3 rfl rfl rfl rfl (fun w' hp => ?_)
   first
     | (have hn : noAt l i := by unfold noAt; omega
        exact ⟨_, _, rfl, ⟨by rw [show whL l i = 0 from if_pos hn, show whC l i = 0 from if_pos hn, show whE l i = 1 from if_pos hn], rfl⟩, (hp)⟩)
     | (obtain rfl : j = i := by omega
        exact ⟨_, _, rfl, ⟨by (rw [show whL l j = _ from if_neg hni, show whC l j = _ from if_neg hni, show whE l j = 0 from if_neg hni, Int.toNat_natCast]; first | done | rfl), rfl⟩, (hp)⟩)
  ·have hni : ¬ noAt l i := by unfold noAt; omega
   obtain ⟨i, rfl⟩ : ∃ j : Nat, i = j := ⟨i.toNat, by omega⟩
   have hi : i ≤ l.length := by omega
   obtain ⟨z1, z2⟩ := at_zero l
   refine TC.skip (TQ.then (TC.seq (TC.region (TL.opP rfl (op_assign rfl) (TL.opP rfl (op_assign rfl) (TL.nil (TQ.then (TC.seq (TC.seq (TC.region (TL.opP rfl (op_move rfl) (TL.opP rfl (op_nilCheck rfl) (TL.opP rfl (op_field fld_sealskinref11_Index_L rfl) (TL.opV rfl (op_load ts_sl_int32 rfl m0 rfl) (TL.opP rfl (op_move rfl) (TL.opV rfl (op_cut 0 i tsl_int32 rfl hyl.cons (vlo := none) (vhi := (some _)) rfl rfl (.inl ⟨rfl, rfl⟩) (.inr ⟨_, _, rfl, by omega⟩) (by omega) (by omega)) (TL.opV rfl (op_lenV rfl un_sl_int32 rfl (Rdb.cut hyl.cons 0 i (by omega) (by omega))) (TL.opP rfl (op_move rfl) (TL.nil (TQ.then (TC.block (TC.loop (ι := Nat) (fun j => [(7, .int .i64 (lineAt l j : Int)), (8, .int .i64 ((j : Int) - begAt l j)), (27, Value.cut lv 0 i 1), (28, .int .i64 ((i - 0 : Nat) : Int)), (29, .int .i64 (j : Int))]) (fun j => .blk g (.cells [lv].toArray 56 (0, 0)) :: F) (fun j => j ≤ i) (fun j => i - j) (0) (Nat.zero_le _) ⟨gi rfl (by omega), gi rfl (by omega), rfl, rfl, rfl, trivial⟩ (fun _ h => h) ?_))))))))))))))))))))))
   rintro j (hj : j ≤ i)
   obtain ⟨q1, q2, q3, q4⟩ := lineAt_lt (l := l) (at_ := j) (by omega)
   refine TC.seq (TC.region (TL.opP rfl (op_lss rfl rfl) (TL.nil (TQ.then (TC.seq ?_)))))
   first | refine TC.condD rfl (fun c3 => ?_) (fun c3 => ?_) | refine TC.condB rfl (fun c3 => ?_) (fun c3 => ?_)
   ·have hji : j < i := by omega
    obtain ⟨c, hc⟩ : ∃ c, l.getD j 0 = c := ⟨_, rfl⟩
    obtain ⟨a10, an10⟩ := at_succ (l := l) (j := j) (by omega) hc
    refine TC.skip (TQ.then (TC.seq (TC.block (TC.seq (TC.region (TL.opV rfl (op_index tsl_int32 rfl (ints_cut hyl 0 i (by omega) hi).cons rfl (by omega) (by omega)) ?_))))))
    refine TL.opV rfl (op_loadR ts_int32 rfl (ints_cut hyl 0 i (by omega) hi).cons (lkM (d := 0) (by rw [List.length_take, List.length_drop]; omega) ((get_cut0 hji).trans hc) (by omega))) ?_
    refine TL.opP rfl (op_assign rfl) (TL.nil (TQ.then (TC.seq (TC.region (TL.opP rfl (op_move rfl) (TL.opP rfl (op_add rfl rfl rfl (by omega) (by omega)) (TL.opP rfl (op_assign rfl) (TL.nil (TQ.then (TC.seq (TC.region (TL.opP rfl (op_move rfl) (TL.opP rfl (op_eql rfl rfl) (TL.nil (TQ.then ?_)))))))))))))))
    first | refine TC.condD rfl (fun c4 => ?_) (fun c4 => ?_) | refine TC.condB rfl (fun c4 => ?_) (fun c4 => ?_)
    ·obtain ⟨b1, b2⟩ := a10 c4
     refine TC.seq (TC.region (TL.opP rfl (op_move rfl) (TL.opP rfl (op_add rfl rfl rfl (by omega) (by omega)) (TL.opP rfl (op_assign rfl) (TL.nil (TQ.then (TC.region (TL.opP rfl (op_assign rfl) (TL.nil (TQ.block_normal (TQ.then (TC.region (TL.opP rfl (op_add rfl rfl rfl (by omega) (by omega)) (TL.opP rfl (op_move rfl) (TL.nil ?_)))))))))))))))
     exact TQ.round (j + 1) (by show j + 1 ≤ _; omega) (by show _ - (j + 1) < _ - j; omega) ⟨gi rfl (by omega), gi rfl (by omega), rfl, rfl, rfl, trivial⟩ (fun _ h => h)
    ·obtain ⟨b1, b2⟩ := an10 c4
     refine TC.skip (TQ.block_normal (TQ.then (TC.region (TL.opP rfl (op_add rfl rfl rfl (by omega) (by omega)) (TL.opP rfl (op_move rfl) (TL.nil ?_))))))
     exact TQ.round (j + 1) (by show j + 1 ≤ _; omega) (by show _ - (j + 1) < _ - j; omega) ⟨gi rfl (by omega), gi rfl (by omega), rfl, rfl, rfl, trivial⟩ (fun _ h => h)
   ·refine TC.exit (TQ.then_exit (TQ.loop_exit (TQ.block_hit (TQ.then (TC.seq (TC.region (TL.opP rfl (op_move rfl) (TL.opP rfl (op_move rfl) (TL.opP rfl (op_assign rfl) (TL.opP rfl (op_assign rfl) (TL.opP rfl (op_assign rfl) (TL.nil (TQ.then (TC.ret ?_))))))))))))))
    refine ret3 rfl rfl rfl rfl (fun w' hp => ?_)
    first
      | (have hn : noAt l i := by unfold noAt; omega
         exact ⟨_, _, rfl, ⟨by rw [show whL l i = 0 from if_pos hn, show whC l i = 0 from if_pos hn, show whE l i = 1 from if_pos hn], rfl⟩, (hp)⟩)
      | (obtain rfl : j = i := by omega
         exact ⟨_, _, rfl, ⟨by (rw [show whL l j = _ from if_neg hni, show whC l j = _ from if_neg hni, show whE l j = 0 from if_neg hni, Int.toNat_natCast]; first | done | rfl), rfl⟩, (hp)⟩)

theorem yclass_calls (c : Int) (w : World) :
    Calls Tryd.prog 74 (List.toArray [.int .i32 c]) w fun e w' => e = .returned (.int .i64 (lcls c)) ∧ Kp NoB w w' := by
 refine calls_start Tryd.func74 rfl rfl rfl (Hp.init0 w) ?_
 refine TC.seq (TC.region (TL.opP rfl (op_assign rfl) (TL.nil (TQ.then (TC.seq (TC.seq (TC.region (TL.opP rfl (op_move rfl) (TL.opP rfl (op_eql rfl rfl) (TL.opP rfl (op_move rfl) ?_))))))))))
 first | refine TL.splitD (fun c1 => ?_) (fun c1 => ?_) | refine TL.splitB (fun c1 => ?_) (fun c1 => ?_)
 ·refine TL.gFt rfl rfl rfl (TL.gFt rfl rfl rfl (TL.opP rfl (op_pickT rfl rfl) (TL.opP rfl (op_move rfl) (TL.gFt rfl rfl rfl (TL.gFt rfl rfl rfl (TL.opP rfl (op_pickT rfl rfl) (TL.nil (TQ.then (TC.condT rfl (TC.seq (TC.region (TL.opP rfl (op_assign rfl) (TL.nil (TQ.then (TC.ret (TQ.then_ret ?_))))))))))))))))
  refine ret1 rfl rfl (fun w' hp => ?_)
  first
    | (exfalso; omega)
    | exact ⟨by rw [show lcls c = 0 from if_pos (by omega)], hp.kp⟩
    | exact ⟨by rw [show lcls c = 1 from (if_neg (by omega)).trans (if_pos (by omega))], hp.kp⟩
    | exact ⟨by rw [show lcls c = 2 from (if_neg (by omega)).trans (if_neg (by omega))], hp.kp⟩
 ·refine TL.gT rfl rfl (TL.opP rfl (op_move rfl) (TL.gT rfl rfl (TL.opP rfl (op_eql rfl rfl) (TL.opP rfl (op_pickF rfl rfl) (TL.opP rfl (op_move rfl) ?_)))))
  first | refine TL.splitD (fun c2 => ?_) (fun c2 => ?_) | refine TL.splitB (fun c2 => ?_) (fun c2 => ?_)
  ·refine TL.gFt rfl rfl rfl (TL.gFt rfl rfl rfl (TL.opP rfl (op_pickT rfl rfl) (TL.nil (TQ.then (TC.condT rfl (TC.seq (TC.region (TL.opP rfl (op_assign rfl) (TL.nil (TQ.then (TC.ret (TQ.then_ret ?_))))))))))))
   refine ret1 rfl rfl (fun w' hp => ?_)
   first
     | (exfalso; omega)
     | exact ⟨by rw [show lcls c = 0 from if_pos (by omega)], hp.kp⟩
     | exact ⟨by rw [show lcls c = 1 from (if_neg (by omega)).trans (if_pos (by omega))], hp.kp⟩
     | exact ⟨by rw [show lcls c = 2 from (if_neg (by omega)).trans (if_neg (by omega))], hp.kp⟩
  ·refine TL.gT rfl rfl (TL.opP rfl (op_move rfl) (TL.gT rfl rfl (TL.opP rfl (op_eql rfl rfl) (TL.opP rfl (op_pickF rfl rfl) (TL.nil (TQ.then ?_))))))
   first | refine TC.condD rfl (fun c3 => ?_) (fun c3 => ?_) | refine TC.condB rfl (fun c3 => ?_) (fun c3 => ?_)
   ·refine TC.seq (TC.region (TL.opP rfl (op_assign rfl) (TL.nil (TQ.then (TC.ret (TQ.then_ret ?_))))))
    refine ret1 rfl rfl (fun w' hp => ?_)
    first
      | (exfalso; omega)
      | exact ⟨by rw [show lcls c = 0 from if_pos (by omega)], hp.kp⟩
      | exact ⟨by rw [show lcls c = 1 from (if_neg (by omega)).trans (if_pos (by omega))], hp.kp⟩
      | exact ⟨by rw [show lcls c = 2 from (if_neg (by omega)).trans (if_neg (by omega))], hp.kp⟩
   ·refine TC.skip (TQ.then (TC.seq (TC.seq (TC.region (TL.opP rfl (op_move rfl) (TL.opP rfl (op_geq rfl rfl) (TL.opP rfl (op_move rfl) ?_)))))))
    first | refine TL.splitD (fun c4 => ?_) (fun c4 => ?_) | refine TL.splitB (fun c4 => ?_) (fun c4 => ?_)
    ·refine TL.gT rfl rfl (TL.opP rfl (op_move rfl) (TL.gT rfl rfl (TL.opP rfl (op_leq rfl rfl) (TL.opP rfl (op_pickT rfl rfl) (TL.opP rfl (op_move rfl) ?_)))))
     first | refine TL.splitD (fun c5 => ?_) (fun c5 => ?_) | refine TL.splitB (fun c5 => ?_) (fun c5 => ?_)
     ·refine TL.gFt rfl rfl rfl (TL.gFt rfl rfl rfl (TL.gFt rfl rfl rfl (TL.gU rfl rfl rfl (TL.gU rfl rfl rfl (TL.gFt rfl rfl rfl (TL.opP rfl (op_pickT rfl rfl) (TL.opP rfl (op_move rfl) (TL.gFt rfl rfl rfl (TL.gFt rfl rfl rfl (TL.gFt rfl rfl rfl (TL.gU rfl rfl rfl (TL.gU rfl rfl rfl (TL.gFt rfl rfl rfl (TL.opP rfl (op_pickT rfl rfl) (TL.opP rfl (op_move rfl) (TL.gFt rfl rfl rfl (TL.gFt rfl rfl rfl (TL.opP rfl (op_pickT rfl rfl) (TL.opP rfl (op_move rfl) (TL.gFt rfl rfl rfl (TL.gFt rfl rfl rfl (TL.opP rfl (op_pickT rfl rfl) (TL.nil (TQ.then (TC.condT rfl (TC.seq (TC.region (TL.opP rfl (op_assign rfl) (TL.nil (TQ.then (TC.ret (TQ.then_ret ?_))))))))))))))))))))))))))))))))
      refine ret1 rfl rfl (fun w' hp => ?_)
      first
        | (exfalso; omega)
        | exact ⟨by rw [show lcls c = 0 from if_pos (by omega)], hp.kp⟩
        | exact ⟨by rw [show lcls c = 1 from (if_neg (by omega)).trans (if_pos (by omega))], hp.kp⟩
        | exact ⟨by rw [show lcls c = 2 from (if_neg (by omega)).trans (if_neg (by omega))], hp.kp⟩
     ·refine TL.gT rfl rfl (TL.opP rfl (op_move rfl) (TL.gT rfl rfl (TL.opP rfl (op_geq rfl rfl) (TL.gT rfl rfl (TL.opP rfl (op_move rfl) ?_)))))
      first | refine TL.splitD (fun c6 => ?_) (fun c6 => ?_) | refine TL.splitB (fun c6 => ?_) (fun c6 => ?_)
      ·refine TL.gT rfl rfl (TL.opP rfl (op_move rfl) (TL.gT rfl rfl (TL.opP rfl (op_leq rfl rfl) (TL.gT rfl rfl (TL.opP rfl (op_pickT rfl rfl) (TL.opP rfl (op_pickF rfl rfl) (TL.opP rfl (op_move rfl) ?_)))))))
       first | refine TL.splitD (fun c7 => ?_) (fun c7 => ?_) | refine TL.splitB (fun c7 => ?_) (fun c7 => ?_)
       ·refine TL.gFt rfl rfl rfl (TL.gFt rfl rfl rfl (TL.gFt rfl rfl rfl (TL.gU rfl rfl rfl (TL.gU rfl rfl rfl (TL.gFt rfl rfl rfl (TL.opP rfl (op_pickT rfl rfl) (TL.opP rfl (op_move rfl) (TL.gFt rfl rfl rfl (TL.gFt rfl rfl rfl (TL.opP rfl (op_pickT rfl rfl) (TL.opP rfl (op_move rfl) (TL.gFt rfl rfl rfl (TL.gFt rfl rfl rfl (TL.opP rfl (op_pickT rfl rfl) (TL.nil (TQ.then (TC.condT rfl (TC.seq (TC.region (TL.opP rfl (op_assign rfl) (TL.nil (TQ.then (TC.ret (TQ.then_ret ?_))))))))))))))))))))))))
        refine ret1 rfl rfl (fun w' hp => ?_)
        first
          | (exfalso; omega)
          | exact ⟨by rw [show lcls c = 0 from if_pos (by omega)], hp.kp⟩
          | exact ⟨by rw [show lcls c = 1 from (if_neg (by omega)).trans (if_pos (by omega))], hp.kp⟩
          | exact ⟨by rw [show lcls c = 2 from (if_neg (by omega)).trans (if_neg (by omega))], hp.kp⟩
       ·refine TL.gT rfl rfl (TL.opP rfl (op_move rfl) (TL.gT rfl rfl (TL.opP rfl (op_geq rfl rfl) (TL.gT rfl rfl (TL.opP rfl (op_move rfl) ?_)))))
        first | refine TL.splitD (fun c8 => ?_) (fun c8 => ?_) | refine TL.splitB (fun c8 => ?_) (fun c8 => ?_)
        ·refine TL.gT rfl rfl (TL.opP rfl (op_move rfl) (TL.gT rfl rfl (TL.opP rfl (op_leq rfl rfl) (TL.gT rfl rfl (TL.opP rfl (op_pickT rfl rfl) (TL.opP rfl (op_pickF rfl rfl) (TL.opP rfl (op_move rfl) ?_)))))))
         first | refine TL.splitD (fun c9 => ?_) (fun c9 => ?_) | refine TL.splitB (fun c9 => ?_) (fun c9 => ?_)
         ·refine TL.gFt rfl rfl rfl (TL.gFt rfl rfl rfl (TL.opP rfl (op_pickT rfl rfl) (TL.opP rfl (op_move rfl) (TL.gFt rfl rfl rfl (TL.gFt rfl rfl rfl (TL.opP rfl (op_pickT rfl rfl) (TL.nil (TQ.then (TC.condT rfl (TC.seq (TC.region (TL.opP rfl (op_assign rfl) (TL.nil (TQ.then (TC.ret (TQ.then_ret ?_))))))))))))))))
          refine ret1 rfl rfl (fun w' hp => ?_)
          first
            | (exfalso; omega)
            | exact ⟨by rw [show lcls c = 0 from if_pos (by omega)], hp.kp⟩
            | exact ⟨by rw [show lcls c = 1 from (if_neg (by omega)).trans (if_pos (by omega))], hp.kp⟩
            | exact ⟨by rw [show lcls c = 2 from (if_neg (by omega)).trans (if_neg (by omega))], hp.kp⟩
         ·refine TL.gT rfl rfl (TL.opP rfl (op_move rfl) (TL.gT rfl rfl (TL.opP rfl (op_eql rfl rfl) (TL.opP rfl (op_pickF rfl rfl) (TL.opP rfl (op_move rfl) ?_)))))
          first | refine TL.splitD (fun c10 => ?_) (fun c10 => ?_) | refine TL.splitB (fun c10 => ?_) (fun c10 => ?_)
          ·refine TL.gFt rfl rfl rfl (TL.gFt rfl rfl rfl (TL.opP rfl (op_pickT rfl rfl) (TL.nil (TQ.then (TC.condT rfl (TC.seq (TC.region (TL.opP rfl (op_assign rfl) (TL.nil (TQ.then (TC.ret (TQ.then_ret ?_))))))))))))
           refine ret1 rfl rfl (fun w' hp => ?_)
           first
             | (exfalso; omega)
             | exact ⟨by rw [show lcls c = 0 from if_pos (by omega)], hp.kp⟩
             | exact ⟨by rw [show lcls c = 1 from (if_neg (by omega)).trans (if_pos (by omega))], hp.kp⟩
             | exact ⟨by rw [show lcls c = 2 from (if_neg (by omega)).trans (if_neg (by omega))], hp.kp⟩
          ·refine TL.gT rfl rfl (TL.opP rfl (op_move rfl) (TL.gT rfl rfl (TL.opP rfl (op_gtr rfl rfl) (TL.opP rfl (op_pickF rfl rfl) (TL.nil (TQ.then ?_))))))
           first | refine TC.condD rfl (fun c11 => ?_) (fun c11 => ?_) | refine TC.condB rfl (fun c11 => ?_) (fun c11 => ?_)
           ·refine TC.seq (TC.region (TL.opP rfl (op_assign rfl) (TL.nil (TQ.then (TC.ret (TQ.then_ret ?_))))))
            refine ret1 rfl rfl (fun w' hp => ?_)
            first
              | (exfalso; omega)
              | exact ⟨by rw [show lcls c = 0 from if_pos (by omega)], hp.kp⟩
              | exact ⟨by rw [show lcls c = 1 from (if_neg (by omega)).trans (if_pos (by omega))], hp.kp⟩
              | exact ⟨by rw [show lcls c = 2 from (if_neg (by omega)).trans (if_neg (by omega))], hp.kp⟩
           ·refine TC.skip (TQ.then (TC.seq (TC.region (TL.opP rfl (op_assign rfl) (TL.nil (TQ.then (TC.ret ?_)))))))
            refine ret1 rfl rfl (fun w' hp => ?_)
            first
              | (exfalso; omega)
              | exact ⟨by rw [show lcls c = 0 from if_pos (by omega)], hp.kp⟩
              | exact ⟨by rw [show lcls c = 1 from (if_neg (by omega)).trans (if_pos (by omega))], hp.kp⟩
              | exact ⟨by rw [show lcls c = 2 from (if_neg (by omega)).trans (if_neg (by omega))], hp.kp⟩
        ·refine TL.gFf rfl rfl rfl (TL.gFf rfl rfl rfl (TL.gT rfl rfl (TL.opP rfl (op_pickF rfl rfl) (TL.opP rfl (op_pickF rfl rfl) (TL.opP rfl (op_move rfl) (TL.gT rfl rfl (TL.opP rfl (op_move rfl) (TL.gT rfl rfl (TL.opP rfl (op_eql rfl rfl) (TL.opP rfl (op_pickF rfl rfl) (TL.opP rfl (op_move rfl) ?_)))))))))))
         first | refine TL.splitD (fun c12 => ?_) (fun c12 => ?_) | refine TL.splitB (fun c12 => ?_) (fun c12 => ?_)
         ·refine TL.gFt rfl rfl rfl (TL.gFt rfl rfl rfl (TL.opP rfl (op_pickT rfl rfl) (TL.nil (TQ.then (TC.condT rfl (TC.seq (TC.region (TL.opP rfl (op_assign rfl) (TL.nil (TQ.then (TC.ret (TQ.then_ret ?_))))))))))))
          refine ret1 rfl rfl (fun w' hp => ?_)
          first
            | (exfalso; omega)
            | exact ⟨by rw [show lcls c = 0 from if_pos (by omega)], hp.kp⟩
            | exact ⟨by rw [show lcls c = 1 from (if_neg (by omega)).trans (if_pos (by omega))], hp.kp⟩
            | exact ⟨by rw [show lcls c = 2 from (if_neg (by omega)).trans (if_neg (by omega))], hp.kp⟩
         ·refine TL.gT rfl rfl (TL.opP rfl (op_move rfl) (TL.gT rfl rfl (TL.opP rfl (op_gtr rfl rfl) (TL.opP rfl (op_pickF rfl rfl) (TL.nil (TQ.then ?_))))))
          first | refine TC.condD rfl (fun c13 => ?_) (fun c13 => ?_) | refine TC.condB rfl (fun c13 => ?_) (fun c13 => ?_)
          ·refine TC.seq (TC.region (TL.opP rfl (op_assign rfl) (TL.nil (TQ.then (TC.ret (TQ.then_ret ?_))))))
           refine ret1 rfl rfl (fun w' hp => ?_)
           first
             | (exfalso; omega)
             | exact ⟨by rw [show lcls c = 0 from if_pos (by omega)], hp.kp⟩
             | exact ⟨by rw [show lcls c = 1 from (if_neg (by omega)).trans (if_pos (by omega))], hp.kp⟩
             | exact ⟨by rw [show lcls c = 2 from (if_neg (by omega)).trans (if_neg (by omega))], hp.kp⟩
          ·refine TC.skip (TQ.then (TC.seq (TC.region (TL.opP rfl (op_assign rfl) (TL.nil (TQ.then (TC.ret ?_)))))))
           refine ret1 rfl rfl (fun w' hp => ?_)
           first
             | (exfalso; omega)
             | exact ⟨by rw [show lcls c = 0 from if_pos (by omega)], hp.kp⟩
             | exact ⟨by rw [show lcls c = 1 from (if_neg (by omega)).trans (if_pos (by omega))], hp.kp⟩
             | exact ⟨by rw [show lcls c = 2 from (if_neg (by omega)).trans (if_neg (by omega))], hp.kp⟩
      ·refine TL.gFf rfl rfl rfl (TL.gFf rfl rfl rfl (TL.gT rfl rfl (TL.opP rfl (op_pickF rfl rfl) (TL.opP rfl (op_pickF rfl rfl) (TL.opP rfl (op_move rfl) (TL.gT rfl rfl (TL.opP rfl (op_move rfl) (TL.gT rfl rfl (TL.opP rfl (op_geq rfl rfl) (TL.gT rfl rfl (TL.opP rfl (op_move rfl) ?_)))))))))))
       first | refine TL.splitD (fun c14 => ?_) (fun c14 => ?_) | refine TL.splitB (fun c14 => ?_) (fun c14 => ?_)
       ·refine TL.gT rfl rfl (TL.opP rfl (op_move rfl) (TL.gT rfl rfl (TL.opP rfl (op_leq rfl rfl) (TL.gT rfl rfl (TL.opP rfl (op_pickT rfl rfl) (TL.opP rfl (op_pickF rfl rfl) (TL.opP rfl (op_move rfl) ?_)))))))
        first | refine TL.splitD (fun c15 => ?_) (fun c15 => ?_) | refine TL.splitB (fun c15 => ?_) (fun c15 => ?_)
        ·refine TL.gFt rfl rfl rfl (TL.gFt rfl rfl rfl (TL.opP rfl (op_pickT rfl rfl) (TL.opP rfl (op_move rfl) (TL.gFt rfl rfl rfl (TL.gFt rfl rfl rfl (TL.opP rfl (op_pickT rfl rfl) (TL.nil (TQ.then (TC.condT rfl (TC.seq (TC.region (TL.opP rfl (op_assign rfl) (TL.nil (TQ.then (TC.ret (TQ.then_ret ?_))))))))))))))))
         refine ret1 rfl rfl (fun w' hp => ?_)
         first
           | (exfalso; omega)
           | exact ⟨by rw [show lcls c = 0 from if_pos (by omega)], hp.kp⟩
           | exact ⟨by rw [show lcls c = 1 from (if_neg (by omega)).trans (if_pos (by omega))], hp.kp⟩
           | exact ⟨by rw [show lcls c = 2 from (if_neg (by omega)).trans (if_neg (by omega))], hp.kp⟩
        ·refine TL.gT rfl rfl (TL.opP rfl (op_move rfl) (TL.gT rfl rfl (TL.opP rfl (op_eql rfl rfl) (TL.opP rfl (op_pickF rfl rfl) (TL.opP rfl (op_move rfl) ?_)))))
         first | refine TL.splitD (fun c16 => ?_) (fun c16 => ?_) | refine TL.splitB (fun c16 => ?_) (fun c16 => ?_)
         ·refine TL.gFt rfl rfl rfl (TL.gFt rfl rfl rfl (TL.opP rfl (op_pickT rfl rfl) (TL.nil (TQ.then (TC.condT rfl (TC.seq (TC.region (TL.opP rfl (op_assign rfl) (TL.nil (TQ.then (TC.ret (TQ.then_ret ?_))))))))))))
          refine ret1 rfl rfl (fun w' hp => ?_)
          first
            | (exfalso; omega)
            | exact ⟨by rw [show lcls c = 0 from if_pos (by omega)], hp.kp⟩
            | exact ⟨by rw [show lcls c = 1 from (if_neg (by omega)).trans (if_pos (by omega))], hp.kp⟩
            | exact ⟨by rw [show lcls c = 2 from (if_neg (by omega)).trans (if_neg (by omega))], hp.kp⟩
         ·refine TL.gT rfl rfl (TL.opP rfl (op_move rfl) (TL.gT rfl rfl (TL.opP rfl (op_gtr rfl rfl) (TL.opP rfl (op_pickF rfl rfl) (TL.nil (TQ.then ?_))))))
          first | refine TC.condD rfl (fun c17 => ?_) (fun c17 => ?_) | refine TC.condB rfl (fun c17 => ?_) (fun c17 => ?_)
          ·refine TC.seq (TC.region (TL.opP rfl (op_assign rfl) (TL.nil (TQ.then (TC.ret (TQ.then_ret ?_))))))
           refine ret1 rfl rfl (fun w' hp => ?_)
           first
             | (exfalso; omega)
             | exact ⟨by rw [show lcls c = 0 from if_pos (by omega)], hp.kp⟩
             | exact ⟨by rw [show lcls c = 1 from (if_neg (by omega)).trans (if_pos (by omega))], hp.kp⟩
             | exact ⟨by rw [show lcls c = 2 from (if_neg (by omega)).trans (if_neg (by omega))], hp.kp⟩
          ·refine TC.skip (TQ.then (TC.seq (TC.region (TL.opP rfl (op_assign rfl) (TL.nil (TQ.then (TC.ret ?_)))))))
           refine ret1 rfl rfl (fun w' hp => ?_)
           first
             | (exfalso; omega)
             | exact ⟨by rw [show lcls c = 0 from if_pos (by omega)], hp.kp⟩
             | exact ⟨by rw [show lcls c = 1 from (if_neg (by omega)).trans (if_pos (by omega))], hp.kp⟩
             | exact ⟨by rw [show lcls c = 2 from (if_neg (by omega)).trans (if_neg (by omega))], hp.kp⟩
       ·refine TL.gFf rfl rfl rfl (TL.gFf rfl rfl rfl (TL.gT rfl rfl (TL.opP rfl (op_pickF rfl rfl) (TL.opP rfl (op_pickF rfl rfl) (TL.opP rfl (op_move rfl) (TL.gT rfl rfl (TL.opP rfl (op_move rfl) (TL.gT rfl rfl (TL.opP rfl (op_eql rfl rfl) (TL.opP rfl (op_pickF rfl rfl) (TL.opP rfl (op_move rfl) ?_)))))))))))
        first | refine TL.splitD (fun c18 => ?_) (fun c18 => ?_) | refine TL.splitB (fun c18 => ?_) (fun c18 => ?_)
        ·refine TL.gFt rfl rfl rfl (TL.gFt rfl rfl rfl (TL.opP rfl (op_pickT rfl rfl) (TL.nil (TQ.then (TC.condT rfl (TC.seq (TC.region (TL.opP rfl (op_assign rfl) (TL.nil (TQ.then (TC.ret (TQ.then_ret ?_))))))))))))
         refine ret1 rfl rfl (fun w' hp => ?_)
         first
           | (exfalso; omega)
           | exact ⟨by rw [show lcls c = 0 from if_pos (by omega)], hp.kp⟩
           | exact ⟨by rw [show lcls c = 1 from (if_neg (by omega)).trans (if_pos (by omega))], hp.kp⟩
           | exact ⟨by rw [show lcls c = 2 from (if_neg (by omega)).trans (if_neg (by omega))], hp.kp⟩
        ·refine TL.gT rfl rfl (TL.opP rfl (op_move rfl) (TL.gT rfl rfl (TL.opP rfl (op_gtr rfl rfl) (TL.opP rfl (op_pickF rfl rfl) (TL.nil (TQ.then ?_))))))
         first | refine TC.condD rfl (fun c19 => ?_) (fun c19 => ?_) | refine TC.condB rfl (fun c19 => ?_) (fun c19 => ?_)
         ·refine TC.seq (TC.region (TL.opP rfl (op_assign rfl) (TL.nil (TQ.then (TC.ret (TQ.then_ret ?_))))))
          refine ret1 rfl rfl (fun w' hp => ?_)
          first
            | (exfalso; omega)
            | exact ⟨by rw [show lcls c = 0 from if_pos (by omega)], hp.kp⟩
            | exact ⟨by rw [show lcls c = 1 from (if_neg (by omega)).trans (if_pos (by omega))], hp.kp⟩
            | exact ⟨by rw [show lcls c = 2 from (if_neg (by omega)).trans (if_neg (by omega))], hp.kp⟩
         ·refine TC.skip (TQ.then (TC.seq (TC.region (TL.opP rfl (op_assign rfl) (TL.nil (TQ.then (TC.ret ?_)))))))
          refine ret1 rfl rfl (fun w' hp => ?_)
          first
            | (exfalso; omega)
            | exact ⟨by rw [show lcls c = 0 from if_pos (by omega)], hp.kp⟩
            | exact ⟨by rw [show lcls c = 1 from (if_neg (by omega)).trans (if_pos (by omega))], hp.kp⟩
            | exact ⟨by rw [show lcls c = 2 from (if_neg (by omega)).trans (if_neg (by omega))], hp.kp⟩
    ·refine TL.gFf rfl rfl rfl (TL.gFf rfl rfl rfl (TL.opP rfl (op_pickF rfl rfl) (TL.opP rfl (op_move rfl) (TL.gT rfl rfl (TL.opP rfl (op_move rfl) (TL.gT rfl rfl (TL.opP rfl (op_geq rfl rfl) (TL.gT rfl rfl (TL.opP rfl (op_move rfl) ?_)))))))))
     first | refine TL.splitD (fun c20 => ?_) (fun c20 => ?_) | refine TL.splitB (fun c20 => ?_) (fun c20 => ?_)
     ·refine TL.gT rfl rfl (TL.opP rfl (op_move rfl) (TL.gT rfl rfl (TL.opP rfl (op_leq rfl rfl) (TL.gT rfl rfl (TL.opP rfl (op_pickT rfl rfl) (TL.opP rfl (op_pickF rfl rfl) (TL.opP rfl (op_move rfl) ?_)))))))
      first | refine TL.splitD (fun c21 => ?_) (fun c21 => ?_) | refine TL.splitB (fun c21 => ?_) (fun c21 => ?_)
      ·refine TL.gFt rfl rfl rfl (TL.gFt rfl rfl rfl (TL.gFt rfl rfl rfl (TL.gU rfl rfl rfl (TL.gU rfl rfl rfl (TL.gFt rfl rfl rfl (TL.opP rfl (op_pickT rfl rfl) (TL.opP rfl (op_move rfl) (TL.gFt rfl rfl rfl (TL.gFt rfl rfl rfl (TL.opP rfl (op_pickT rfl rfl) (TL.opP rfl (op_move rfl) (TL.gFt rfl rfl rfl (TL.gFt rfl rfl rfl (TL.opP rfl (op_pickT rfl rfl) (TL.nil (TQ.then (TC.condT rfl (TC.seq (TC.region (TL.opP rfl (op_assign rfl) (TL.nil (TQ.then (TC.ret (TQ.then_ret ?_))))))))))))))))))))))))
       refine ret1 rfl rfl (fun w' hp => ?_)
       first
         | (exfalso; omega)
         | exact ⟨by rw [show lcls c = 0 from if_pos (by omega)], hp.kp⟩
         | exact ⟨by rw [show lcls c = 1 from (if_neg (by omega)).trans (if_pos (by omega))], hp.kp⟩
         | exact ⟨by rw [show lcls c = 2 from (if_neg (by omega)).trans (if_neg (by omega))], hp.kp⟩
      ·refine TL.gT rfl rfl (TL.opP rfl (op_move rfl) (TL.gT rfl rfl (TL.opP rfl (op_geq rfl rfl) (TL.gT rfl rfl (TL.opP rfl (op_move rfl) ?_)))))
       first | refine TL.splitD (fun c22 => ?_) (fun c22 => ?_) | refine TL.splitB (fun c22 => ?_) (fun c22 => ?_)
       ·refine TL.gT rfl rfl (TL.opP rfl (op_move rfl) (TL.gT rfl rfl (TL.opP rfl (op_leq rfl rfl) (TL.gT rfl rfl (TL.opP rfl (op_pickT rfl rfl) (TL.opP rfl (op_pickF rfl rfl) (TL.opP rfl (op_move rfl) ?_)))))))
        first | refine TL.splitD (fun c23 => ?_) (fun c23 => ?_) | refine TL.splitB (fun c23 => ?_) (fun c23 => ?_)
        ·refine TL.gFt rfl rfl rfl (TL.gFt rfl rfl rfl (TL.opP rfl (op_pickT rfl rfl) (TL.opP rfl (op_move rfl) (TL.gFt rfl rfl rfl (TL.gFt rfl rfl rfl (TL.opP rfl (op_pickT rfl rfl) (TL.nil (TQ.then (TC.condT rfl (TC.seq (TC.region (TL.opP rfl (op_assign rfl) (TL.nil (TQ.then (TC.ret (TQ.then_ret ?_))))))))))))))))
         refine ret1 rfl rfl (fun w' hp => ?_)
         first
           | (exfalso; omega)
           | exact ⟨by rw [show lcls c = 0 from if_pos (by omega)], hp.kp⟩
           | exact ⟨by rw [show lcls c = 1 from (if_neg (by omega)).trans (if_pos (by omega))], hp.kp⟩
           | exact ⟨by rw [show lcls c = 2 from (if_neg (by omega)).trans (if_neg (by omega))], hp.kp⟩
        ·refine TL.gT rfl rfl (TL.opP rfl (op_move rfl) (TL.gT rfl rfl (TL.opP rfl (op_eql rfl rfl) (TL.opP rfl (op_pickF rfl rfl) (TL.opP rfl (op_move rfl) ?_)))))
         first | refine TL.splitD (fun c24 => ?_) (fun c24 => ?_) | refine TL.splitB (fun c24 => ?_) (fun c24 => ?_)
         ·refine TL.gFt rfl rfl rfl (TL.gFt rfl rfl rfl (TL.opP rfl (op_pickT rfl rfl) (TL.nil (TQ.then (TC.condT rfl (TC.seq (TC.region (TL.opP rfl (op_assign rfl) (TL.nil (TQ.then (TC.ret (TQ.then_ret ?_))))))))))))
          refine ret1 rfl rfl (fun w' hp => ?_)
          first
            | (exfalso; omega)
            | exact ⟨by rw [show lcls c = 0 from if_pos (by omega)], hp.kp⟩
            | exact ⟨by rw [show lcls c = 1 from (if_neg (by omega)).trans (if_pos (by omega))], hp.kp⟩
            | exact ⟨by rw [show lcls c = 2 from (if_neg (by omega)).trans (if_neg (by omega))], hp.kp⟩
         ·refine TL.gT rfl rfl (TL.opP rfl (op_move rfl) (TL.gT rfl rfl (TL.opP rfl (op_gtr rfl rfl) (TL.opP rfl (op_pickF rfl rfl) (TL.nil (TQ.then ?_))))))
          first | refine TC.condD rfl (fun c25 => ?_) (fun c25 => ?_) | refine TC.condB rfl (fun c25 => ?_) (fun c25 => ?_)
          ·refine TC.seq (TC.region (TL.opP rfl (op_assign rfl) (TL.nil (TQ.then (TC.ret (TQ.then_ret ?_))))))
           refine ret1 rfl rfl (fun w' hp => ?_)
           first
             | (exfalso; omega)
             | exact ⟨by rw [show lcls c = 0 from if_pos (by omega)], hp.kp⟩
             | exact ⟨by rw [show lcls c = 1 from (if_neg (by omega)).trans (if_pos (by omega))], hp.kp⟩
             | exact ⟨by rw [show lcls c = 2 from (if_neg (by omega)).trans (if_neg (by omega))], hp.kp⟩
          ·refine TC.skip (TQ.then (TC.seq (TC.region (TL.opP rfl (op_assign rfl) (TL.nil (TQ.then (TC.ret ?_)))))))
           refine ret1 rfl rfl (fun w' hp => ?_)
           first
             | (exfalso; omega)
             | exact ⟨by rw [show lcls c = 0 from if_pos (by omega)], hp.kp⟩
             | exact ⟨by rw [show lcls c = 1 from (if_neg (by omega)).trans (if_pos (by omega))], hp.kp⟩
             | exact ⟨by rw [show lcls c = 2 from (if_neg (by omega)).trans (if_neg (by omega))], hp.kp⟩
       ·refine TL.gFf rfl rfl rfl (TL.gFf rfl rfl rfl (TL.gT rfl rfl (TL.opP rfl (op_pickF rfl rfl) (TL.opP rfl (op_pickF rfl rfl) (TL.opP rfl (op_move rfl) (TL.gT rfl rfl (TL.opP rfl (op_move rfl) (TL.gT rfl rfl (TL.opP rfl (op_eql rfl rfl) (TL.opP rfl (op_pickF rfl rfl) (TL.opP rfl (op_move rfl) ?_)))))))))))
        first | refine TL.splitD (fun c26 => ?_) (fun c26 => ?_) | refine TL.splitB (fun c26 => ?_) (fun c26 => ?_)
        ·refine TL.gFt rfl rfl rfl (TL.gFt rfl rfl rfl (TL.opP rfl (op_pickT rfl rfl) (TL.nil (TQ.then (TC.condT rfl (TC.seq (TC.region (TL.opP rfl (op_assign rfl) (TL.nil (TQ.then (TC.ret (TQ.then_ret ?_))))))))))))
         refine ret1 rfl rfl (fun w' hp => ?_)
         first
           | (exfalso; omega)
           | exact ⟨by rw [show lcls c = 0 from if_pos (by omega)], hp.kp⟩
           | exact ⟨by rw [show lcls c = 1 from (if_neg (by omega)).trans (if_pos (by omega))], hp.kp⟩
           | exact ⟨by rw [show lcls c = 2 from (if_neg (by omega)).trans (if_neg (by omega))], hp.kp⟩
        ·refine TL.gT rfl rfl (TL.opP rfl (op_move rfl) (TL.gT rfl rfl (TL.opP rfl (op_gtr rfl rfl) (TL.opP rfl (op_pickF rfl rfl) (TL.nil (TQ.then ?_))))))
         first | refine TC.condD rfl (fun c27 => ?_) (fun c27 => ?_) | refine TC.condB rfl (fun c27 => ?_) (fun c27 => ?_)
         ·refine TC.seq (TC.region (TL.opP rfl (op_assign rfl) (TL.nil (TQ.then (TC.ret (TQ.then_ret ?_))))))
          refine ret1 rfl rfl (fun w' hp => ?_)
          first
            | (exfalso; omega)
            | exact ⟨by rw [show lcls c = 0 from if_pos (by omega)], hp.kp⟩
            | exact ⟨by rw [show lcls c = 1 from (if_neg (by omega)).trans (if_pos (by omega))], hp.kp⟩
            | exact ⟨by rw [show lcls c = 2 from (if_neg (by omega)).trans (if_neg (by omega))], hp.kp⟩
         ·refine TC.skip (TQ.then (TC.seq (TC.region (TL.opP rfl (op_assign rfl) (TL.nil (TQ.then (TC.ret ?_)))))))
          refine ret1 rfl rfl (fun w' hp => ?_)
          first
            | (exfalso; omega)
            | exact ⟨by rw [show lcls c = 0 from if_pos (by omega)], hp.kp⟩
            | exact ⟨by rw [show lcls c = 1 from (if_neg (by omega)).trans (if_pos (by omega))], hp.kp⟩
            | exact ⟨by rw [show lcls c = 2 from (if_neg (by omega)).trans (if_neg (by omega))], hp.kp⟩
     ·refine TL.gFf rfl rfl rfl (TL.gFf rfl rfl rfl (TL.gT rfl rfl (TL.opP rfl (op_pickF rfl rfl) (TL.opP rfl (op_pickF rfl rfl) (TL.opP rfl (op_move rfl) (TL.gT rfl rfl (TL.opP rfl (op_move rfl) (TL.gT rfl rfl (TL.opP rfl (op_geq rfl rfl) (TL.gT rfl rfl (TL.opP rfl (op_move rfl) ?_)))))))))))
      first | refine TL.splitD (fun c28 => ?_) (fun c28 => ?_) | refine TL.splitB (fun c28 => ?_) (fun c28 => ?_)
      ·refine TL.gT rfl rfl (TL.opP rfl (op_move rfl) (TL.gT rfl rfl (TL.opP rfl (op_leq rfl rfl) (TL.gT rfl rfl (TL.opP rfl (op_pickT rfl rfl) (TL.opP rfl (op_pickF rfl rfl) (TL.opP rfl (op_move rfl) ?_)))))))
       first | refine TL.splitD (fun c29 => ?_) (fun c29 => ?_) | refine TL.splitB (fun c29 => ?_) (fun c29 => ?_)
       ·refine TL.gFt rfl rfl rfl (TL.gFt rfl rfl rfl (TL.opP rfl (op_pickT rfl rfl) (TL.opP rfl (op_move rfl) (TL.gFt rfl rfl rfl (TL.gFt rfl rfl rfl (TL.opP rfl (op_pickT rfl rfl) (TL.nil (TQ.then (TC.condT rfl (TC.seq (TC.region (TL.opP rfl (op_assign rfl) (TL.nil (TQ.then (TC.ret (TQ.then_ret ?_))))))))))))))))
        refine ret1 rfl rfl (fun w' hp => ?_)
        first
          | (exfalso; omega)
          | exact ⟨by rw [show lcls c = 0 from if_pos (by omega)], hp.kp⟩
          | exact ⟨by rw [show lcls c = 1 from (if_neg (by omega)).trans (if_pos (by omega))], hp.kp⟩
          | exact ⟨by rw [show lcls c = 2 from (if_neg (by omega)).trans (if_neg (by omega))], hp.kp⟩
       ·refine TL.gT rfl rfl (TL.opP rfl (op_move rfl) (TL.gT rfl rfl (TL.opP rfl (op_eql rfl rfl) (TL.opP rfl (op_pickF rfl rfl) (TL.opP rfl (op_move rfl) ?_)))))
        first | refine TL.splitD (fun c30 => ?_) (fun c30 => ?_) | refine TL.splitB (fun c30 => ?_) (fun c30 => ?_)
        ·refine TL.gFt rfl rfl rfl (TL.gFt rfl rfl rfl (TL.opP rfl (op_pickT rfl rfl) (TL.nil (TQ.then (TC.condT rfl (TC.seq (TC.region (TL.opP rfl (op_assign rfl) (TL.nil (TQ.then (TC.ret (TQ.then_ret ?_))))))))))))
         refine ret1 rfl rfl (fun w' hp => ?_)
         first
           | (exfalso; omega)
           | exact ⟨by rw [show lcls c = 0 from if_pos (by omega)], hp.kp⟩
           | exact ⟨by rw [show lcls c = 1 from (if_neg (by omega)).trans (if_pos (by omega))], hp.kp⟩
           | exact ⟨by rw [show lcls c = 2 from (if_neg (by omega)).trans (if_neg (by omega))], hp.kp⟩
        ·refine TL.gT rfl rfl (TL.opP rfl (op_move rfl) (TL.gT rfl rfl (TL.opP rfl (op_gtr rfl rfl) (TL.opP rfl (op_pickF rfl rfl) (TL.nil (TQ.then ?_))))))
         first | refine TC.condD rfl (fun c31 => ?_) (fun c31 => ?_) | refine TC.condB rfl (fun c31 => ?_) (fun c31 => ?_)
         ·refine TC.seq (TC.region (TL.opP rfl (op_assign rfl) (TL.nil (TQ.then (TC.ret (TQ.then_ret ?_))))))
          refine ret1 rfl rfl (fun w' hp => ?_)
          first
            | (exfalso; omega)
            | exact ⟨by rw [show lcls c = 0 from if_pos (by omega)], hp.kp⟩
            | exact ⟨by rw [show lcls c = 1 from (if_neg (by omega)).trans (if_pos (by omega))], hp.kp⟩
            | exact ⟨by rw [show lcls c = 2 from (if_neg (by omega)).trans (if_neg (by omega))], hp.kp⟩
         ·refine TC.skip (TQ.then (TC.seq (TC.region (TL.opP rfl (op_assign rfl) (TL.nil (TQ.then (TC.ret ?_)))))))
          refine ret1 rfl rfl (fun w' hp => ?_)
          first
            | (exfalso; omega)
            | exact ⟨by rw [show lcls c = 0 from if_pos (by omega)], hp.kp⟩
            | exact ⟨by rw [show lcls c = 1 from (if_neg (by omega)).trans (if_pos (by omega))], hp.kp⟩
            | exact ⟨by rw [show lcls c = 2 from (if_neg (by omega)).trans (if_neg (by omega))], hp.kp⟩
      ·refine TL.gFf rfl rfl rfl (TL.gFf rfl rfl rfl (TL.gT rfl rfl (TL.opP rfl (op_pickF rfl rfl) (TL.opP rfl (op_pickF rfl rfl) (TL.opP rfl (op_move rfl) (TL.gT rfl rfl (TL.opP rfl (op_move rfl) (TL.gT rfl rfl (TL.opP rfl (op_eql rfl rfl) (TL.opP rfl (op_pickF rfl rfl) (TL.opP rfl (op_move rfl) ?_)))))))))))
       first | refine TL.splitD (fun c32 => ?_) (fun c32 => ?_) | refine TL.splitB (fun c32 => ?_) (fun c32 => ?_)
       ·refine TL.gFt rfl rfl rfl (TL.gFt rfl rfl rfl (TL.opP rfl (op_pickT rfl rfl) (TL.nil (TQ.then (TC.condT rfl (TC.seq (TC.region (TL.opP rfl (op_assign rfl) (TL.nil (TQ.then (TC.ret (TQ.then_ret ?_))))))))))))
        refine ret1 rfl rfl (fun w' hp => ?_)
        first
          | (exfalso; omega)
          | exact ⟨by rw [show lcls c = 0 from if_pos (by omega)], hp.kp⟩
          | exact ⟨by rw [show lcls c = 1 from (if_neg (by omega)).trans (if_pos (by omega))], hp.kp⟩
          | exact ⟨by rw [show lcls c = 2 from (if_neg (by omega)).trans (if_neg (by omega))], hp.kp⟩
       ·refine TL.gT rfl rfl (TL.opP rfl (op_move rfl) (TL.gT rfl rfl (TL.opP rfl (op_gtr rfl rfl) (TL.opP rfl (op_pickF rfl rfl) (TL.nil (TQ.then ?_))))))
        first | refine TC.condD rfl (fun c33 => ?_) (fun c33 => ?_) | refine TC.condB rfl (fun c33 => ?_) (fun c33 => ?_)
        ·refine TC.seq (TC.region (TL.opP rfl (op_assign rfl) (TL.nil (TQ.then (TC.ret (TQ.then_ret ?_))))))
         refine ret1 rfl rfl (fun w' hp => ?_)
         first
           | (exfalso; omega)
           | exact ⟨by rw [show lcls c = 0 from if_pos (by omega)], hp.kp⟩
           | exact ⟨by rw [show lcls c = 1 from (if_neg (by omega)).trans (if_pos (by omega))], hp.kp⟩
           | exact ⟨by rw [show lcls c = 2 from (if_neg (by omega)).trans (if_neg (by omega))], hp.kp⟩
        ·refine TC.skip (TQ.then (TC.seq (TC.region (TL.opP rfl (op_assign rfl) (TL.nil (TQ.then (TC.ret ?_)))))))
         refine ret1 rfl rfl (fun w' hp => ?_)
         first
           | (exfalso; omega)
           | exact ⟨by rw [show lcls c = 0 from if_pos (by omega)], hp.kp⟩
           | exact ⟨by rw [show lcls c = 1 from (if_neg (by omega)).trans (if_pos (by omega))], hp.kp⟩
           | exact ⟨by rw [show lcls c = 2 from (if_neg (by omega)).trans (if_neg (by omega))], hp.kp⟩

theorem yword_x (l : List Int) (lv : Value) (g : Nat) (hyl : Rdb F lv 1 l.length (l.map (Value.int .i32))) (i : Int) (hln : l.length ≤ 1048576) :
    CallX Tryd.prog 40 [.pointer (some ⟨g, 0, none⟩), .int .i64 i] S w0 (.blk g (.cells [lv].toArray 56 (0, 0)) :: F) (fun u L' => u = .tuple #[.int .i64 (woA l i), .int .i64 (woZ l i), .int .i64 (woE l i)] ∧ L' = .blk g (.cells [lv].toArray 56 (0, 0)) :: F) := by
 intro w hp
 have hyll := hyl.cons.lenLe hp
 have hbl := begs_len l
 refine calls_start Tryd.func40 rfl rfl rfl (hp) ?_
 refine TC.seq (TC.region (TL.opP rfl (op_assign rfl) (TL.opP rfl (op_assign rfl) (TL.opP rfl (op_assign rfl) (TL.nil (TQ.then (TC.seq (TC.seq (TC.region (TL.opP rfl (op_move rfl) (TL.opP rfl (op_lss rfl rfl) (TL.opP rfl (op_move rfl) ?_))))))))))))
 first | refine TL.splitD (fun c1 => ?_) (fun c1 => ?_) | refine TL.splitB (fun c1 => ?_) (fun c1 => ?_)
 ·refine TL.gFt rfl rfl rfl (TL.gFt rfl rfl rfl (TL.gFt rfl rfl rfl (TL.gFt rfl rfl rfl (TL.gFt rfl rfl rfl (TL.gFt rfl rfl rfl (TL.gFt rfl rfl rfl (TL.opP rfl (op_pickT rfl rfl) (TL.nil (TQ.then (TC.condT rfl (TC.seq (TC.region (TL.opP rfl (op_assign rfl) (TL.opP rfl (op_assign rfl) (TL.opP rfl (op_assign rfl) (TL.nil (TQ.then (TC.ret (TQ.then_ret ?_)))))))))))))))))))
  refine ret3 rfl rfl rfl rfl (fun w' hp => ?_)
  first
    | (have hn : noPt l i := by unfold noPt; omega
       exact ⟨_, _, rfl, ⟨by rw [show woA l i = 0 from if_pos hn, show woZ l i = 0 from if_pos hn, show woE l i = 1 from if_pos hn], rfl⟩, (hp)⟩)
    | (have hz : (z : Int) = fwdN l (lcls (l.getD i 0)) i := by
         rw [← hf]
         first
           | (rw [hfs, if_neg (by assumption)]; done)
           | (obtain rfl : z = l.length := by omega
              rw [fwd_end])
       exact ⟨_, _, rfl, ⟨by (rw [show woA l i = _ from if_neg hni, show woZ l i = _ from if_neg hni, show woE l i = 0 from if_neg hni, hz]; first | done | rfl), rfl⟩, (hp)⟩)
 ·refine TL.gT rfl rfl (TL.opP rfl (op_move rfl) (TL.gT rfl rfl (TL.opP rfl (op_move rfl) (TL.gT rfl rfl (TL.opP rfl (op_nilCheck rfl) (TL.gT rfl rfl (TL.opP rfl (op_field fld_sealskinref11_Index_L rfl) (TL.gT rfl rfl (TL.opV rfl (op_load ts_sl_int32 rfl m0 rfl) (TL.gT rfl rfl (TL.opV rfl (op_lenV rfl un_sl_int32 rfl hyl.cons) (TL.gT rfl rfl (TL.opP rfl (op_geq rfl rfl) (TL.opP rfl (op_pickF rfl rfl) (TL.nil (TQ.then ?_))))))))))))))))
  first | refine TC.condD rfl (fun c2 => ?_) (fun c2 => ?_) | refine TC.condB rfl (fun c2 => ?_) (fun c2 => ?_)
  ·refine TC.seq (TC.region (TL.opP rfl (op_assign rfl) (TL.opP rfl (op_assign rfl) (TL.opP rfl (op_assign rfl) (TL.nil (TQ.then (TC.ret (TQ.then_ret ?_))))))))
   refine ret3 rfl rfl rfl rfl (fun w' hp => ?_)
   first
     | (have hn : noPt l i := by unfold noPt; omega
        exact ⟨_, _, rfl, ⟨by rw [show woA l i = 0 from if_pos hn, show woZ l i = 0 from if_pos hn, show woE l i = 1 from if_pos hn], rfl⟩, (hp)⟩)
     | (have hz : (z : Int) = fwdN l (lcls (l.getD i 0)) i := by
          rw [← hf]
          first
            | (rw [hfs, if_neg (by assumption)]; done)
            | (obtain rfl : z = l.length := by omega
               rw [fwd_end])
        exact ⟨_, _, rfl, ⟨by (rw [show woA l i = _ from if_neg hni, show woZ l i = _ from if_neg hni, show woE l i = 0 from if_neg hni, hz]; first | done | rfl), rfl⟩, (hp)⟩)
  ·have hni : ¬ noPt l i := by unfold noPt; omega
   obtain ⟨i, rfl⟩ : ∃ j : Nat, i = j := ⟨i.toNat, by omega⟩
   have hi : i < l.length := by unfold noPt at hni; omega
   refine TC.skip (TQ.then (TC.seq (TC.region (TL.opP rfl (op_move rfl) (TL.opP rfl (op_assign rfl) (TL.nil (TQ.then ?_)))))))
   refine TC.join1 [(0, .pointer (some ⟨g, 0, none⟩)), (1, .int .i64 (i : Int)), (7, .int .i64 (backN l (lcls (l.getD i 0)) i : Int))] (.blk g (.cells [lv].toArray 56 (0, 0)) :: F) ?_ ?_
   ·refine TC.block (TC.loop (ι := Nat) (fun a => [(0, .pointer (some ⟨g, 0, none⟩)), (1, .int .i64 (i : Int)), (7, .int .i64 (a : Int))]) (fun a => .blk g (.cells [lv].toArray 56 (0, 0)) :: F) (fun a => a ≤ i ∧ backN l (lcls (l.getD i 0)) a = backN l (lcls (l.getD i 0)) i) (fun a => a) (i) (⟨Nat.le_refl _, rfl⟩) ⟨rfl, rfl, rfl, trivial⟩ (fun _ h => h) ?_)
    rintro a ⟨ha, hb⟩
    refine TC.seq (TC.seq (TC.draw [] (.cons (.p, 0) (.cons (.p, 1) (.cons (.p, 2) (.cons (.p, 3) (.cons (.p, 4) (.cons (.p, 5) (.cons (.p, 7) (.cons (.p, 8) (.cons (.p, 12) (.cons (.p, 13) (.cons (.p, 14) (.cons (.p, 16) (.cons (.t, 6) (.cons (.t, 9) (.cons (.t, 10) (.cons (.t, 11) (.cons (.t, 15) (.cons (.t, 17) (.cons (.t, 18) (.cons (.t, 19) (.cons (.p, 20) (.cons (.p, 21) (.nil))))))))))))))))))))))) mo (by kernel_rfl) (TR.p rfl rfl wt0 (op_move rfl) (TR.p rfl rfl wt0 (op_gtr rfl rfl) (TR.p rfl rfl wt0 (op_move rfl) ?_)))))
    first | refine TR.splitD (fun c3 => ?_) (fun c3 => ?_) | refine TR.splitB (fun c3 => ?_) (fun c3 => ?_)
    ·obtain ⟨b, rfl⟩ : ∃ b, a = b + 1 := ⟨a - 1, by omega⟩
     have hbk := back_step (l := l) (k := (lcls (l.getD i 0))) (i := b) (by omega) rfl
     refine TR.p rfl rfl (by exact wtT rfl rfl) (op_move rfl) (TR.p rfl rfl (by exact wtT rfl rfl) (op_nilCheck rfl) (TR.p rfl rfl (by exact wtT rfl rfl) (op_field fld_sealskinref11_Index_L rfl) (TR.p rfl rfl (by exact wtT rfl rfl) (op_move rfl) (TR.p rfl rfl (by exact wtT rfl rfl) (op_sub rfl rfl rfl (by omega) (by omega)) (TR.p rfl rfl (by exact wtT rfl rfl) (op_move rfl) (TR.p rfl rfl (by exact wtT rfl rfl) (op_nilCheck rfl) (TR.p rfl rfl (by exact wtT rfl rfl) (op_field fld_sealskinref11_Index_L rfl) (TR.p rfl rfl (by exact wtT rfl rfl) (op_move rfl) (TR.t rfl rfl (by exact wtT rfl rfl) (op_load ts_sl_int32 rfl m0 rfl) (fun _ h => h) (TR.t rfl rfl (by exact wtT rfl rfl) (op_index tsl_int32 rfl hyl.cons rfl (by omega) (by omega)) (fun _ h => h) ?_))))))))))
     refine TR.t rfl rfl (by exact wtT rfl rfl) (op_loadR ts_int32 rfl hyl.cons (lkM (i := b) (d := 0) (by omega) rfl (by omega))) (fun _ h => h) (TR.tcall rfl rfl (by exact wtT rfl rfl) en_74 rfl (fun w2 hp => yclass_calls _ w2) (fun _ h => h) (TR.t rfl rfl (by exact wtT rfl rfl) (op_load ts_sl_int32 rfl m0 rfl) (fun _ h => h) (TR.t rfl rfl (by exact wtT rfl rfl) (op_index tsl_int32 rfl hyl.cons rfl (by omega) (by omega)) (fun _ h => h) (TR.t rfl rfl (by exact wtT rfl rfl) (op_loadR ts_int32 rfl hyl.cons (lkM (i := i) (d := 0) (by omega) rfl (by omega))) (fun _ h => h) (TR.tcall rfl rfl (by exact wtT rfl rfl) en_74 rfl (fun w2 hp => yclass_calls _ w2) (fun _ h => h) (TR.p rfl rfl (by exact wtT rfl rfl) (op_eql rfl rfl) ?_))))))
     refine TR.p rfl rfl wt0 (op_pickT rfl rfl) (TR.nil (TQ.then ?_))
     first | refine TC.condD rfl (fun c4 => ?_) (fun c4 => ?_) | refine TC.condB rfl (fun c4 => ?_) (fun c4 => ?_)
     ·refine TC.skip (TQ.then (TC.block (TC.region (TL.opP rfl (op_move rfl) (TL.opP rfl (op_sub rfl rfl rfl (by omega) (by omega)) (TL.opP rfl (op_assign rfl) (TL.nil (TQ.block_normal ?_))))))))
      exact TQ.round (b) (⟨by omega, by rw [← hb, hbk, if_pos (by assumption)]⟩) (by show b < b + 1; omega) ⟨rfl, rfl, gi rfl (by omega), trivial⟩ (fun _ h => h)
     ·refine TC.exit (TQ.then_exit (TQ.loop_exit (TQ.block_hit ?_)))
      exact TQ.join1 ⟨rfl, rfl, gi rfl (by first | (rw [← hb, hbk, if_neg (by assumption)]; done) | (obtain rfl : a = 0 := (by omega); exact congrArg (fun n : Nat => (n : Int)) ((back_zero l _).symm.trans hb))), trivial⟩ (fun _ h => h)
    ·refine TR.off rfl rfl (by exact wtFf rfl rfl) (TR.off rfl rfl (by exact wtFf rfl rfl) (TR.off rfl rfl (by exact wtFf rfl rfl) (TR.off rfl rfl (by exact wtFf rfl rfl) (TR.off rfl rfl (by exact wtFf rfl rfl) (TR.off rfl rfl (by exact wtFf rfl rfl) (TR.off rfl rfl (by exact wtFf rfl rfl) (TR.off rfl rfl (by exact wtFf rfl rfl) (TR.off rfl rfl (by exact wtFf rfl rfl) (TR.offT rfl rfl (by exact wtFf rfl rfl) (fun _ h => h) (TR.offT rfl rfl (by exact wtFf rfl rfl) (fun _ h => h) (TR.offT rfl rfl (by exact wtFf rfl rfl) (fun _ h => h) (TR.offT rfl rfl (by exact wtFf rfl rfl) (fun _ h => h) (TR.offT rfl rfl (by exact wtFf rfl rfl) (fun _ h => h) (TR.offT rfl rfl (by exact wtFf rfl rfl) (fun _ h => h) (TR.offT rfl rfl (by exact wtFf rfl rfl) (fun _ h => h) ?_)))))))))))))))
     refine TR.offT rfl rfl (by exact wtFf rfl rfl) (fun _ h => h) (TR.off rfl rfl (by exact wtFf rfl rfl) (TR.p rfl rfl wt0 (op_pickF rfl rfl) (TR.nil (TQ.then (TC.condF rfl (TC.exit (TQ.then_exit (TQ.loop_exit (TQ.block_hit ?_)))))))))
     exact TQ.join1 ⟨rfl, rfl, gi rfl (by first | (rw [← hb, hbk, if_neg (by assumption)]; done) | (obtain rfl : a = 0 := (by omega); exact congrArg (fun n : Nat => (n : Int)) ((back_zero l _).symm.trans hb))), trivial⟩ (fun _ h => h)
   ·refine TC.seq (TC.region (TL.opP rfl (op_move rfl) (TL.opP rfl (op_assign rfl) (TL.nil (TQ.then (TC.seq (TC.block (TC.loop (ι := Nat) (fun z => [(0, .pointer (some ⟨g, 0, none⟩)), (1, .int .i64 (i : Int)), (7, .int .i64 (backN l (lcls (l.getD i 0)) i : Int)), (8, .int .i64 (z : Int))]) (fun z => .blk g (.cells [lv].toArray 56 (0, 0)) :: F) (fun z => z ≤ l.length ∧ fwdN l (lcls (l.getD i 0)) z = fwdN l (lcls (l.getD i 0)) i) (fun z => l.length - z) (i) (⟨by omega, rfl⟩) ⟨rfl, rfl, rfl, rfl, trivial⟩ (fun _ h => h) ?_))))))))
    rintro z ⟨hz, hf⟩
    refine TC.seq (TC.seq (TC.draw [] (.cons (.p, 0) (.cons (.p, 1) (.cons (.p, 2) (.cons (.p, 3) (.cons (.t, 4) (.cons (.t, 5) (.cons (.p, 6) (.cons (.p, 7) (.cons (.p, 8) (.cons (.p, 9) (.cons (.p, 10) (.cons (.p, 12) (.cons (.p, 16) (.cons (.p, 17) (.cons (.p, 18) (.cons (.p, 20) (.cons (.t, 11) (.cons (.t, 13) (.cons (.t, 14) (.cons (.t, 15) (.cons (.t, 19) (.cons (.t, 21) (.cons (.t, 22) (.cons (.t, 23) (.cons (.p, 24) (.cons (.p, 25) (.nil))))))))))))))))))))))))))) mo (by kernel_rfl) (TR.p rfl rfl wt0 (op_move rfl) (TR.p rfl rfl wt0 (op_move rfl) (TR.p rfl rfl wt0 (op_nilCheck rfl) (TR.p rfl rfl wt0 (op_field fld_sealskinref11_Index_L rfl) (TR.t rfl rfl wt0 (op_load ts_sl_int32 rfl m0 rfl) (fun _ h => h) ?_)))))))
    refine TR.t rfl rfl wt0 (op_lenV rfl un_sl_int32 rfl hyl.cons) (fun _ h => h) (TR.p rfl rfl wt0 (op_lss rfl rfl) (TR.p rfl rfl wt0 (op_move rfl) ?_))
    first | refine TR.splitD (fun c5 => ?_) (fun c5 => ?_) | refine TR.splitB (fun c5 => ?_) (fun c5 => ?_)
    ·have hfs := fwd_step (l := l) (k := (lcls (l.getD i 0))) (i := z) (by omega) rfl
     refine TR.p rfl rfl (by exact wtT rfl rfl) (op_move rfl) (TR.p rfl rfl (by exact wtT rfl rfl) (op_nilCheck rfl) (TR.p rfl rfl (by exact wtT rfl rfl) (op_field fld_sealskinref11_Index_L rfl) (TR.p rfl rfl (by exact wtT rfl rfl) (op_move rfl) (TR.p rfl rfl (by exact wtT rfl rfl) (op_move rfl) (TR.p rfl rfl (by exact wtT rfl rfl) (op_nilCheck rfl) (TR.p rfl rfl (by exact wtT rfl rfl) (op_field fld_sealskinref11_Index_L rfl) (TR.p rfl rfl (by exact wtT rfl rfl) (op_move rfl) (TR.t rfl rfl (by exact wtT rfl rfl) (op_load ts_sl_int32 rfl m0 rfl) (fun _ h => h) (TR.t rfl rfl (by exact wtT rfl rfl) (op_index tsl_int32 rfl hyl.cons rfl (by omega) (by omega)) (fun _ h => h) (TR.t rfl rfl (by exact wtT rfl rfl) (op_loadR ts_int32 rfl hyl.cons (lkM (i := z) (d := 0) (by omega) rfl (by omega))) (fun _ h => h) ?_))))))))))
     refine TR.tcall rfl rfl (by exact wtT rfl rfl) en_74 rfl (fun w2 hp => yclass_calls _ w2) (fun _ h => h) (TR.t rfl rfl (by exact wtT rfl rfl) (op_load ts_sl_int32 rfl m0 rfl) (fun _ h => h) (TR.t rfl rfl (by exact wtT rfl rfl) (op_index tsl_int32 rfl hyl.cons rfl (by omega) (by omega)) (fun _ h => h) (TR.t rfl rfl (by exact wtT rfl rfl) (op_loadR ts_int32 rfl hyl.cons (lkM (i := i) (d := 0) (by omega) rfl (by omega))) (fun _ h => h) (TR.tcall rfl rfl (by exact wtT rfl rfl) en_74 rfl (fun w2 hp => yclass_calls _ w2) (fun _ h => h) (TR.p rfl rfl (by exact wtT rfl rfl) (op_eql rfl rfl) (TR.p rfl rfl wt0 (op_pickT rfl rfl) (TR.nil (TQ.then ?_))))))))
     first | refine TC.condD rfl (fun c6 => ?_) (fun c6 => ?_) | refine TC.condB rfl (fun c6 => ?_) (fun c6 => ?_)
     ·refine TC.skip (TQ.then (TC.block (TC.region (TL.opP rfl (op_move rfl) (TL.opP rfl (op_add rfl rfl rfl (by omega) (by omega)) (TL.opP rfl (op_assign rfl) (TL.nil (TQ.block_normal ?_))))))))
      exact TQ.round (z + 1) (⟨by omega, by rw [← hf, hfs, if_pos (by assumption)]⟩) (by show l.length - (z + 1) < l.length - z; omega) ⟨rfl, rfl, rfl, rfl, trivial⟩ (fun _ h => h)
     ·refine TC.exit (TQ.then_exit (TQ.loop_exit (TQ.block_hit (TQ.then (TC.seq (TC.region (TL.opP rfl (op_move rfl) (TL.opP rfl (op_move rfl) (TL.opP rfl (op_assign rfl) (TL.opP rfl (op_assign rfl) (TL.opP rfl (op_assign rfl) (TL.nil (TQ.then (TC.ret ?_))))))))))))))
      refine ret3 rfl rfl rfl rfl (fun w' hp => ?_)
      first
        | (have hn : noPt l i := by unfold noPt; omega
           exact ⟨_, _, rfl, ⟨by rw [show woA l i = 0 from if_pos hn, show woZ l i = 0 from if_pos hn, show woE l i = 1 from if_pos hn], rfl⟩, (hp)⟩)
        | (have hz : (z : Int) = fwdN l (lcls (l.getD i 0)) i := by
             rw [← hf]
             first
               | (rw [hfs, if_neg (by assumption)]; done)
               | (obtain rfl : z = l.length := by omega
                  rw [fwd_end])
           exact ⟨_, _, rfl, ⟨by (rw [show woA l i = _ from if_neg hni, show woZ l i = _ from if_neg hni, show woE l i = 0 from if_neg hni, hz]; first | done | rfl), rfl⟩, (hp)⟩)
    ·refine TR.off rfl rfl (by exact wtFf rfl rfl) (TR.off rfl rfl (by exact wtFf rfl rfl) (TR.off rfl rfl (by exact wtFf rfl rfl) (TR.off rfl rfl (by exact wtFf rfl rfl) (TR.off rfl rfl (by exact wtFf rfl rfl) (TR.off rfl rfl (by exact wtFf rfl rfl) (TR.off rfl rfl (by exact wtFf rfl rfl) (TR.off rfl rfl (by exact wtFf rfl rfl) (TR.offT rfl rfl (by exact wtFf rfl rfl) (fun _ h => h) (TR.offT rfl rfl (by exact wtFf rfl rfl) (fun _ h => h) (TR.offT rfl rfl (by exact wtFf rfl rfl) (fun _ h => h) (TR.offT rfl rfl (by exact wtFf rfl rfl) (fun _ h => h) (TR.offT rfl rfl (by exact wtFf rfl rfl) (fun _ h => h) (TR.offT rfl rfl (by exact wtFf rfl rfl) (fun _ h => h) (TR.offT rfl rfl (by exact wtFf rfl rfl) (fun _ h => h) ?_))))))))))))))
     refine TR.offT rfl rfl (by exact wtFf rfl rfl) (fun _ h => h) (TR.off rfl rfl (by exact wtFf rfl rfl) (TR.p rfl rfl wt0 (op_pickF rfl rfl) (TR.nil (TQ.then (TC.condF rfl (TC.exit (TQ.then_exit (TQ.loop_exit (TQ.block_hit (TQ.then (TC.seq (TC.region (TL.opP rfl (op_move rfl) (TL.opP rfl (op_move rfl) (TL.opP rfl (op_assign rfl) (TL.opP rfl (op_assign rfl) (TL.opP rfl (op_assign rfl) (TL.nil (TQ.then (TC.ret ?_))))))))))))))))))))
     refine ret3 rfl rfl rfl rfl (fun w' hp => ?_)
     first
       | (have hn : noPt l i := by unfold noPt; omega
          exact ⟨_, _, rfl, ⟨by rw [show woA l i = 0 from if_pos hn, show woZ l i = 0 from if_pos hn, show woE l i = 1 from if_pos hn], rfl⟩, (hp)⟩)
       | (have hz : (z : Int) = fwdN l (lcls (l.getD i 0)) i := by
            rw [← hf]
            first
              | (rw [hfs, if_neg (by assumption)]; done)
              | (obtain rfl : z = l.length := by omega
                 rw [fwd_end])
          exact ⟨_, _, rfl, ⟨by (rw [show woA l i = _ from if_neg hni, show woZ l i = _ from if_neg hni, show woE l i = 0 from if_neg hni, hz]; first | done | rfl), rfl⟩, (hp)⟩)

theorem ystands_x (l : List Int) (lv : Value) (g : Nat) (hyl : Rdb F lv 1 l.length (l.map (Value.int .i32))) (p : List Int) (pv : Value) (i : Nat) (hi : i ≤ l.length) (hln : l.length ≤ 1048576) (hpv : Rdb F pv 1 p.length (p.map (Value.int .i32))) :
    CallX Tryd.prog 67 [.pointer (some ⟨g, 0, none⟩), pv, .int .i64 (i : Int)] S w0 (.blk g (.cells [lv].toArray 56 (0, 0)) :: F) (fun u L' => u = .bool (stands p l i) ∧ L' = .blk g (.cells [lv].toArray 56 (0, 0)) :: F) := by
 intro w hp
 have hyll := hyl.cons.lenLe hp
 have hpl := hpv.cons.lenLe hp
 refine calls_start Tryd.func67 rfl rfl rfl (hp) ?_
 refine TC.seq (TC.region (TL.opP rfl (op_assign rfl) (TL.nil (TQ.then (TC.seq (TC.seq (TC.region (TL.opP rfl (op_move rfl) (TL.opV rfl (op_lenV rfl un_sl_int32 rfl hpv.cons) (TL.opP rfl (op_move rfl) (TL.opP rfl (op_nilCheck rfl) (TL.opP rfl (op_field fld_sealskinref11_Index_L rfl) (TL.opV rfl (op_load ts_sl_int32 rfl m0 rfl) (TL.opV rfl (op_lenV rfl un_sl_int32 rfl hyl.cons) (TL.opP rfl (op_move rfl) (TL.opP rfl (op_sub rfl rfl rfl (by omega) (by omega)) (TL.opP rfl (op_gtr rfl rfl) (TL.nil (TQ.then ?_)))))))))))))))))))
 first | refine TC.condD rfl (fun c1 => ?_) (fun c1 => ?_) | refine TC.condB rfl (fun c1 => ?_) (fun c1 => ?_)
 ·refine TC.seq (TC.region (TL.opP rfl (op_assign rfl) (TL.nil (TQ.then (TC.ret (TQ.then_ret ?_))))))
  refine ret1 rfl rfl (fun w' hp => ?_)
  first
    | exact ⟨_, _, rfl, ⟨by rw [st_short hi (by omega)], rfl⟩, (hp)⟩
    | exact ⟨_, _, rfl, ⟨by rw [st_diff (by omega) (by omega) c3], rfl⟩, (hp)⟩
    | exact ⟨_, _, rfl, ⟨by rw [st_full htk (by omega)], rfl⟩, (hp)⟩
 ·refine TC.skip (TQ.then (TC.seq (TC.seq (TC.region (TL.opP rfl (op_move rfl) (TL.opV rfl (op_lenV rfl un_sl_int32 rfl hpv.cons) (TL.opP rfl (op_move rfl) (TL.nil (TQ.then (TC.block (TC.loop (ι := Nat) (fun k => [(0, .pointer (some ⟨g, 0, none⟩)), (1, pv), (2, .int .i64 (i : Int)), (19, pv), (20, .int .i64 (p.length : Int)), (21, .int .i64 (k : Int))]) (fun k => .blk g (.cells [lv].toArray 56 (0, 0)) :: F) (fun k => k ≤ p.length ∧ p.take k = (l.drop i).take k) (fun k => p.length - k) (0) (⟨Nat.zero_le _, rfl⟩) ⟨rfl, rfl, rfl, rfl, rfl, rfl, trivial⟩ (fun _ h => h) ?_)))))))))))
  rintro k ⟨hk, htk⟩
  refine TC.seq (TC.region (TL.opP rfl (op_lss rfl rfl) (TL.nil (TQ.then (TC.seq ?_)))))
  first | refine TC.condD rfl (fun c2 => ?_) (fun c2 => ?_) | refine TC.condB rfl (fun c2 => ?_) (fun c2 => ?_)
  ·refine TC.skip (TQ.then (TC.seq (TC.block (TC.seq (TC.region (TL.opP rfl (op_move rfl) (TL.opV rfl (op_index tsl_int32 rfl hpv.cons rfl (by omega) (by omega)) (TL.opV rfl (op_loadR ts_int32 rfl hpv.cons (lkM (i := k) (d := 0) (by omega) rfl (by omega))) (TL.opP rfl (op_assign rfl) (TL.opP rfl (op_assign rfl) (TL.nil (TQ.then (TC.seq (TC.region (TL.opP rfl (op_move rfl) (TL.opP rfl (op_nilCheck rfl) (TL.opP rfl (op_field fld_sealskinref11_Index_L rfl) (TL.opV rfl (op_load ts_sl_int32 rfl m0 rfl) (TL.opP rfl (op_move rfl) (TL.opP rfl (op_move rfl) (TL.opP rfl (op_add rfl rfl rfl (by omega) (by omega)) (TL.opV rfl (op_index tsl_int32 rfl hyl.cons rfl (by omega) (by omega)) (TL.opV rfl (op_loadR ts_int32 rfl hyl.cons (lkM (i := i + k) (d := 0) (by omega) rfl (by omega))) ?_)))))))))))))))))))))))
   refine TL.opP rfl (op_move rfl) (TL.opP rfl (op_neq rfl rfl) (TL.nil (TQ.then ?_)))
   first | refine TC.condD rfl (fun c3 => ?_) (fun c3 => ?_) | refine TC.condB rfl (fun c3 => ?_) (fun c3 => ?_)
   ·refine TC.seq (TC.region (TL.opP rfl (op_assign rfl) (TL.nil (TQ.then (TC.ret (TQ.block_ret (TQ.then_ret (TQ.loop_ret (TQ.block_ret (TQ.then_ret ?_))))))))))
    refine ret1 rfl rfl (fun w' hp => ?_)
    first
      | exact ⟨_, _, rfl, ⟨by rw [st_short hi (by omega)], rfl⟩, (hp)⟩
      | exact ⟨_, _, rfl, ⟨by rw [st_diff (by omega) (by omega) c3], rfl⟩, (hp)⟩
      | exact ⟨_, _, rfl, ⟨by rw [st_full htk (by omega)], rfl⟩, (hp)⟩
   ·refine TC.skip (TQ.block_normal (TQ.then (TC.region (TL.opP rfl (op_add rfl rfl rfl (by omega) (by omega)) (TL.opP rfl (op_move rfl) (TL.nil ?_))))))
    exact TQ.round (k + 1) (⟨by omega, st_next htk (by omega) (by omega) (by simpa using c3)⟩) (by show _ - (k + 1) < _ - k; omega) ⟨rfl, rfl, rfl, rfl, rfl, rfl, trivial⟩ (fun _ h => h)
  ·refine TC.exit (TQ.then_exit (TQ.loop_exit (TQ.block_hit (TQ.then (TC.seq (TC.region (TL.opP rfl (op_assign rfl) (TL.nil (TQ.then (TC.ret ?_))))))))))
   refine ret1 rfl rfl (fun w' hp => ?_)
   first
     | exact ⟨_, _, rfl, ⟨by rw [st_short hi (by omega)], rfl⟩, (hp)⟩
     | exact ⟨_, _, rfl, ⟨by rw [st_diff (by omega) (by omega) c3], rfl⟩, (hp)⟩
     | exact ⟨_, _, rfl, ⟨by rw [st_full htk (by omega)], rfl⟩, (hp)⟩

theorem yfind_x (l : List Int) (lv : Value) (g : Nat) (hyl : Rdb F lv 1 l.length (l.map (Value.int .i32))) (s : ByteArray) (hs : s.size ≤ 1048576) (hln : l.length ≤ 1048576) :
    CallX Tryd.prog 23 [.pointer (some ⟨g, 0, none⟩), .string s] S w0 (.blk g (.cells [lv].toArray 56 (0, 0)) :: F) (fun u L' => ∃ v' out, u = .tuple #[v', .int .i64 (patE s)] ∧ out = (if patE s = 0 then findF (dec s) l else []) ∧ L' = .row v' 3 1 out.length (out.map nv) :: .blk g (.cells [lv].toArray 56 (0, 0)) :: F) := by
 intro w hp
 have hyll := hyl.cons.lenLe hp
 have hbl := begs_len l
 refine calls_start Tryd.func23 rfl rfl rfl (hp) ?_
 refine TC.seq (TC.region (TL.opP rfl (op_assign rfl) (TL.opP rfl (op_assign rfl) (TL.nil (TQ.then (TC.seq (TC.region (TL.opP rfl (op_move rfl) ?_))))))))
 refine TL.opX rfl (OpX.callX en_64 rfl (ychars_x s (by omega))) ?_; rintro _ _ ⟨w1, rfl, rfl⟩
 refine TL.opP rfl (op_move rfl) (TL.opP rfl (op_extract rfl rfl) (TL.opP rfl (op_extract rfl rfl) (TL.opP rfl (op_assign rfl) (TL.opP rfl (op_assign rfl) (TL.nil (TQ.then (TC.seq (TC.seq (TC.region (TL.opP rfl (op_move rfl) (TL.opP rfl (op_not rfl rfl) (TL.nil (TQ.then ?_)))))))))))))
 first | refine TC.condD rfl (fun c1 => ?_) (fun c1 => ?_) | refine TC.condB rfl (fun c1 => ?_) (fun c1 => ?_)
 ·have hv : valid s = false := by simpa using c1
  refine TC.seq (TC.region (TL.opP rfl (op_assign rfl) (TL.opP rfl (op_assign rfl) (TL.nil (TQ.then (TC.ret (TQ.then_ret ?_)))))))
  refine ret2 rfl rfl rfl (fun w' hp => ?_)
  first
    | (have h1 : patE s = 21 := if_pos hv
       exact ⟨_, _, rfl, ⟨.slice none 0 0, [], by rw [h1], by rw [h1]; rfl, rfl⟩, new_nil _ 1 (hp.tail)⟩)
    | (have h1 : patE s = 1 := by rw [hpe]; exact if_pos (by omega)
       exact ⟨_, _, rfl, ⟨.slice none 0 0, [], by rw [h1], by rw [h1]; rfl, rfl⟩, new_nil _ 1 (hp.tail)⟩)
    | (have h1 : patE s = 0 := by rw [hpe]; exact if_neg (by omega)
       obtain rfl : i = l.length := by omega
       exact ⟨_, _, rfl, ⟨_, out, by rw [h1], by (rw [h1, if_pos rfl, hf]; rfl), rfl⟩, (hp.tail)⟩)
 ·have hv : valid s = true := by simpa using c1
  have hpe := patE_dec hv
  refine TC.skip (TQ.then (TC.seq (TC.seq (TC.region (TL.opP rfl (op_move rfl) (TL.opV rfl (op_lenV rfl un_sl_int32 rfl rw0) (TL.opP rfl (op_eql rfl rfl) (TL.nil (TQ.then ?_)))))))))
  first | refine TC.condD rfl (fun c2 => ?_) (fun c2 => ?_) | refine TC.condB rfl (fun c2 => ?_) (fun c2 => ?_)
  ·refine TC.seq (TC.region (TL.opP rfl (op_assign rfl) (TL.opP rfl (op_assign rfl) (TL.nil (TQ.then (TC.ret (TQ.then_ret ?_)))))))
   refine ret2 rfl rfl rfl (fun w' hp => ?_)
   first
     | (have h1 : patE s = 21 := if_pos hv
        exact ⟨_, _, rfl, ⟨.slice none 0 0, [], by rw [h1], by rw [h1]; rfl, rfl⟩, new_nil _ 1 (hp.tail)⟩)
     | (have h1 : patE s = 1 := by rw [hpe]; exact if_pos (by omega)
        exact ⟨_, _, rfl, ⟨.slice none 0 0, [], by rw [h1], by rw [h1]; rfl, rfl⟩, new_nil _ 1 (hp.tail)⟩)
     | (have h1 : patE s = 0 := by rw [hpe]; exact if_neg (by omega)
        obtain rfl : i = l.length := by omega
        exact ⟨_, _, rfl, ⟨_, out, by rw [h1], by (rw [h1, if_pos rfl, hf]; rfl), rfl⟩, (hp.tail)⟩)
  ·refine TC.skip (TQ.then (TC.seq (TC.region (TL.opP rfl (op_assign rfl) (TL.nil (TQ.then (TC.seq (TC.seq (TC.region (TL.opP rfl (op_move rfl) (TL.opP rfl (op_nilCheck rfl) (TL.opP rfl (op_field fld_sealskinref11_Index_L rfl) (TL.opV rfl (op_load ts_sl_int32 rfl m1 rfl) (TL.opV rfl (op_lenV rfl un_sl_int32 rfl hyl.cons.cons) (TL.opP rfl (op_move rfl) (TL.nil (TQ.then (TC.block (TC.hp (fun _ h => new_nil 3 1 h) (TC.loop (ι := Nat × List Nat × Value) (fun (i, out, ov) => [(0, .pointer (some ⟨g, 0, none⟩)), (6, w1), (8, ov), (24, .int .i64 (l.length : Int)), (25, .int .i64 (i : Int))]) (fun (i, out, ov) => .row ov 3 1 out.length (out.map nv) :: .blk g (.cells [lv].toArray 56 (0, 0)) :: .row w1 21 1 (dec s).length ((dec s).map (Value.int .i32)) :: F) (fun (i, out, ov) => i ≤ l.length ∧ out = (List.range i).filter (stands (dec s) l) ∧ out.length ≤ i) (fun (i, out, ov) => l.length - i) ((0, [], .slice none 0 0)) (⟨Nat.zero_le _, rfl, Nat.le_refl _⟩) ⟨rfl, rfl, rfl, rfl, rfl, trivial⟩ (fun _ h => h.pick1.pick2.pick2) ?_))))))))))))))))))))
   rintro ⟨i, out, ov⟩ ⟨hi, hf, hol⟩
   show TC _ _ _ _ [(0, .pointer (some ⟨g, 0, none⟩)), (6, w1), (8, ov), (24, .int .i64 (l.length : Int)), (25, .int .i64 (i : Int))] _ _ (.row ov 3 1 out.length (out.map nv) :: .blk g (.cells [lv].toArray 56 (0, 0)) :: .row w1 21 1 (dec s).length ((dec s).map (Value.int .i32)) :: F)
   refine TC.seq (TC.region (TL.opP rfl (op_lss rfl rfl) (TL.nil (TQ.then (TC.seq ?_)))))
   first | refine TC.condD rfl (fun c3 => ?_) (fun c3 => ?_) | refine TC.condB rfl (fun c3 => ?_) (fun c3 => ?_)
   ·refine TC.skip (TQ.then (TC.seq (TC.block (TC.seq (TC.region (TL.opP rfl (op_move rfl) (TL.opP rfl (op_assign rfl) (TL.nil (TQ.then (TC.seq (TC.region (TL.opP rfl (op_move rfl) (TL.opP rfl (op_move rfl) (TL.opP rfl (op_move rfl) (TL.hp (fun _ h => h.pick1) ?_)))))))))))))))
    refine TL.opX rfl (OpX.callX en_67 rfl (ystands_x l _ _ hyl.cons.cons (dec s) _ i (by omega) hln rw1)) ?_; rintro _ _ ⟨rfl, rfl⟩
    refine TL.nil (TQ.then ?_)
    first | refine TC.condD rfl (fun c4 => ?_) (fun c4 => ?_) | refine TC.condB rfl (fun c4 => ?_) (fun c4 => ?_)
    ·have hst : stands (dec s) l i = true := c4
     refine TC.region (TL.opP rfl (op_move rfl) (TL.opP rfl (op_move rfl) ?_))
     refine TL.opX rfl (OpX.buildSlice (ps := #[(0, _)]) rfl (bs_int_1 _)) ?_; rintro _ _ ⟨g34, rfl, rfl⟩
     refine TL.hp (fun _ h => blk_row (k := 1) (m := 1) h rfl (by decide)) (TL.hp (fun _ h => h.pick2) ?_)
     refine TL.opX rfl (OpX.append (bytes := 8) tsl_int (by decide) (by decide) rfl rw1 (fun u hu => by rw [List.mem_singleton.1 hu]; rfl) (by omega) (zs := (out ++ [i]).map nv) (by simp)) ?_; rintro v3 _ rfl
     refine TL.know (fun _ h => row1 h) (fun o3 => (TL.hp (fun _ h => row_lenM h) (TL.opP rfl (op_assign rfl) (TL.nil (TQ.block_normal (TQ.then (TC.region (TL.opP rfl (op_add rfl rfl rfl (by omega) (by omega)) (TL.opP rfl (op_move rfl) (TL.nil ?_))))))))))
     exact TQ.round (i + 1, out ++ [i], v3) (⟨by omega, by rw [hf, List.range_succ, List.filter_append, filt1, if_pos hst], by rw [List.length_append, List.length_singleton]; omega⟩) (by show _ - (i + 1) < _ - i; omega) ⟨rfl, rfl, rfl, rfl, rfl, trivial⟩ (fun _ h => h.drop1)
    ·refine TC.skip (TQ.block_normal (TQ.then (TC.region (TL.opP rfl (op_add rfl rfl rfl (by omega) (by omega)) (TL.opP rfl (op_move rfl) (TL.nil ?_))))))
     exact TQ.round (i + 1, out, ov) (⟨by omega, by rw [hf, List.range_succ, List.filter_append, filt1, if_neg (by rw [c4]; decide), List.append_nil], by omega⟩) (by show _ - (i + 1) < _ - i; omega) ⟨rfl, rfl, rfl, rfl, rfl, trivial⟩ (fun _ h => h.pick2.pick1.pick2)
   ·refine TC.exit (TQ.then_exit (TQ.loop_exit (TQ.block_hit (TQ.then (TC.seq (TC.region (TL.opP rfl (op_move rfl) (TL.opP rfl (op_assign rfl) (TL.opP rfl (op_assign rfl) (TL.nil (TQ.then (TC.ret ?_))))))))))))
    refine ret2 rfl rfl rfl (fun w' hp => ?_)
    first
      | (have h1 : patE s = 21 := if_pos hv
         exact ⟨_, _, rfl, ⟨.slice none 0 0, [], by rw [h1], by rw [h1]; rfl, rfl⟩, new_nil _ 1 (hp.drop2)⟩)
      | (have h1 : patE s = 1 := by rw [hpe]; exact if_pos (by omega)
         exact ⟨_, _, rfl, ⟨.slice none 0 0, [], by rw [h1], by rw [h1]; rfl, rfl⟩, new_nil _ 1 (hp.drop2)⟩)
      | (have h1 : patE s = 0 := by rw [hpe]; exact if_neg (by omega)
         obtain rfl : i = l.length := by omega
         exact ⟨_, _, rfl, ⟨_, out, by rw [h1], by (rw [h1, if_pos rfl, hf]; rfl), rfl⟩, (hp.drop2)⟩)

end Go.SK
