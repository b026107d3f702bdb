/- The law UndoPlays answers true. -/
import Derived.Test.YtlbaebaimhbbfaaDoorE98
set_option linter.unusedVariables false
set_option linter.unusedSimpArgs false
set_option maxRecDepth 100000
namespace Go.SK
open Go Go.RowKit Go.Proofs
variable {S : Nat → Prop} {w0 : World} {F L : List Res}
theorem op_rem {P : Program} {n : Nat} {l : FrL} {dst : Option Tmp} {x y : Operand} {ty t t' : TypeId} {pos : String} {af : Array Edge} {gd : Option (Nat × Bool)} {k : IntKind} {a b : Int} (hx : evO l x = some (.int k a)) (hy : evO l y = some (.int k b)) (h0 : 0 ≤ a) (h1 : 0 < b) :
    OpP P n l ⟨dst, .binOp .rem t x y t', ty, pos, af, gd⟩ (.int k (a % b)) := fun q w ha => by
  simp [execOp, ha.eval hx, ha.eval hy, eqGuard, binOp, Op.intDiv, if_neg (show ¬ b = 0 by omega), Int.tmod_eq_emod_of_nonneg h0]
theorem u64_pos (a : Int) : 0 ≤ IntKind.u64.wrap a := by rw [IntKind.wrap_u64]; omega
theorem mod6 (a : Int) : ∃ m : Nat, IntKind.i64.wrap (IntKind.u64.wrap a % 6) = (m : Int) ∧ m < 6 := by
  have h1 := u64_pos a
  refine ⟨(IntKind.u64.wrap a % 6).toNat, ?_, by omega⟩
  rw [IntKind.wrap_i64]
  generalize IntKind.u64.wrap a = z at *
  omega
theorem neq_nil_parts (m : Nat) (A : Option Addr) (c : Nat) (w : World) : (binOp .neq 32 (.slice A m c) (.slice none 0 0)).run Tryd.prog w = .ok (.bool (decide (A ≠ none))) w := by
  cases A with
  | none => kernel_rfl
  | some a => kernel_rfl
theorem OpX.neqNil {P : Program} {n : Nat} {l : FrL} {dst : Option Tmp} {ty t' : TypeId} {pos : String} {af : Array Edge} {gd : Option (Nat × Bool)} {x : Operand} {t : TypeId} {v : Value} {sz m : Nat} {xs : List Value} (hx : evO l x = some v) (hr : Rdb L v sz m xs) (hq : ∀ (m : Nat) (A : Option Addr) (c : Nat) (w : World), (binOp .neq t (.slice A m c) (.slice none 0 0)).run P w = .ok (.bool (decide (A ≠ none))) w) :
    OpX P n l S w0 L ⟨dst, .binOp .neq t x (.const (.slice none 0 0)) t', ty, pos, af, gd⟩ (fun u L' => ∃ b, u = .bool b ∧ (b = true → v ≠ .slice none 0 0) ∧ L' = L) := .of_run fun a w ha hp => by
  obtain ⟨hl, A, c, rfl, _, _, hA, _⟩ := hr S w0 w hp
  refine ⟨_, w, L, ?_, ⟨decide (A ≠ none), rfl, fun hb e => ?_, rfl⟩, hp⟩
  · have hg : (eqGuard .neq t x (.const (.slice none 0 0)) (.slice A m c) (.slice none 0 0)).run P w = .ok () w := by simp [eqGuard]
    have hc : a.eval (.const (.slice none 0 0)) = .slice none 0 0 := rfl
    simp only [execOp, ha.eval hx, hc, Sem.run_bind, hg, Result.andThen_ok, hq m A c w, Sem.run_pure]
  · injection e with e1 _ _
    rw [e1] at hb; simp at hb
def dcol (l : List DoE) : List Ent := l.map fun d => (d.v, d.e.length, encs d.e)
theorem dcol_holds {W : World} {l : List DoE} (h : ∀ d ∈ l, EditIn W d.v d.e) : (col 3 (dcol l)).holds W := fun x hx => by
  obtain ⟨d, hd, rfl⟩ := List.mem_map.1 hx
  exact (h d hd).rd
theorem dcol_mem {l : List DoE} {d : DoE} (h : d ∈ l) : ((d.v, d.e.length, encs d.e) : Ent) ∈ dcol l := List.mem_map.2 ⟨d, h, rfl⟩
theorem rd_col {w : World} {es : List Ent} {x : Ent} (hm : col 3 es ∈ L) (hx : x ∈ es) (h : Hp S w0 w L) : Hp S w0 w (.rd x.1 3 x.2.1 x.2.2 :: L) :=
  h.derive ((h.at_ _ hm : ∀ x ∈ es, RdRow w x.1 3 x.2.1 x.2.2) x hx) (fun x => x) (fun g hg => ⟨_, hm, fun x => x, ⟨x, hx, hg⟩⟩)
theorem do_one {d : DoE} : ∀ u ∈ [Value.int .i64 d.op, .int .i64 d.n, d.v], u.oneCell' = true := fun u hu => by
  simp only [List.mem_cons, List.not_mem_nil, or_false] at hu
  rcases hu with rfl | rfl | rfl
  · rfl
  · rfl
  · exact d.h
theorem put99_len {xs : List Value} {i n : Nat} {v : Value} (h : xs.length = n) (hi : i + 1 ≤ n) : (xs.take i ++ [v] ++ xs.drop (i + 1)).length = n := by
  simp only [List.length_append, List.length_take, List.length_drop, List.length_singleton]; omega
theorem sm_rn {qb : List PE} {p : Pile} (e : rn qb = p) (h : ∀ x ∈ p, Sm x) : ∀ x ∈ qb, Sm x.2 := fun x hx => h _ (by rw [← e]; exact List.mem_map.2 ⟨x, hx, rfl⟩)
theorem app_size {e : List Part} {s : ByteArray} (z : applyE e s = 0) : (applyF e s).size ≤ 4398046511104 := by
  obtain ⟨hv, oe, hn⟩ := applyE_z z
  obtain ⟨a1, a2, a3, a4, a5⟩ := apply_law hv oe hn
  have h1 := (enc_size (dec (applyF e s))).2
  rw [enc_dec a3] at h1
  have h2 := oe.2.2.2
  omega
theorem undoPlays_law (s : ByteArray) (l : List DoE) (vl : Value) {w : World} (hss : s.size ≤ 140737488351232) (hl : RdRow w vl 3 l.length (encs l)) (hr : ∀ d ∈ l, EditIn w d.v d.e) (hT : Tabs w) :
    Calls Tryd.prog 3 (List.toArray [.string s, vl]) w fun e' w' => e' = .returned (.bool true) ∧ Kp NoB w w' := by
 refine calls_start Tryd.func3 rfl rfl rfl (Hp.i3 (r := tabs) (s := .rd vl 3 l.length (encs l)) (t := col 3 (dcol l)) hT hl (dcol_holds hr)) ?_
 refine TC.seq (TC.region (TL.opP rfl (op_assign rfl) (TL.nil (TQ.then (TC.seq (TC.seq (TC.region (TL.opP rfl (op_move rfl) (TL.opP rfl (op_move rfl) ?_)))))))))
 refine TL.opX rfl (OpX.callX en_4 rfl (ushort_x s l _ (by omega) rd1 (fun d hd => Rdb.col (x := (d.v, d.e.length, encs d.e)) m2 (dcol_mem hd)))) ?_; rintro _ _ ⟨b1, rfl, hb1, rfl⟩
 refine TL.opP rfl (op_not rfl rfl) (TL.nil (TQ.then ?_))
 refine TC.sp rfl (fun c1 => ?_) (fun c1 => ?_)
 ·refine TC.seq (TC.region (TL.callq rfl en_5 rfl (fun w2 hp => uawake_calls w2 (tabs_at hp m0)) (TL.opP rfl (op_assign rfl) (TL.nil (TQ.then (TC.ret (TQ.then_ret ?_)))))))
  refine ret1 rfl rfl (fun w' hp => ?_)
  exact ⟨rfl, hp.kp⟩
 ·obtain ⟨hs6, hl1, hdo⟩ := hb1 (by simpa using c1)
  have hrl := dec_len s
  have hrd := rcount_dec s
  refine TC.skip (TQ.then (TC.seq (TC.region (TL.opP rfl (op_move rfl) ?_))))
  refine TL.opX rfl (OpX.callX en_6 rfl (ubegun_x s (by omega) (by omega))) ?_; rintro _ _ ⟨g2, rfl, rfl⟩
  refine TL.opP rfl (op_move rfl) (TL.callq rfl en_7 rfl (fun w2 hp => rcount_calls s w2 (by omega)) (TL.opP rfl (op_build (ps := #[(2, _)]) rfl (bl_sealskinref17_History_2 _)) ?_))
  refine TL.opX rfl (OpX.box (cs := [.slice none 0 0, .slice none 0 0, .int .i64 (rcount s : Int)]) rfl rfl) ?_; rintro _ _ ⟨g31, rfl, rfl⟩
  refine TL.hp (fun _ h => nil_pile (nil_pile h)) (TL.opP rfl (op_assign rfl) (TL.opP rfl (op_assign rfl) (TL.nil (TQ.then (TC.seq (TC.seq (TC.region (TL.opP rfl (op_move rfl) (TL.opV rfl (op_lenV rfl un_sl_sealskinlaw17_Do rfl rd7) (TL.opP rfl (op_move rfl) (TL.nil (TQ.then (TC.block (TC.loop (ι := Nat × ByteArray × HS × Value × Value × List PE × List PE × Value × Value × List PE × List PE × Nat) (fun (i, s', h, bv, av, pb, pa, cv, dv, qb, qa, gk) => [(0, .string s'), (5, .pointer (some ⟨g2, 0, none⟩)), (6, .pointer (some ⟨gk, 0, none⟩)), (32, vl), (33, .int .i64 (l.length : Int)), (34, .int .i64 (i : Int))]) (fun (i, s', h, bv, av, pb, pa, cv, dv, qb, qa, gk) => [.blk g2 (.cells [bv, av, .int .i64 h.n, .bool true].toArray 62 (0, 0)), pileR bv pb, pileR av pa, .blk gk (.cells [cv, dv, .int .i64 (h.n)].toArray 31 (0, 0)), pileR cv qb, pileR dv qa, tabs, .rd vl 3 l.length (encs l), col 3 (dcol l)]) (fun (i, s', h, bv, av, pb, pa, cv, dv, qb, qa, gk) => HN h ∧ hsOf pb pa h.n = h ∧ hrOf qb qa h.n = h ∧ s'.size ≤ 2400 ∧ (dec s').length ≤ 600 ∧ i ≤ l.length) (fun (i, s', h, bv, av, pb, pa, cv, dv, qb, qa, gk) => l.length - i) ((0, s, ⟨[], [], (rcount s : Int)⟩, .slice none 0 0, .slice none 0 0, [], [], .slice none 0 0, .slice none 0 0, [], [], g31)) (⟨HN.new (by omega) (by omega), rfl, rfl, by omega, by omega, Nat.zero_le _⟩) ⟨rfl, rfl, rfl, rfl, rfl, rfl, trivial⟩ (fun _ h => h.pick8.pick8.pick8.pick3.pick4.pick5.pick8.pick8.pick8) ?_))))))))))))))
  rintro ⟨i, s', h, bv, av, pb, pa, cv, dv, qb, qa, gk⟩ ⟨hN, he, hk, hz, hc, hi⟩
  obtain ⟨hrb, hra, _, rlb, rla⟩ := hs_eq he
  obtain ⟨ll1, ll2⟩ := hr_lens he hk
  have krb : rn qb = h.back := congrArg HS.back hk
  have kra : rn qa = h.again := congrArg HS.again hk
  have hbl := hN.bl
  have hal := hN.al
  have hn0 := hN.n0
  show TC _ _ _ _ [(0, .string s'), (5, .pointer (some ⟨g2, 0, none⟩)), (6, .pointer (some ⟨gk, 0, none⟩)), (32, vl), (33, .int .i64 (l.length : Int)), (34, .int .i64 (i : Int))] _ _ ([.blk g2 (.cells [bv, av, .int .i64 h.n, .bool true].toArray 62 (0, 0)), pileR bv pb, pileR av pa, .blk gk (.cells [cv, dv, .int .i64 (h.n)].toArray 31 (0, 0)), pileR cv qb, pileR dv qa, tabs, .rd vl 3 l.length (encs l), col 3 (dcol l)])
  refine TC.seq (TC.region (TL.opP rfl (op_lss rfl rfl) (TL.nil (TQ.then (TC.seq ?_)))))
  refine TC.sp rfl (fun c2 => ?_) (fun c2 => ?_)
  ·have hkl0 : i < l.length := by omega
   obtain ⟨d, hdk⟩ : ∃ d, l.getD i default = d := ⟨_, rfl⟩
   have hdm : d ∈ l := by rw [← hdk, List.getD_eq_getElem?_getD, List.getElem?_eq_getElem hkl0]; exact List.getElem_mem hkl0
   have hme := dcol_mem hdm
   have hE := hr d hdm
   obtain ⟨hd1, hd2⟩ := hdo i hkl0
   rw [hdk] at hd1
   have hsmd : Sm d.e := ⟨hE.small, by omega⟩
   refine TC.skip (TQ.then (TC.seq (TC.block (TC.seq (TC.region (TL.opV rfl (op_index tsl_sealskinlaw17_Do rfl rd7 rfl (by omega) (by omega)) (TL.opV rfl (op_loadRS tst_sealskinlaw17_Do rfl rd7 (cs := [.int .i64 d.op, .int .i64 d.n, d.v]) rfl (lkS hkl0 hdk) (by decide)) ?_)))))))
   refine TL.opX rfl (OpX.alloc tz_sealskinlaw17_Do rfl) ?_; rintro _ _ ⟨g8, rfl, rfl⟩
   refine TL.opX0 (OpX.storeS tst_sealskinlaw17_Do rfl rfl rfl rfl rfl (by first | exact List.all_eq_true.1 rfl | exact do_one)) ?_; rintro _ _ rfl
   refine TL.nil (TQ.then (TC.seq (TC.region (TL.opP rfl (op_assign rfl) (TL.opP rfl (op_assign rfl) (TL.nil (TQ.then (TC.seq (TC.region (TL.opP rfl (op_assign rfl) (TL.opP rfl (op_assign rfl) (TL.nil (TQ.then (TC.seq (TC.region (TL.opP rfl (op_field fld_sealskinlaw17_Do_E rfl) (TL.opV rfl (op_load ts_sl_api_Part rfl m0 rfl) ?_)))))))))))))))))
   refine TL.opX rfl (OpX.callX en_8 rfl (clone_x d.e d.v (by omega) (Rdb.col (x := (d.v, d.e.length, encs d.e)) m9 hme))) ?_; rintro w3 _ ⟨_, rfl, rfl⟩
   refine TL.opP rfl (op_assign rfl) (TL.nil (TQ.then ?_))
   refine TC.join (ι := HS × Value × Value × List PE × List PE × Value × Value × List PE × List PE × Nat × Value × List Part × Value × List Part × Int) (fun (h2, bv2, av2, pb2, pa2, cv2, dv2, qb2, qa2, gj, va, ea, vb, eb, z) => [(0, .string s'), (5, .pointer (some ⟨g2, 0, none⟩)), (6, .pointer (some ⟨gj, 0, none⟩)), (8, .pointer (some ⟨g8, 0, none⟩)), (9, va), (10, vb), (11, .int .i64 z), (12, .int .i64 z), (13, w3), (32, vl), (33, .int .i64 (l.length : Int)), (34, .int .i64 (i : Int))]) (fun (h2, bv2, av2, pb2, pa2, cv2, dv2, qb2, qa2, gj, va, ea, vb, eb, z) => [.blk g2 (.cells [bv2, av2, .int .i64 h2.n, .bool true].toArray 62 (0, 0)), pileR bv2 pb2, pileR av2 pa2, .blk gj (.cells [cv2, dv2, .int .i64 (h2.n)].toArray 31 (0, 0)), pileR cv2 qb2, pileR dv2 qa2, .rd va 3 ea.length (encs ea), .rd vb 3 eb.length (encs eb), .row w3 38 3 d.e.length (encs d.e), .blk g8 (.cells [.int .i64 d.op, .int .i64 d.n, d.v].toArray 34 (0, 0)), tabs, .rd vl 3 l.length (encs l), col 3 (dcol l)]) (fun (h2, bv2, av2, pb2, pa2, cv2, dv2, qb2, qa2, gj, va, ea, vb, eb, z) => HN h2 ∧ hsOf pb2 pa2 h2.n = h2 ∧ hrOf qb2 qa2 h2.n = h2 ∧ small ea ∧ (vb = .slice none 0 0 ∨ eb = ea)) ?_ ?_
   ·refine TC.seq (TC.region (TL.opP rfl (op_field fld_sealskinlaw17_Do_Op rfl) (TL.opV rfl (op_load ts_int rfl m1 rfl) (TL.opP rfl (op_int un_uint rfl rfl) (TL.opP rfl (op_rem rfl rfl (u64_pos _) (by decide)) (TL.opP rfl (op_int un_int rfl rfl) ?_))))))
    obtain ⟨m, hm, hm6⟩ := mod6 d.op
    rw [hm]
    refine TL.nil (TQ.then (TC.block (TC.seq (TC.seq (TC.region (TL.opP rfl (op_eql rfl rfl) (TL.opP rfl (op_assign rfl) (TL.nil (TQ.then ?_)))))))))
    refine TC.sp rfl (fun c3 => ?_) (fun c3 => ?_)
    ·refine TC.skip (TQ.then (TC.condT rfl (TC.seq (TC.drawS ([.blk g8 (.cells [.int .i64 d.op, .int .i64 d.n, d.v].toArray 34 (0, 0))]) [] (.cons (.p, 0) (.cons (.p, 1) (.cons (.p, 2) (.cons (.p, 4) (.cons (.p, 5) (.cons (.p, 7) (.cons (.t, 6) (.cons (.o, 3) (.cons (.o, 8) (.cons (.p, 9) (.cons (.p, 10) (.nil)))))))))))) mo (by kernel_rfl) (TR.p rfl rfl wt0 (op_move rfl) (TR.p rfl rfl wt0 (op_move rfl) (TR.p rfl rfl wt0 (op_move rfl) (TR.p rfl rfl wt0 (op_move rfl) (TR.p rfl rfl wt0 (op_field fld_sealskinlaw17_Do_E rfl) (TR.p rfl rfl wt0 (op_move rfl) (TR.t rfl rfl wt0 (op_load ts_sl_api_Part rfl m0 rfl) (fun _ h => h.drop10.drop9.drop8.drop7.drop6.drop5.drop4.drop3.drop2.tail) (TR.hp (fun _ h => h.pick4.pick4.pick4) ?_))))))))))))
     refine TR.o rfl rfl wt0 (OpX.callX en_9 rfl (hmine_x d.e s' _ _ _ _ _ _ _ hsmd (by omega) (by omega) m5 rw0)) (by rintro _ _ ⟨bv4, av4, hn4, pb4, pa4, rfl, hh4, rfl⟩; intro w h; exact h.drop10.drop9.drop8.drop7.drop6.drop5.drop3.drop2.drop1.tail) ?_; rintro _ _ ⟨bv4, av4, hn4, pb4, pa4, rfl, hh4, rfl⟩
     refine TR.hp (fun _ h => h.pick7.pick7.pick7) ?_
     refine TR.o rfl rfl wt0 (OpX.callX en_10 rfl (kmine_x d.e s' _ _ _ _ _ _ _ hE.small (by omega) (by omega) (by omega) (Rdb.col (x := (d.v, d.e.length, encs d.e)) m7 hme))) (by rintro _ _ ⟨cv5, dv5, kn5, qb5, qa5, rfl, kh5, rfl⟩; intro w h; exact h.drop10.drop9.drop8.drop6.drop5.drop4.drop3.drop2.drop1.tail) ?_; rintro _ _ ⟨cv5, dv5, kn5, qb5, qa5, rfl, kh5, rfl⟩
     refine TR.p rfl rfl wt0 (op_assign rfl) (TR.p rfl rfl wt0 (op_assign rfl) ?_)
     rw [he] at hh4
     rw [he]
     rw [hk] at kh5
     rw [hk]
     have q1 := (hs_eq hh4).2.2.1
     subst q1
     have q2 : kn5 = _ := congrArg HS.n kh5
     subst q2
     refine TR.nil (TQ.then (TC.region (TL.opP rfl (op_field fld_sealskinlaw17_Do_E rfl) (TL.opV rfl (op_load ts_sl_api_Part rfl m7 rfl) (TL.opP rfl (op_assign rfl) (TL.hp (fun _ h => rd_nil 0 3 (rd_col (x := (d.v, d.e.length, encs d.e)) m10 hme h)) (TL.nil (TQ.block_normal ?_))))))))
     exact TQ.join (h.mine d.e s', bv4, av4, pb4, pa4, cv5, dv5, qb5, qa5, gk, d.v, d.e, .slice none 0 0, [], h.mineE d.e s') (⟨hN.mine (by omega), hh4, kh5, hE.small, .inl rfl⟩) ⟨rfl, rfl, rfl, rfl, rfl, rfl, rfl, rfl, rfl, rfl, rfl, rfl, trivial⟩ (fun _ h => h.pick12.pick12.pick12.pick12.pick12.pick5.pick6.pick9.pick9.pick9.pick12.pick12.pick12)
    ·refine TC.region (TL.opP rfl (op_eql rfl rfl) (TL.opP rfl (op_assign rfl) (TL.nil (TQ.then ?_))))
     refine TC.sp rfl (fun c4 => ?_) (fun c4 => ?_)
     ·refine TC.seq (TC.drawS ([.blk g8 (.cells [.int .i64 d.op, .int .i64 d.n, d.v].toArray 34 (0, 0))]) [] (.cons (.p, 0) (.cons (.p, 1) (.cons (.p, 2) (.cons (.p, 4) (.cons (.p, 5) (.cons (.p, 7) (.cons (.t, 6) (.cons (.o, 3) (.cons (.o, 8) (.cons (.p, 9) (.cons (.p, 10) (.nil)))))))))))) mo (by kernel_rfl) (TR.p rfl rfl wt0 (op_move rfl) (TR.p rfl rfl wt0 (op_move rfl) (TR.p rfl rfl wt0 (op_move rfl) (TR.p rfl rfl wt0 (op_move rfl) (TR.p rfl rfl wt0 (op_field fld_sealskinlaw17_Do_E rfl) (TR.p rfl rfl wt0 (op_move rfl) (TR.t rfl rfl wt0 (op_load ts_sl_api_Part rfl m0 rfl) (fun _ h => h.drop10.drop9.drop8.drop7.drop6.drop5.drop4.drop3.drop2.tail) (TR.hp (fun _ h => h.pick4.pick4.pick4) ?_)))))))))
      refine TR.o rfl rfl wt0 (OpX.callX en_9 rfl (hmine_x d.e s' _ _ _ _ _ _ _ hsmd (by omega) (by omega) m5 rw0)) (by rintro _ _ ⟨bv6, av6, hn6, pb6, pa6, rfl, hh6, rfl⟩; intro w h; exact h.drop10.drop9.drop8.drop7.drop6.drop5.drop3.drop2.drop1.tail) ?_; rintro _ _ ⟨bv6, av6, hn6, pb6, pa6, rfl, hh6, rfl⟩
      refine TR.hp (fun _ h => h.pick7.pick7.pick7) ?_
      refine TR.o rfl rfl wt0 (OpX.callX en_10 rfl (kmine_x d.e s' _ _ _ _ _ _ _ hE.small (by omega) (by omega) (by omega) (Rdb.col (x := (d.v, d.e.length, encs d.e)) m7 hme))) (by rintro _ _ ⟨cv7, dv7, kn7, qb7, qa7, rfl, kh7, rfl⟩; intro w h; exact h.drop10.drop9.drop8.drop6.drop5.drop4.drop3.drop2.drop1.tail) ?_; rintro _ _ ⟨cv7, dv7, kn7, qb7, qa7, rfl, kh7, rfl⟩
      refine TR.p rfl rfl wt0 (op_assign rfl) (TR.p rfl rfl wt0 (op_assign rfl) ?_)
      rw [he] at hh6
      rw [he]
      rw [hk] at kh7
      rw [hk]
      have q1 := (hs_eq hh6).2.2.1
      subst q1
      have q2 : kn7 = _ := congrArg HS.n kh7
      subst q2
      refine TR.nil (TQ.then (TC.region (TL.opP rfl (op_field fld_sealskinlaw17_Do_E rfl) (TL.opV rfl (op_load ts_sl_api_Part rfl m7 rfl) (TL.opP rfl (op_assign rfl) (TL.hp (fun _ h => rd_nil 0 3 (rd_col (x := (d.v, d.e.length, encs d.e)) m10 hme h)) (TL.nil (TQ.block_normal ?_))))))))
      exact TQ.join (h.mine d.e s', bv6, av6, pb6, pa6, cv7, dv7, qb7, qa7, gk, d.v, d.e, .slice none 0 0, [], h.mineE d.e s') (⟨hN.mine (by omega), hh6, kh7, hE.small, .inl rfl⟩) ⟨rfl, rfl, rfl, rfl, rfl, rfl, rfl, rfl, rfl, rfl, rfl, rfl, trivial⟩ (fun _ h => h.pick12.pick12.pick12.pick12.pick12.pick5.pick6.pick9.pick9.pick9.pick12.pick12.pick12)
     ·refine TC.seq (TC.region (TL.opP rfl (op_eql rfl rfl) (TL.opP rfl (op_assign rfl) (TL.nil (TQ.then ?_)))))
      refine TC.sp rfl (fun c5 => ?_) (fun c5 => ?_)
      ·refine TC.seq (TC.drawS ([.blk g8 (.cells [.int .i64 d.op, .int .i64 d.n, d.v].toArray 34 (0, 0))]) [] (.cons (.p, 0) (.cons (.p, 1) (.cons (.p, 3) (.cons (.p, 4) (.cons (.t, 5) (.cons (.o, 2) (.cons (.o, 6) (.cons (.p, 7) (.cons (.p, 8) (.nil)))))))))) mo (by kernel_rfl) (TR.p rfl rfl wt0 (op_move rfl) (TR.p rfl rfl wt0 (op_move rfl) (TR.p rfl rfl wt0 (op_move rfl) (TR.p rfl rfl wt0 (op_field fld_sealskinlaw17_Do_E rfl) (TR.t rfl rfl wt0 (op_load ts_sl_api_Part rfl m0 rfl) (fun _ h => h.drop10.drop9.drop8.drop7.drop6.drop5.drop4.drop3.drop2.tail) (TR.hp (fun _ h => h.pick4.pick4.pick4) ?_)))))))
       refine TR.o rfl rfl wt0 (OpX.callX en_11 rfl (htheirs_x d.e _ _ _ _ _ _ _ hsmd (by omega) (by omega) (fun c => (hN.asks he hk c).1) (fun c => (hN.asks he hk c).2.1) m5 rw0)) (by rintro _ _ ⟨bv8, av8, hn8, pb8, pa8, rfl, hh8, rfl⟩; intro w h; exact h.drop10.drop9.drop8.drop7.drop6.drop5.drop3.drop2.drop1.tail) ?_; rintro _ _ ⟨bv8, av8, hn8, pb8, pa8, rfl, hh8, rfl⟩
       refine TR.hp (fun _ h => h.pick7.pick7.pick7) ?_
       refine TR.o rfl rfl wt0 (OpX.callX en_12 rfl (ktheirs_x d.e _ _ _ _ _ _ _ hE.small (by omega) (by omega) (by omega) (fun c => (hN.asks he hk c).2.2.1) (fun c => (hN.asks he hk c).2.2.2) (Rdb.col (x := (d.v, d.e.length, encs d.e)) m7 hme))) (by rintro _ _ ⟨cv9, dv9, kn9, qb9, qa9, rfl, kh9, rfl⟩; intro w h; exact h.drop10.drop9.drop8.drop6.drop5.drop4.drop3.drop2.drop1.tail) ?_; rintro _ _ ⟨cv9, dv9, kn9, qb9, qa9, rfl, kh9, rfl⟩
       refine TR.p rfl rfl wt0 (op_assign rfl) (TR.p rfl rfl wt0 (op_assign rfl) ?_)
       rw [he] at hh8
       rw [he]
       rw [hk] at kh9
       rw [hk]
       have q1 := (hs_eq hh8).2.2.1
       subst q1
       have q2 : kn9 = _ := congrArg HS.n kh9
       subst q2
       refine TR.nil (TQ.then (TC.region (TL.opP rfl (op_field fld_sealskinlaw17_Do_E rfl) (TL.opV rfl (op_load ts_sl_api_Part rfl m7 rfl) (TL.opP rfl (op_assign rfl) (TL.hp (fun _ h => rd_nil 0 3 (rd_col (x := (d.v, d.e.length, encs d.e)) m10 hme h)) (TL.nil (TQ.block_normal ?_))))))))
       exact TQ.join (h.theirs d.e, bv8, av8, pb8, pa8, cv9, dv9, qb9, qa9, gk, d.v, d.e, .slice none 0 0, [], h.theirsE d.e) (⟨hN.theirs, hh8, kh9, hE.small, .inl rfl⟩) ⟨rfl, rfl, rfl, rfl, rfl, rfl, rfl, rfl, rfl, rfl, rfl, rfl, trivial⟩ (fun _ h => h.pick12.pick12.pick12.pick12.pick12.pick5.pick6.pick9.pick9.pick9.pick12.pick12.pick12)
      ·refine TC.seq (TC.region (TL.opP rfl (op_eql rfl rfl) (TL.opP rfl (op_assign rfl) (TL.nil (TQ.then ?_)))))
       refine TC.sp rfl (fun c6 => ?_) (fun c6 => ?_)
       ·refine TC.seq (TC.region (TL.opP rfl (op_move rfl) (TL.opP rfl (op_move rfl) (TL.hp (fun _ h => h.pick4.pick4.pick4) ?_))))
        refine TL.opX rfl (OpX.callX en_13 rfl (hundo_x s' _ _ _ _ _ _ (sm_sn (by rw [hrb]; exact hN.smb)) (by omega) (by omega) (by omega) m5)) ?_; rintro _ _ ⟨bv10, av10, hn10, pb10, pa10, ve10, rfl, hh10, rfl⟩
        refine TL.hp (fun _ h => row_rd h) (TL.opP rfl (op_move rfl) (TL.opP rfl (op_extract rfl rfl) (TL.opP rfl (op_extract rfl rfl) (TL.opP rfl (op_assign rfl) (TL.opP rfl (op_assign rfl) (TL.nil (TQ.then (TC.region (TL.opP rfl (op_move rfl) (TL.opP rfl (op_move rfl) (TL.hp (fun _ h => h.pick8.pick8.pick8) ?_)))))))))))
        refine TL.opX rfl (OpX.callX en_14 rfl (kundo_x s' _ _ _ _ _ _ hn0 (sm_rn krb hN.smb) (by omega) (by omega))) ?_; rintro _ _ ⟨cv11, dv11, kn11, qb11, qa11, yv11, rfl, kh11, rfl⟩
        refine TL.opP rfl (op_move rfl) (TL.opP rfl (op_extract rfl rfl) (TL.opP rfl (op_extract rfl rfl) (TL.opP rfl (op_assign rfl) (TL.opP rfl (op_assign rfl) ?_))))
        rw [he] at hh10
        rw [he]
        rw [hk] at kh11
        rw [hk]
        have q1 := (hs_eq hh10).2.2.1
        subst q1
        have q2 : kn11 = _ := congrArg HS.n kh11
        subst q2
        refine TL.nil (TQ.block_normal ?_)
        exact TQ.join (h.undo s', bv10, av10, pb10, pa10, cv11, dv11, qb11, qa11, gk, ve10, h.undoF s', yv11, h.undoF s', h.undoE s') (⟨hN.undo (by omega), hh10, kh11, (moveF_sm hN.smb).1, .inr rfl⟩) ⟨rfl, rfl, rfl, rfl, rfl, rfl, rfl, rfl, rfl, rfl, rfl, rfl, trivial⟩ (fun _ h => h.pick12.pick12.pick12.pick12.pick12.pick5.pick9.pick9.pick9.pick9.pick12.pick12.pick12)
       ·refine TC.seq (TC.region (TL.opP rfl (op_eql rfl rfl) (TL.opP rfl (op_assign rfl) (TL.nil (TQ.then ?_)))))
        refine TC.sp rfl (fun c7 => ?_) (fun c7 => ?_)
        ·refine TC.seq (TC.region (TL.opP rfl (op_move rfl) (TL.opP rfl (op_move rfl) (TL.hp (fun _ h => h.pick4.pick4.pick4) ?_))))
         refine TL.opX rfl (OpX.callX en_15 rfl (hredo_x s' _ _ _ _ _ _ (sm_sn (by rw [hra]; exact hN.sma)) (by omega) (by omega) (by omega) m5)) ?_; rintro _ _ ⟨bv12, av12, hn12, pb12, pa12, ve12, rfl, hh12, rfl⟩
         refine TL.hp (fun _ h => row_rd h) (TL.opP rfl (op_move rfl) (TL.opP rfl (op_extract rfl rfl) (TL.opP rfl (op_extract rfl rfl) (TL.opP rfl (op_assign rfl) (TL.opP rfl (op_assign rfl) (TL.nil (TQ.then (TC.region (TL.opP rfl (op_move rfl) (TL.opP rfl (op_move rfl) (TL.hp (fun _ h => h.pick8.pick8.pick8) ?_)))))))))))
         refine TL.opX rfl (OpX.callX en_16 rfl (kredo_x s' _ _ _ _ _ _ hn0 (sm_rn kra hN.sma) (by omega) (by omega))) ?_; rintro _ _ ⟨cv13, dv13, kn13, qb13, qa13, yv13, rfl, kh13, rfl⟩
         refine TL.opP rfl (op_move rfl) (TL.opP rfl (op_extract rfl rfl) (TL.opP rfl (op_extract rfl rfl) (TL.opP rfl (op_assign rfl) (TL.opP rfl (op_assign rfl) ?_))))
         rw [he] at hh12
         rw [he]
         rw [hk] at kh13
         rw [hk]
         have q1 := (hs_eq hh12).2.2.1
         subst q1
         have q2 : kn13 = _ := congrArg HS.n kh13
         subst q2
         refine TL.nil (TQ.block_normal ?_)
         exact TQ.join (h.redo s', bv12, av12, pb12, pa12, cv13, dv13, qb13, qa13, gk, ve12, h.redoF s', yv13, h.redoF s', h.redoE s') (⟨hN.redo (by omega), hh12, kh13, (moveF_sm hN.sma).1, .inr rfl⟩) ⟨rfl, rfl, rfl, rfl, rfl, rfl, rfl, rfl, rfl, rfl, rfl, rfl, trivial⟩ (fun _ h => h.pick12.pick12.pick12.pick12.pick12.pick5.pick9.pick9.pick9.pick9.pick12.pick12.pick12)
        ·refine TC.seq (TC.region (TL.opP rfl (op_move rfl) (TL.opP rfl (op_field fld_sealskinlaw17_Do_N rfl) (TL.opV rfl (op_load ts_int rfl m1 rfl) (TL.hp (fun _ h => h.pick4.pick4.pick4) ?_)))))
         refine TL.opX rfl (OpX.callX en_17 rfl (hclear_x d.n _ _ _ _ _ _)) ?_; rintro _ _ ⟨bv14, av14, hn14, pb14, pa14, rfl, hh14, rfl⟩
         refine TL.opP rfl (op_assign rfl) (TL.nil (TQ.then (TC.seq (TC.region (TL.opP rfl (op_assign rfl) (TL.nil (TQ.then (TC.seq (TC.region (TL.opP rfl (op_field fld_sealskinlaw17_Do_N rfl) (TL.opV rfl (op_load ts_int rfl m4 rfl) ?_)))))))))))
         refine TL.opX rfl (OpX.callX en_18 rfl (knew_x d.n)) ?_; rintro _ _ ⟨gn15, p15, rfl, hp15, rfl⟩
         refine TL.opP rfl (op_move rfl) (TL.opP rfl (op_extract rfl rfl) (TL.opP rfl (op_extract rfl rfl) (TL.opP rfl (op_assign rfl) (TL.opP rfl (op_assign rfl) (TL.nil (TQ.then (TC.seq (TC.region (TL.opP rfl (op_move rfl) (TL.opP rfl (op_eql rfl rfl) (TL.nil (TQ.then ?_))))))))))))
         refine TC.sp rfl (fun c8 => ?_) (fun c8 => ?_)
         ·have hb : ¬ BadN d.n := fun h => by rw [if_pos h] at c8; exact absurd c8 (by decide)
          rw [if_neg hb] at hh14
          obtain rfl := hp15 hb
          have q1 := (hs_eq hh14).2.2.1
          subst q1
          rw [if_neg (c := BadN d.n) (t := col 3 []) hb]
          rw [if_neg (c := BadN d.n) (t := (1 : Int)) hb]
          refine TC.region (TL.opP rfl (op_move rfl) (TL.opP rfl (op_assign rfl) (TL.opP rfl (op_assign rfl) (TL.hp (fun _ h => nil_pile (nil_pile (rd_nil 0 3 (rd_nil 0 3 h)))) (TL.nil (TQ.block_normal ?_))))))
          exact TQ.join (⟨[], [], d.n⟩, bv14, av14, pb14, pa14, .slice none 0 0, .slice none 0 0, [], [], gn15, .slice none 0 0, [], .slice none 0 0, [], 0) (⟨HN.new (by unfold BadN at hb; omega) (by unfold BadN at hb; omega), hh14, rfl, (fun _ h => by cases h), .inl rfl⟩) ⟨rfl, rfl, rfl, rfl, rfl, rfl, rfl, rfl, rfl, rfl, rfl, rfl, trivial⟩ (fun _ h => h.drop12.drop11.drop10.pick12.pick12.pick12.pick12.pick12.pick7.pick8.pick7.pick8.pick9.pick12.pick12.pick12)
         ·have hb : BadN d.n := Classical.byContradiction fun h => c8 (if_neg h)
          rw [if_pos hb] at hh14
          rw [he] at hh14
          have q1 := (hs_eq hh14).2.2.1
          subst q1
          rw [if_pos (c := BadN d.n) (t := (1 : Int)) hb]
          refine TC.hp (fun _ h => rd_nil 0 3 (rd_nil 0 3 h)) (TC.skip (TQ.block_normal ?_))
          exact TQ.join (h, bv14, av14, pb14, pa14, cv, dv, qb, qa, gk, .slice none 0 0, [], .slice none 0 0, [], 1) (⟨hN, hh14, hk, (fun _ h => by cases h), .inl rfl⟩) ⟨rfl, rfl, rfl, rfl, rfl, rfl, rfl, rfl, rfl, rfl, rfl, rfl, trivial⟩ (fun _ h => h.drop2.pick12.pick12.pick12.pick9.pick9.pick5.pick6.pick12.pick12.pick12.pick12.pick12.pick12)
   ·rintro ⟨h2, bv2, av2, pb2, pa2, cv2, dv2, qb2, qa2, gj, va, ea, vb, eb, z⟩ ⟨hN2, he2, hk2, hsa, hyb⟩
    obtain ⟨ll3, ll4⟩ := hr_lens he2 hk2
    show TC _ _ _ _ [(0, .string s'), (5, .pointer (some ⟨g2, 0, none⟩)), (6, .pointer (some ⟨gj, 0, none⟩)), (8, .pointer (some ⟨g8, 0, none⟩)), (9, va), (10, vb), (11, .int .i64 z), (12, .int .i64 z), (13, w3), (32, vl), (33, .int .i64 (l.length : Int)), (34, .int .i64 (i : Int))] _ _ ([.blk g2 (.cells [bv2, av2, .int .i64 h2.n, .bool true].toArray 62 (0, 0)), pileR bv2 pb2, pileR av2 pa2, .blk gj (.cells [cv2, dv2, .int .i64 (h2.n)].toArray 31 (0, 0)), pileR cv2 qb2, pileR dv2 qa2, .rd va 3 ea.length (encs ea), .rd vb 3 eb.length (encs eb), .row w3 38 3 d.e.length (encs d.e), .blk g8 (.cells [.int .i64 d.op, .int .i64 d.n, d.v].toArray 34 (0, 0)), tabs, .rd vl 3 l.length (encs l), col 3 (dcol l)])
    refine TC.seq (TC.seq (TC.region (TL.opP rfl (op_move rfl) (TL.opV rfl (op_lenV rfl un_sl_api_Part rfl rw8) (TL.opP rfl (op_move rfl) (TL.nil (TQ.then (TC.block (TC.loop (ι := Nat × List Value) (fun (j, xs) => [(0, .string s'), (5, .pointer (some ⟨g2, 0, none⟩)), (6, .pointer (some ⟨gj, 0, none⟩)), (8, .pointer (some ⟨g8, 0, none⟩)), (9, va), (10, vb), (11, .int .i64 z), (12, .int .i64 z), (13, w3), (32, vl), (33, .int .i64 (l.length : Int)), (34, .int .i64 (i : Int)), (113, .int .i64 (d.e.length : Int)), (114, .int .i64 (j : Int))]) (fun (j, xs) => [.blk g2 (.cells [bv2, av2, .int .i64 h2.n, .bool true].toArray 62 (0, 0)), pileR bv2 pb2, pileR av2 pa2, .blk gj (.cells [cv2, dv2, .int .i64 (h2.n)].toArray 31 (0, 0)), pileR cv2 qb2, pileR dv2 qa2, .rd va 3 ea.length (encs ea), .rd vb 3 eb.length (encs eb), .row w3 38 3 d.e.length (xs), .blk g8 (.cells [.int .i64 d.op, .int .i64 d.n, d.v].toArray 34 (0, 0)), tabs, .rd vl 3 l.length (encs l), col 3 (dcol l)]) (fun (j, xs) => j ≤ d.e.length ∧ xs.length = d.e.length * 3) (fun (j, xs) => d.e.length - j) ((0, encs d.e)) (⟨Nat.zero_le _, encs3 _⟩) ⟨rfl, rfl, rfl, rfl, rfl, rfl, rfl, rfl, rfl, rfl, rfl, rfl, rfl, rfl, trivial⟩ (fun _ h => h) ?_)))))))))
    rintro ⟨j, xs⟩ ⟨hj, hxl⟩
    show TC _ _ _ _ [(0, .string s'), (5, .pointer (some ⟨g2, 0, none⟩)), (6, .pointer (some ⟨gj, 0, none⟩)), (8, .pointer (some ⟨g8, 0, none⟩)), (9, va), (10, vb), (11, .int .i64 z), (12, .int .i64 z), (13, w3), (32, vl), (33, .int .i64 (l.length : Int)), (34, .int .i64 (i : Int)), (113, .int .i64 (d.e.length : Int)), (114, .int .i64 (j : Int))] _ _ ([.blk g2 (.cells [bv2, av2, .int .i64 h2.n, .bool true].toArray 62 (0, 0)), pileR bv2 pb2, pileR av2 pa2, .blk gj (.cells [cv2, dv2, .int .i64 (h2.n)].toArray 31 (0, 0)), pileR cv2 qb2, pileR dv2 qa2, .rd va 3 ea.length (encs ea), .rd vb 3 eb.length (encs eb), .row w3 38 3 d.e.length (xs), .blk g8 (.cells [.int .i64 d.op, .int .i64 d.n, d.v].toArray 34 (0, 0)), tabs, .rd vl 3 l.length (encs l), col 3 (dcol l)])
    refine TC.seq (TC.region (TL.opP rfl (op_lss rfl rfl) (TL.nil (TQ.then (TC.seq ?_)))))
    refine TC.sp rfl (fun c9 => ?_) (fun c9 => ?_)
    ·refine TC.skip (TQ.then (TC.seq (TC.block (TC.seq (TC.region (TL.opP rfl (op_move rfl) (TL.opP rfl (op_assign rfl) (TL.nil (TQ.then (TC.region (TL.opP rfl (op_move rfl) (TL.opP rfl (op_move rfl) (TL.opV rfl (op_index tsl_api_Part rfl rw8 rfl (by omega) (by omega)) (TL.opP rfl (op_fieldA fld_api_Part_N rfl) (TL.hp (fun _ h => h.pick8) ?_)))))))))))))))
     refine TL.opX0 (OpX.storeRow (k := 1) (fun w => by kernel_rfl) rfl rfl rfl (ys := [.int .i64 99]) rfl (by decide) (by first | exact List.all_eq_true.1 rfl | exact do_one) (by omega) rfl) ?_; rintro _ _ rfl
     refine TL.nil (TQ.block_normal (TQ.then (TC.region (TL.opP rfl (op_add rfl rfl rfl (by omega) (by omega)) (TL.opP rfl (op_move rfl) (TL.nil ?_))))))
     exact TQ.round (j + 1, xs.take (Int.toNat (j : Int) * 3 + 1) ++ [.int .i64 99] ++ xs.drop (Int.toNat (j : Int) * 3 + 1 + 1)) (by (try dsimp only); exact ⟨by omega, put99_len hxl (by omega)⟩) (by show d.e.length - (j + 1) < d.e.length - j; omega) ⟨rfl, rfl, rfl, rfl, rfl, rfl, rfl, rfl, rfl, rfl, rfl, rfl, rfl, rfl, trivial⟩ (fun _ h => h.pick12.pick12.pick12.pick12.pick4.pick12.pick12.pick12.pick12.pick12.pick12.pick12.pick12)
    ·refine TC.exit (TQ.then_exit (TQ.loop_exit (TQ.block_hit (TQ.then ?_))))
     refine TC.join1 [(0, .string s'), (5, .pointer (some ⟨g2, 0, none⟩)), (6, .pointer (some ⟨gj, 0, none⟩)), (8, .pointer (some ⟨g8, 0, none⟩)), (9, va), (11, .int .i64 z), (32, vl), (33, .int .i64 (l.length : Int)), (34, .int .i64 (i : Int))] ([.blk g2 (.cells [bv2, av2, .int .i64 h2.n, .bool true].toArray 62 (0, 0)), pileR bv2 pb2, pileR av2 pa2, .blk gj (.cells [cv2, dv2, .int .i64 (h2.n)].toArray 31 (0, 0)), pileR cv2 qb2, pileR dv2 qa2, .rd va 3 ea.length (encs ea), .blk g8 (.cells [.int .i64 d.op, .int .i64 d.n, d.v].toArray 34 (0, 0)), tabs, .rd vl 3 l.length (encs l), col 3 (dcol l)]) ?_ ?_
     ·refine TC.seq (TC.region (TL.opP rfl (op_move rfl) (TL.opP rfl (op_move rfl) (TL.opP rfl (op_neq rfl rfl) (TL.opP rfl (op_move rfl) ?_)))))
      refine TL.sp (fun c10 => ?_) (fun c10 => ?_)
      ·exact absurd rfl c10
      ·refine TL.gT rfl rfl (TL.opP rfl (op_move rfl) (TL.gT rfl rfl ?_))
       refine TL.opX rfl (OpX.neqNil rfl rd7 neq_nil_parts) ?_; rintro _ _ ⟨q16, rfl, hq16, rfl⟩
       refine TL.gT rfl rfl (TL.opP rfl (op_move rfl) ?_)
       refine TL.sp (fun c11 => ?_) (fun c11 => ?_)
       ·refine TL.gT rfl rfl (TL.opP rfl (op_move rfl) (TL.gT rfl rfl (TL.opP rfl (op_move rfl) (TL.gT rfl rfl (TL.callq rfl en_19 rfl (fun w2 hp => rsame_calls (ea) (eb) _ _ w2 (rd6 _ _ _ hp) (rd7 _ _ _ hp)) (TL.gT rfl rfl (TL.opP rfl (op_not rfl rfl) (TL.gT rfl rfl (TL.opP rfl (op_pickT rfl rfl) (TL.opP rfl (op_pickF rfl rfl) (TL.nil (TQ.then ?_))))))))))))
        refine TC.sp rfl (fun c12 => ?_) (fun c12 => ?_)
        ·exact absurd (hyb.resolve_left (hq16 c11)).symm c12
        ·refine TC.skip ?_
         exact TQ.join1 ⟨rfl, rfl, rfl, rfl, rfl, rfl, rfl, rfl, rfl, trivial⟩ (fun _ h => h.drop8.drop7)
       ·refine TL.gFf rfl rfl rfl (TL.gFf rfl rfl rfl (TL.gFf rfl rfl rfl (TL.gFf rfl rfl rfl (TL.gT rfl rfl (TL.opP rfl (op_pickF rfl rfl) (TL.opP rfl (op_pickF rfl rfl) (TL.nil (TQ.then (TC.condF rfl (TC.skip ?_))))))))))
        exact TQ.join1 ⟨rfl, rfl, rfl, rfl, rfl, rfl, rfl, rfl, rfl, trivial⟩ (fun _ h => h.drop8.drop7)
     ·refine TC.join (ι := ByteArray) (fun s2 => [(5, .pointer (some ⟨g2, 0, none⟩)), (6, .pointer (some ⟨gj, 0, none⟩)), (32, vl), (33, .int .i64 (l.length : Int)), (34, .int .i64 (i : Int)), (0, .string s2)]) (fun s2 => [.blk g2 (.cells [bv2, av2, .int .i64 h2.n, .bool true].toArray 62 (0, 0)), pileR bv2 pb2, pileR av2 pa2, .blk gj (.cells [cv2, dv2, .int .i64 (h2.n)].toArray 31 (0, 0)), pileR cv2 qb2, pileR dv2 qa2, tabs, .rd vl 3 l.length (encs l), col 3 (dcol l)]) (fun s2 => s2.size ≤ 2400 ∧ (dec s2).length ≤ 600) ?_ ?_
      ·refine TC.seq (TC.region (TL.opP rfl (op_move rfl) (TL.opP rfl (op_eql rfl rfl) (TL.opP rfl (op_move rfl) ?_))))
       refine TL.sp (fun c13 => ?_) (fun c13 => ?_)
       ·refine TL.gT rfl rfl (TL.opP rfl (op_field fld_sealskinlaw17_Do_Op rfl) (TL.gT rfl rfl (TL.opV rfl (op_load ts_int rfl m7 rfl) (TL.gT rfl rfl (TL.opP rfl (op_int un_uint rfl rfl) (TL.gT rfl rfl (TL.opP rfl (op_rem rfl rfl (u64_pos _) (by decide)) (TL.gT rfl rfl (TL.opP rfl (op_int un_int rfl rfl) (TL.gT rfl rfl (TL.opP rfl (op_lss rfl rfl) (TL.opP rfl (op_pickT rfl rfl) (TL.nil (TQ.then ?_))))))))))))))
        refine TC.sp rfl (fun c14 => ?_) (fun c14 => ?_)
        ·refine TC.seq (TC.region (TL.opP rfl (op_move rfl) (TL.opP rfl (op_move rfl) (TL.callq rfl en_20 rfl (fun w2 hp => apply_calls ea s' _ (by omega) w2 (tabs_at hp m8) hsa (rd6 _ _ _ hp)) (TL.opP rfl (op_move rfl) (TL.opP rfl (op_extract rfl rfl) (TL.opP rfl (op_extract rfl rfl) (TL.opP rfl (op_assign rfl) (TL.opP rfl (op_assign rfl) (TL.nil (TQ.then (TC.seq (TC.region (TL.opP rfl (op_move rfl) (TL.opP rfl (op_eql rfl rfl) (TL.opP rfl (op_move rfl) ?_))))))))))))))))
         refine TL.sp (fun c15 => ?_) (fun c15 => ?_)
         ·refine TL.gT rfl rfl (TL.opP rfl (op_move rfl) (TL.gT rfl rfl ?_))
          refine TL.callq rfl en_7 rfl (fun w2 hp => rcount_calls (applyF ea s') w2 (by have := app_size c15; omega)) ?_
          refine TL.gT rfl rfl (TL.opP rfl (op_leq rfl rfl) (TL.opP rfl (op_pickT rfl rfl) (TL.nil (TQ.then ?_))))
          refine TC.sp rfl (fun c16 => ?_) (fun c16 => ?_)
          ·obtain ⟨ap1, ap2⟩ := app_next c15 c16
           refine TC.region (TL.opP rfl (op_move rfl) (TL.opP rfl (op_assign rfl) (TL.nil ?_)))
           exact TQ.join (applyF ea s') (by first | exact ⟨ap2, ap1⟩ | exact ⟨hz, hc⟩) ⟨rfl, rfl, rfl, rfl, rfl, rfl, trivial⟩ (fun _ h => h.drop7.drop6)
          ·refine TC.skip ?_
           exact TQ.join (s') (by first | exact ⟨ap2, ap1⟩ | exact ⟨hz, hc⟩) ⟨rfl, rfl, rfl, rfl, rfl, rfl, trivial⟩ (fun _ h => h.drop7.drop6)
         ·refine TL.gFf rfl rfl rfl (TL.gFf rfl rfl rfl (TL.gFf rfl rfl rfl (TL.opP rfl (op_pickF rfl rfl) (TL.nil (TQ.then (TC.condF rfl (TC.skip ?_)))))))
          exact TQ.join (s') (by first | exact ⟨ap2, ap1⟩ | exact ⟨hz, hc⟩) ⟨rfl, rfl, rfl, rfl, rfl, rfl, trivial⟩ (fun _ h => h.drop7.drop6)
        ·refine TC.skip ?_
         exact TQ.join (s') (by first | exact ⟨ap2, ap1⟩ | exact ⟨hz, hc⟩) ⟨rfl, rfl, rfl, rfl, rfl, rfl, trivial⟩ (fun _ h => h.drop7.drop6)
       ·refine TL.gFf rfl rfl rfl (TL.gFf rfl rfl rfl (TL.gFf rfl rfl rfl (TL.gFf rfl rfl rfl (TL.gFf rfl rfl rfl (TL.gFf rfl rfl rfl (TL.opP rfl (op_pickF rfl rfl) (TL.nil (TQ.then (TC.condF rfl (TC.skip ?_))))))))))
        exact TQ.join (s') (by first | exact ⟨ap2, ap1⟩ | exact ⟨hz, hc⟩) ⟨rfl, rfl, rfl, rfl, rfl, rfl, trivial⟩ (fun _ h => h.drop7.drop6)
      ·rintro s2 ⟨hz2, hc2⟩
       refine TC.seq (TC.region (TL.opP rfl (op_move rfl) ?_))
       refine TL.opX rfl (OpX.callX en_21 rfl (hlen_x _ _ _ _ _ _)) ?_; rintro _ _ ⟨rfl, rfl⟩
       refine TL.opP rfl (op_move rfl) (TL.opP rfl (op_extract rfl rfl) (TL.opP rfl (op_extract rfl rfl) (TL.opP rfl (op_assign rfl) (TL.opP rfl (op_assign rfl) (TL.nil (TQ.then (TC.seq (TC.draw [] (.cons (.p, 0) (.cons (.p, 1) (.cons (.p, 2) (.cons (.p, 3) (.cons (.t, 4) (.cons (.t, 5) (.cons (.p, 6) (.cons (.p, 7) (.cons (.p, 8) (.cons (.p, 9) (.cons (.p, 10) (.cons (.p, 11) (.cons (.t, 12) (.cons (.t, 13) (.cons (.p, 14) (.cons (.p, 15) (.cons (.p, 16) (.cons (.p, 17) (.cons (.p, 19) (.cons (.p, 20) (.cons (.p, 21) (.cons (.t, 22) (.cons (.o, 18) (.cons (.p, 23) (.cons (.p, 24) (.nil)))))))))))))))))))))))))) mo (by kernel_rfl) (TR.p rfl rfl wt0 (op_move rfl) (TR.p rfl rfl wt0 (op_move rfl) (TR.p rfl rfl wt0 (op_nilCheck rfl) ?_)))))))))))
       refine TR.p rfl rfl wt0 (op_field fld_sealskinref17_History_Back rfl) (TR.t rfl rfl wt0 (op_load ts_sl_sl_api_Part rfl m3 rfl) (fun _ h => h) (TR.t rfl rfl wt0 (op_lenV rfl un_sl_sl_api_Part rfl (Src.pile m4).rdb) (fun _ h => h) (TR.p rfl rfl wt0 (op_neq rfl rfl) (TR.p rfl rfl wt0 (op_move rfl) ?_))))
       refine TR.sp (fun c17 => ?_) (fun c17 => ?_)
       ·exact absurd (by rw [ll3]) c17
       ·refine TR.p rfl rfl (by exact wtT rfl rfl) (op_move rfl) (TR.p rfl rfl (by exact wtT rfl rfl) (op_move rfl) (TR.p rfl rfl (by exact wtT rfl rfl) (op_nilCheck rfl) (TR.p rfl rfl (by exact wtT rfl rfl) (op_field fld_sealskinref17_History_Again rfl) (TR.t rfl rfl (by exact wtT rfl rfl) (op_load ts_sl_sl_api_Part rfl m3 rfl) (fun _ h => h) (TR.t rfl rfl (by exact wtT rfl rfl) (op_lenV rfl un_sl_sl_api_Part rfl (Src.pile m5).rdb) (fun _ h => h) (TR.p rfl rfl (by exact wtT rfl rfl) (op_neq rfl rfl) (TR.p rfl rfl wt0 (op_pickF rfl rfl) (TR.p rfl rfl wt0 (op_move rfl) ?_))))))))
        refine TR.sp (fun c18 => ?_) (fun c18 => ?_)
        ·exact absurd (by rw [ll4]) c18
        ·refine TR.p rfl rfl (by exact wtT rfl rfl) (op_move rfl) (TR.p rfl rfl (by exact wtT rfl rfl) (op_move rfl) (TR.p rfl rfl (by exact wtT rfl rfl) (op_nilCheck rfl) (TR.p rfl rfl (by exact wtT rfl rfl) (op_field fld_sealskinref17_History_N rfl) (TR.t rfl rfl (by exact wtT rfl rfl) (op_load ts_int rfl m3 rfl) (fun _ h => h) ?_))))
         refine TR.o rfl rfl (by exact wtT rfl rfl) (OpX.callX en_22 rfl (hsize_x _ _ _ _)) (by rintro _ _ ⟨rfl, rfl⟩; intro w h; exact h) ?_; rintro _ _ ⟨rfl, rfl⟩
         refine TR.p rfl rfl (by exact wtT rfl rfl) (op_neq rfl rfl) (TR.p rfl rfl wt0 (op_pickF rfl rfl) (TR.nil (TQ.then ?_)))
         refine TC.sp rfl (fun c19 => ?_) (fun c19 => ?_)
         ·exact absurd rfl c19
         ·refine TC.skip (TQ.block_normal (TQ.then (TC.region (TL.opP rfl (op_add rfl rfl rfl (by omega) (by omega)) (TL.opP rfl (op_move rfl) (TL.nil ?_))))))
          exact TQ.round (i + 1, s2, h2, bv2, av2, pb2, pa2, cv2, dv2, qb2, qa2, gj) (by (try dsimp only); exact ⟨hN2, he2, hk2, hz2, hc2, by omega⟩) (by show l.length - (i + 1) < l.length - i; omega) ⟨rfl, rfl, rfl, rfl, rfl, rfl, trivial⟩ (fun _ h => h)
  ·refine TC.exit (TQ.then_exit (TQ.loop_exit (TQ.block_hit (TQ.then (TC.seq (TC.region (TL.callq rfl en_5 rfl (fun w2 hp => uawake_calls w2 (tabs_at hp m6)) (TL.opP rfl (op_assign rfl) (TL.nil (TQ.then (TC.ret ?_)))))))))))
   refine ret1 rfl rfl (fun w' hp => ?_)
   exact ⟨rfl, hp.kp⟩

end Go.SK
