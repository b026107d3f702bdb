/- Walks: transformation. -/
import Derived.Test.YtgklklmcmdcpgaaDoorE5
import Derived.Test.YtgklklmcmdcpgaaDoorP2
set_option linter.unusedVariables false
set_option linter.unusedSimpArgs false
set_option maxRecDepth 100000
namespace Go.SK
open Go Go.RowKit Go.Proofs
variable {S : Nat → Prop} {w0 : World} {F L : List Res}
theorem transform_x (a b : List Part) (va vb : Value) (hsa : ∀ p ∈ a, p.text.size < 9223372036854775807) (hsb : ∀ p ∈ b, p.text.size < 9223372036854775807) (hla : a.length ≤ 137438953472) (hlb : b.length ≤ 137438953472) (hT : tabs ∈ L) (ra : Rdb L va 3 a.length (encs a)) (rb : Rdb L vb 3 b.length (encs b)) :
    CallX Tryd.prog 47 [va, vb] S w0 (L) (fun u L' => ∃ v1 v2, u = .tuple #[v1, v2, .int .i64 (trE a b)] ∧ L' = .row v1 47 3 (trF1 a b).length (encs (trF1 a b)) :: .row v2 47 3 (trF2 a b).length (encs (trF2 a b)) :: L) := by
  intro w hp
  refine calls_start Tryd.func47 rfl rfl rfl (hp) ?_
  refine TC.seq ?_
  refine TC.region ?_   -- region 0 edit.go:219
  refine TL.opP rfl (op_assign rfl) ?_
  refine TL.opP rfl (op_assign rfl) ?_
  refine TL.opP rfl (op_assign rfl) ?_
  refine TL.nil ?_
  refine TQ.then ?_
  refine TC.seq ?_
  refine TC.region ?_   -- region 1 edit.go:220
  refine TL.opP rfl (op_move rfl) ?_
  refine TL.callq rfl en_58 rfl (fun w2 hp => sizes_calls a va w2 (tabs_at hp hT) hsa (ra _ _ _ hp)) ?_
  refine TL.opP rfl (op_move rfl) ?_
  refine TL.opP rfl (op_extract rfl rfl) ?_
  refine TL.opP rfl (op_extract rfl rfl) ?_
  refine TL.opP rfl (op_extract rfl rfl) ?_
  refine TL.opP rfl (op_assign rfl) ?_
  refine TL.opP rfl (op_assign rfl) ?_
  refine TL.opP rfl (op_assign rfl) ?_
  refine TL.nil ?_
  refine TQ.then ?_
  refine TC.seq ?_
  refine TC.seq ?_
  refine TC.region ?_   -- region 2 edit.go:221
  refine TL.opP rfl (op_move rfl) ?_
  refine TL.callq rfl en_58 rfl (fun w2 hp => sizes_calls b vb w2 (tabs_at hp hT) hsb (rb _ _ _ hp)) ?_
  refine TL.opP rfl (op_move rfl) ?_
  refine TL.opP rfl (op_extract rfl rfl) ?_
  refine TL.opP rfl (op_extract rfl rfl) ?_
  refine TL.opP rfl (op_extract rfl rfl) ?_
  refine TL.opP rfl (op_assign rfl) ?_
  refine TL.opP rfl (op_assign rfl) ?_
  refine TL.opP rfl (op_assign rfl) ?_
  refine TL.nil ?_
  refine TQ.then ?_
  refine TC.seq ?_
  refine TC.region ?_   -- region 3 edit.go:221
  refine TL.opP rfl (op_move rfl) ?_
  refine TL.opP rfl (op_not rfl rfl) ?_
  refine TL.opP rfl (op_move rfl) ?_
  first | refine TL.splitD (fun c1 => ?_) (fun c1 => ?_) | refine TL.splitB (fun c1 => ?_) (fun c1 => ?_)
  · refine TL.gFt rfl rfl rfl ?_
    refine TL.gFt rfl rfl rfl ?_
    refine TL.opP rfl (op_pickT rfl rfl) ?_
    refine TL.opP rfl (op_move rfl) ?_
    refine TL.gFt rfl rfl rfl ?_
    refine TL.gFt rfl rfl rfl ?_
    refine TL.gFt rfl rfl rfl ?_
    refine TL.opP rfl (op_pickT rfl rfl) ?_
    refine TL.nil ?_
    refine TQ.then ?_
    refine TC.condT rfl ?_
    refine TC.seq ?_
    refine TC.region ?_   -- region 4 edit.go:222
    refine TL.opP rfl (op_assign rfl) ?_
    refine TL.opP rfl (op_assign rfl) ?_
    refine TL.opP rfl (op_assign rfl) ?_
    refine TL.nil ?_
    refine TQ.then ?_
    refine TC.ret ?_
    refine TQ.then_ret ?_
    refine ret3 rfl rfl rfl rfl (fun w' hp => ?_)
    first
      | (have hbad : trBad a b := by (unfold trBad; grind)
         exact ⟨_, _, rfl, ⟨.slice none 0 0, .slice none 0 0, by rw [(tr_bad hbad).1], by rw [(tr_bad hbad).2.1, (tr_bad hbad).2.2]; rfl⟩, new_nil _ 3 (new_nil _ 3 (hp))⟩)
      | (have hlong : trLong a b := by (unfold trLong; grind)
         exact ⟨_, _, rfl, ⟨.slice none 0 0, .slice none 0 0, by rw [(tr_long hok hlong).1], by rw [(tr_long hok hlong).2.1, (tr_long hok hlong).2.2]; rfl⟩, new_nil _ 3 (new_nil _ 3 (hp))⟩)
      | (have hlong : ¬ trLong a b := by (unfold trLong; grind)
         exact ⟨_, _, rfl, ⟨«v:mr?», «v:or?», by rw [(tr_ok hok hlong).1]; first | done | rfl, by rw [(tr_ok hok hlong).2.1, (tr_ok hok hlong).2.2, List.length_reverse, List.length_reverse]⟩, (hp)⟩)
  · refine TL.gT rfl rfl ?_
    refine TL.opP rfl (op_move rfl) ?_
    refine TL.gT rfl rfl ?_
    refine TL.opP rfl (op_not rfl rfl) ?_
    refine TL.opP rfl (op_pickF rfl rfl) ?_
    refine TL.opP rfl (op_move rfl) ?_
    first | refine TL.splitD (fun c2 => ?_) (fun c2 => ?_) | refine TL.splitB (fun c2 => ?_) (fun c2 => ?_)
    · refine TL.gFt rfl rfl rfl ?_
      refine TL.gFt rfl rfl rfl ?_
      refine TL.gFt rfl rfl rfl ?_
      refine TL.opP rfl (op_pickT rfl rfl) ?_
      refine TL.nil ?_
      refine TQ.then ?_
      refine TC.condT rfl ?_
      refine TC.seq ?_
      refine TC.region ?_   -- region 4 edit.go:222
      refine TL.opP rfl (op_assign rfl) ?_
      refine TL.opP rfl (op_assign rfl) ?_
      refine TL.opP rfl (op_assign rfl) ?_
      refine TL.nil ?_
      refine TQ.then ?_
      refine TC.ret ?_
      refine TQ.then_ret ?_
      refine ret3 rfl rfl rfl rfl (fun w' hp => ?_)
      first
        | (have hbad : trBad a b := by (unfold trBad; grind)
           exact ⟨_, _, rfl, ⟨.slice none 0 0, .slice none 0 0, by rw [(tr_bad hbad).1], by rw [(tr_bad hbad).2.1, (tr_bad hbad).2.2]; rfl⟩, new_nil _ 3 (new_nil _ 3 (hp))⟩)
        | (have hlong : trLong a b := by (unfold trLong; grind)
           exact ⟨_, _, rfl, ⟨.slice none 0 0, .slice none 0 0, by rw [(tr_long hok hlong).1], by rw [(tr_long hok hlong).2.1, (tr_long hok hlong).2.2]; rfl⟩, new_nil _ 3 (new_nil _ 3 (hp))⟩)
        | (have hlong : ¬ trLong a b := by (unfold trLong; grind)
           exact ⟨_, _, rfl, ⟨«v:mr?», «v:or?», by rw [(tr_ok hok hlong).1]; first | done | rfl, by rw [(tr_ok hok hlong).2.1, (tr_ok hok hlong).2.2, List.length_reverse, List.length_reverse]⟩, (hp)⟩)
    · refine TL.gT rfl rfl ?_
      refine TL.opP rfl (op_move rfl) ?_
      refine TL.gT rfl rfl ?_
      refine TL.opP rfl (op_move rfl) ?_
      refine TL.gT rfl rfl ?_
      refine TL.opP rfl (op_neq rfl rfl) ?_
      refine TL.opP rfl (op_pickF rfl rfl) ?_
      refine TL.nil ?_
      refine TQ.then ?_
      first | refine TC.condD rfl (fun c3 => ?_) (fun c3 => ?_) | refine TC.condB rfl (fun c3 => ?_) (fun c3 => ?_)
      · refine TC.seq ?_
        refine TC.region ?_   -- region 4 edit.go:222
        refine TL.opP rfl (op_assign rfl) ?_
        refine TL.opP rfl (op_assign rfl) ?_
        refine TL.opP rfl (op_assign rfl) ?_
        refine TL.nil ?_
        refine TQ.then ?_
        refine TC.ret ?_
        refine TQ.then_ret ?_
        refine ret3 rfl rfl rfl rfl (fun w' hp => ?_)
        first
          | (have hbad : trBad a b := by (unfold trBad; grind)
             exact ⟨_, _, rfl, ⟨.slice none 0 0, .slice none 0 0, by rw [(tr_bad hbad).1], by rw [(tr_bad hbad).2.1, (tr_bad hbad).2.2]; rfl⟩, new_nil _ 3 (new_nil _ 3 (hp))⟩)
          | (have hlong : trLong a b := by (unfold trLong; grind)
             exact ⟨_, _, rfl, ⟨.slice none 0 0, .slice none 0 0, by rw [(tr_long hok hlong).1], by rw [(tr_long hok hlong).2.1, (tr_long hok hlong).2.2]; rfl⟩, new_nil _ 3 (new_nil _ 3 (hp))⟩)
          | (have hlong : ¬ trLong a b := by (unfold trLong; grind)
             exact ⟨_, _, rfl, ⟨«v:mr?», «v:or?», by rw [(tr_ok hok hlong).1]; first | done | rfl, by rw [(tr_ok hok hlong).2.1, (tr_ok hok hlong).2.2, List.length_reverse, List.length_reverse]⟩, (hp)⟩)
      · have hok : ¬ trBad a b := by unfold trBad; grind
        have hst := TInv.start hok hla hlb
        refine TC.skip ?_
        refine TQ.then ?_
        refine TC.seq ?_
        refine TC.region ?_   -- region 5 edit.go:224
        refine TL.opX rfl (OpX.alloc tz_edit_maker rfl) ?_; rintro _ _ ⟨g13, rfl, rfl⟩
        refine TL.hp (fun _ h => new_nil 47 3 h) ?_
        refine TL.opX rfl (OpX.alloc tz_edit_maker rfl) ?_; rintro _ _ ⟨g14, rfl, rfl⟩
        refine TL.hp (fun _ h => new_nil 47 3 h) ?_
        refine TL.nil ?_
        refine TQ.then ?_
        refine TC.seq ?_
        refine TC.region ?_   -- region 6 edit.go:225
        refine TL.opP rfl (op_move rfl) ?_
        refine TL.opX rfl (OpX.callX en_65 rfl (over_x a va (fits_small hst.fx) (by omega) ra.cons.cons.cons.cons)) ?_; rintro _ _ ⟨gx1, vlx1, vtx1, rfl, rfl⟩
        refine TL.opP rfl (op_move rfl) ?_
        refine TL.opX rfl (OpX.callX en_65 rfl (over_x b vb (fits_small hst.fy) (by omega) rb.cons.cons.cons.cons.cons.cons.cons)) ?_; rintro _ _ ⟨gy2, vly2, vty2, rfl, rfl⟩
        refine TL.opP rfl (op_assign rfl) ?_
        refine TL.opP rfl (op_assign rfl) ?_
        refine TL.nil ?_
        refine TQ.then ?_
        refine TC.seq ?_
        refine TC.block ?_
        refine TC.loop (ι := Nat × List Part × List Part × List Part × List Part × List Part × List Int × List Part × List Int × Value × Value × Value × Value × Value × Value) (fun (f, xs, ys, r, o, lx, tx, ly, ty, mv, ov, vlx, vtx, vly, vty) => [(13, .pointer (some ⟨g13, 0, none⟩)), (14, .pointer (some ⟨g14, 0, none⟩)), (15, .pointer (some ⟨gx1, 0, none⟩)), (16, .pointer (some ⟨gy2, 0, none⟩))]) (fun (f, xs, ys, r, o, lx, tx, ly, ty, mv, ov, vlx, vtx, vly, vty) => .blk g13 (.cells [mv].toArray 63 (0, 0)) :: .row mv 47 3 r.length (encs r.reverse) :: .blk g14 (.cells [ov].toArray 63 (0, 0)) :: .row ov 47 3 o.length (encs o.reverse) :: .blk gx1 (.cells [vlx, vtx].toArray 96 (0, 0)) :: .win vlx 47 3 lx.length (encs lx) :: .rd vtx 1 tx.length (tx.map (Value.int .i32)) :: .blk gy2 (.cells [vly, vty].toArray 96 (0, 0)) :: .win vly 47 3 ly.length (encs ly) :: .rd vty 1 ty.length (ty.map (Value.int .i32)) :: L) (fun (f, xs, ys, r, o, lx, tx, ly, ty, mv, ov, vlx, vtx, vly, vty) => TInv (trR1 a b) (trR2 a b) f xs ys r o lx tx ly ty) (fun (f, xs, ys, r, o, lx, tx, ly, ty, mv, ov, vlx, vtx, vly, vty) => f) ((a.length + b.length, a, b, [], [], a, loadT a [], b, loadT b [], .slice none 0 0, .slice none 0 0, vlx1, vtx1, vly2, vty2)) (hst) ⟨rfl, rfl, rfl, rfl, trivial⟩ (fun _ h => h.pick2.pick2.pick2.pick5.pick5.pick5.pick6.pick7.pick8.pick9) ?_
        rintro ⟨f, xs, ys, r, o, lx, tx, ly, ty, mv, ov, vlx, vtx, vly, vty⟩ (hI : TInv (trR1 a b) (trR2 a b) f xs ys r o lx tx ly ty)
        show TC _ _ _ _ [(13, .pointer (some ⟨g13, 0, none⟩)), (14, .pointer (some ⟨g14, 0, none⟩)), (15, .pointer (some ⟨gx1, 0, none⟩)), (16, .pointer (some ⟨gy2, 0, none⟩))] _ _ (.blk g13 (.cells [mv].toArray 63 (0, 0)) :: .row mv 47 3 r.length (encs r.reverse) :: .blk g14 (.cells [ov].toArray 63 (0, 0)) :: .row ov 47 3 o.length (encs o.reverse) :: .blk gx1 (.cells [vlx, vtx].toArray 96 (0, 0)) :: .win vlx 47 3 lx.length (encs lx) :: .rd vtx 1 tx.length (tx.map (Value.int .i32)) :: .blk gy2 (.cells [vly, vty].toArray 96 (0, 0)) :: .win vly 47 3 ly.length (encs ly) :: .rd vty 1 ty.length (ty.map (Value.int .i32)) :: L)
        refine TC.seq ?_
        refine TC.join1 [(13, .pointer (some ⟨g13, 0, none⟩)), (14, .pointer (some ⟨g14, 0, none⟩)), (15, .pointer (some ⟨gx1, 0, none⟩)), (16, .pointer (some ⟨gy2, 0, none⟩)), (57, .bool (decide (kindL lx ≠ 0 ∨ kindL ly ≠ 0)))] (.blk g13 (.cells [mv].toArray 63 (0, 0)) :: .row mv 47 3 r.length (encs r.reverse) :: .blk g14 (.cells [ov].toArray 63 (0, 0)) :: .row ov 47 3 o.length (encs o.reverse) :: .blk gx1 (.cells [vlx, vtx].toArray 96 (0, 0)) :: .win vlx 47 3 lx.length (encs lx) :: .rd vtx 1 tx.length (tx.map (Value.int .i32)) :: .blk gy2 (.cells [vly, vty].toArray 96 (0, 0)) :: .win vly 47 3 ly.length (encs ly) :: .rd vty 1 ty.length (ty.map (Value.int .i32)) :: L) ?_ ?_
        · refine TC.region ?_   -- region 7 edit.go:226
          refine TL.opP rfl (op_move rfl) ?_
          refine TL.hp (fun _ h => h.pick6.pick6.pick6) ?_
          refine TL.opX rfl (OpX.callX en_66 rfl (kind_x _ _ _ _ _)) ?_; rintro _ _ ⟨rfl, rfl⟩
          refine TL.opP rfl (op_neq rfl rfl) ?_
          refine TL.opP rfl (op_move rfl) ?_
          first | refine TL.splitD (fun c4 => ?_) (fun c4 => ?_) | refine TL.splitB (fun c4 => ?_) (fun c4 => ?_)
          · refine TL.gFt rfl rfl rfl ?_
            refine TL.gFt rfl rfl rfl ?_
            refine TL.gFt rfl rfl rfl ?_
            refine TL.opP rfl (op_pickT rfl rfl) ?_
            refine TL.nil ?_
            exact TQ.join1 ⟨rfl, rfl, rfl, rfl, gb rfl (by grind), trivial⟩ (fun _ h => h.pick9.pick9.pick9.pick5.pick5.pick5.pick9.pick9.pick9.pick9)
          · refine TL.gT rfl rfl ?_
            refine TL.opP rfl (op_move rfl) ?_
            refine TL.gT rfl rfl ?_
            refine TL.hp (fun _ h => h.pick9.pick9.pick9) ?_
            refine TL.opX rfl (OpX.callX en_66 rfl (kind_x _ _ _ _ _)) ?_; rintro _ _ ⟨rfl, rfl⟩
            refine TL.gT rfl rfl ?_
            refine TL.opP rfl (op_neq rfl rfl) ?_
            refine TL.opP rfl (op_pickF rfl rfl) ?_
            refine TL.nil ?_
            exact TQ.join1 ⟨rfl, rfl, rfl, rfl, gb rfl (by grind), trivial⟩ (fun _ h => h.pick2.pick2.pick2.pick5.pick5.pick5.pick9.pick9.pick9.pick9)
        · first | refine TC.condD rfl (fun c5 => ?_) (fun c5 => ?_) | refine TC.condB rfl (fun c5 => ?_) (fun c5 => ?_)
          · refine TC.skip ?_
            refine TQ.then ?_
            refine TC.block ?_
            refine TC.block ?_
            refine TC.seq ?_
            refine TC.region ?_   -- region 14 edit.go:228
            refine TL.opP rfl (op_move rfl) ?_
            refine TL.hp (fun _ h => h.pick6.pick6.pick6) ?_
            refine TL.opX rfl (OpX.callX en_66 rfl (kind_x _ _ _ _ _)) ?_; rintro _ _ ⟨rfl, rfl⟩
            refine TL.opP rfl (op_eql rfl rfl) ?_
            refine TL.opP rfl (op_assign rfl) ?_
            refine TL.nil ?_
            refine TQ.then ?_
            first | refine TC.condD rfl (fun c6 => ?_) (fun c6 => ?_) | refine TC.condB rfl (fun c6 => ?_) (fun c6 => ?_)
            · obtain ⟨q, l, rfl, hq, hmb, hmo, f', xs', hlt, hc⟩ := hI.stepX c6
              refine TC.seq ?_
              refine TC.region ?_   -- region 15 edit.go:229
              refine TL.opP rfl (op_move rfl) ?_
              refine TL.opP rfl (op_move rfl) ?_
              refine TL.opX rfl (OpX.callX en_68 rfl (left_x _ _ _ _ _ _)) ?_; rintro _ _ ⟨rfl, rfl⟩
              refine TL.opX rfl (OpX.callX en_67 rfl (take_x q l _ (q.n) _ _ _ hq.n0 hq.n1 hq.n2 hq.tx hq.hs)) ?_; rintro _ _ ⟨rfl, vlx7, vtx7, rfl⟩
              refine TL.opX rfl (OpX.alloc tz_api_Part rfl) ?_; rintro _ _ ⟨g17, rfl, rfl⟩
              refine TL.opX0 (OpX.storeS tst_api_Part rfl rfl rfl rfl rfl (List.all_eq_true.1 rfl)) ?_; rintro _ _ rfl
              refine TL.nil ?_
              refine TQ.then ?_
              refine TC.seq ?_
              refine TC.region ?_   -- region 16 edit.go:230
              refine TL.opV rfl (op_loadS tst_api_Part rfl m0 rfl) ?_
              refine TL.opX rfl (OpX.buildSlice (ps := #[(0, _)]) rfl (bs_api_Part_1 (takeQ q tx q.n))) ?_; rintro _ _ ⟨g90, rfl, rfl⟩
              refine TL.hp (fun _ h => blk_row (k := 3) (m := 1) h rfl (by decide)) ?_
              refine TL.hp (fun _ h => h.pick6.pick6) ?_
              refine TL.opX rfl (OpX.callX en_52 rfl (add_x [takeQ q tx q.n] r _ _ _ hmb rw0)) ?_; rintro _ _ ⟨rfl, mv8, rfl⟩
              refine TL.nil ?_
              refine TQ.then ?_
              refine TC.region ?_   -- region 17 edit.go:231
              refine TL.opP rfl (op_field fld_api_Part_N rfl) ?_
              refine TL.opV rfl (op_load ts_int rfl m3 rfl) ?_
              refine TL.callq rfl en_53 rfl (fun w2 hp => keep_calls _ w2) ?_
              refine TL.opX rfl (OpX.buildSlice (ps := #[(0, _)]) rfl (bs_api_Part_1 (keepP q.n))) ?_; rintro _ _ ⟨g95, rfl, rfl⟩
              refine TL.hp (fun _ h => blk_row (k := 3) (m := 1) h rfl (by decide)) ?_
              refine TL.hp (fun _ h => h.pick9.pick9) ?_
              refine TL.opX rfl (OpX.callX en_52 rfl (add_x [keepP q.n] o _ _ _ hmo rw0)) ?_; rintro _ _ ⟨rfl, ov9, rfl⟩
              refine TL.nil ?_
              refine TQ.block_normal ?_
              refine TQ.block_normal ?_
              exact TQ.round (f', _, _, (addRs r [takeQ q tx q.n]), (addRs o [keepP q.n]), (takeL q l (q.n)), (takeT q l tx (q.n)), ly, ty, mv8, ov9, vlx7, vtx7, vly, vty) (by first | exact hc | (rw [if_pos (show p.kind = 1 from c8), if_pos (show q.kind = 1 from c9)] at hc; exact hc) | (rw [if_pos (show p.kind = 1 from c8), if_neg (show ¬ q.kind = 1 from c9)] at hc; exact hc) | (rw [if_neg (show ¬ p.kind = 1 from c8), if_pos (show q.kind = 1 from c10)] at hc; exact hc) | (rw [if_neg (show ¬ p.kind = 1 from c8), if_neg (show ¬ q.kind = 1 from c10)] at hc; exact hc)) (hlt) ⟨rfl, rfl, rfl, rfl, trivial⟩ (fun _ h => h.drop6.drop5.drop2.pick9.pick9.pick9.pick9.pick9.pick9.pick7.pick7.pick9.pick9)
            · refine TC.seq ?_
              refine TC.region ?_   -- region 18 edit.go:232
              refine TL.opP rfl (op_move rfl) ?_
              refine TL.hp (fun _ h => h.pick9.pick9.pick9) ?_
              refine TL.opX rfl (OpX.callX en_66 rfl (kind_x _ _ _ _ _)) ?_; rintro _ _ ⟨rfl, rfl⟩
              refine TL.opP rfl (op_eql rfl rfl) ?_
              refine TL.opP rfl (op_assign rfl) ?_
              refine TL.nil ?_
              refine TQ.then ?_
              first | refine TC.condD rfl (fun c7 => ?_) (fun c7 => ?_) | refine TC.condB rfl (fun c7 => ?_) (fun c7 => ?_)
              · obtain ⟨p, l', rfl, hq, hmb, hmo, f', ys', hlt, hc⟩ := hI.stepY c6 c7
                refine TC.seq ?_
                refine TC.region ?_   -- region 19 edit.go:233
                refine TL.opP rfl (op_move rfl) ?_
                refine TL.opP rfl (op_move rfl) ?_
                refine TL.opX rfl (OpX.callX en_68 rfl (left_x _ _ _ _ _ _)) ?_; rintro _ _ ⟨rfl, rfl⟩
                refine TL.opX rfl (OpX.callX en_67 rfl (take_x p l' _ (p.n) _ _ _ hq.n0 hq.n1 hq.n2 hq.tx hq.hs)) ?_; rintro _ _ ⟨rfl, vly12, vty12, rfl⟩
                refine TL.opX rfl (OpX.alloc tz_api_Part rfl) ?_; rintro _ _ ⟨g18, rfl, rfl⟩
                refine TL.opX0 (OpX.storeS tst_api_Part rfl rfl rfl rfl rfl (List.all_eq_true.1 rfl)) ?_; rintro _ _ rfl
                refine TL.nil ?_
                refine TQ.then ?_
                refine TC.seq ?_
                refine TC.region ?_   -- region 20 edit.go:234
                refine TL.opP rfl (op_field fld_api_Part_N rfl) ?_
                refine TL.opV rfl (op_load ts_int rfl m0 rfl) ?_
                refine TL.callq rfl en_53 rfl (fun w2 hp => keep_calls _ w2) ?_
                refine TL.opX rfl (OpX.buildSlice (ps := #[(0, _)]) rfl (bs_api_Part_1 (keepP p.n))) ?_; rintro _ _ ⟨g108, rfl, rfl⟩
                refine TL.hp (fun _ h => blk_row (k := 3) (m := 1) h rfl (by decide)) ?_
                refine TL.hp (fun _ h => h.pick9.pick9) ?_
                refine TL.opX rfl (OpX.callX en_52 rfl (add_x [keepP p.n] r _ _ _ hmb rw0)) ?_; rintro _ _ ⟨rfl, mv13, rfl⟩
                refine TL.nil ?_
                refine TQ.then ?_
                refine TC.region ?_   -- region 21 edit.go:235
                refine TL.opV rfl (op_loadS tst_api_Part rfl m3 rfl) ?_
                refine TL.opX rfl (OpX.buildSlice (ps := #[(0, _)]) rfl (bs_api_Part_1 (takeQ p ty p.n))) ?_; rintro _ _ ⟨g111, rfl, rfl⟩
                refine TL.hp (fun _ h => blk_row (k := 3) (m := 1) h rfl (by decide)) ?_
                refine TL.hp (fun _ h => h.pick12.pick12) ?_
                refine TL.opX rfl (OpX.callX en_52 rfl (add_x [takeQ p ty p.n] o _ _ _ hmo rw0)) ?_; rintro _ _ ⟨rfl, ov14, rfl⟩
                refine TL.nil ?_
                refine TQ.block_normal ?_
                refine TQ.block_normal ?_
                exact TQ.round (f', _, _, (addRs r [keepP p.n]), (addRs o [takeQ p ty p.n]), lx, tx, (takeL p l' (p.n)), (takeT p l' ty (p.n)), mv13, ov14, vlx, vtx, vly12, vty12) (by first | exact hc | (rw [if_pos (show p.kind = 1 from c8), if_pos (show q.kind = 1 from c9)] at hc; exact hc) | (rw [if_pos (show p.kind = 1 from c8), if_neg (show ¬ q.kind = 1 from c9)] at hc; exact hc) | (rw [if_neg (show ¬ p.kind = 1 from c8), if_pos (show q.kind = 1 from c10)] at hc; exact hc) | (rw [if_neg (show ¬ p.kind = 1 from c8), if_neg (show ¬ q.kind = 1 from c10)] at hc; exact hc)) (hlt) ⟨rfl, rfl, rfl, rfl, trivial⟩ (fun _ h => h.drop6.drop5.drop2.pick6.pick6.pick6.pick9.pick9.pick9.pick7.pick7.pick9.pick9)
              · obtain ⟨q, l, p, l', rfl, rfl, hq, hp', hmb, hmo, f', xs', ys', hlt, hc⟩ := hI.stepB c5 c6 c7
                refine TC.seq ?_
                refine TC.region ?_   -- region 8 edit.go:237
                refine TL.opP rfl (op_move rfl) ?_
                refine TL.hp (fun _ h => h.pick5.pick5.pick5) ?_
                refine TL.opX rfl (OpX.callX en_68 rfl (left_x _ _ _ _ _ _)) ?_; rintro _ _ ⟨rfl, rfl⟩
                refine TL.opP rfl (op_move rfl) ?_
                refine TL.hp (fun _ h => h.pick5.pick5.pick5) ?_
                refine TL.opX rfl (OpX.callX en_68 rfl (left_x _ _ _ _ _ _)) ?_; rintro _ _ ⟨rfl, rfl⟩
                refine TL.opP rfl (op_min rfl) ?_
                refine TL.opP rfl (op_assign rfl) ?_
                refine TL.nil ?_
                refine TQ.then ?_
                refine TC.seq ?_
                refine TC.region ?_   -- region 9 edit.go:238
                refine TL.opP rfl (op_move rfl) ?_
                refine TL.opP rfl (op_move rfl) ?_
                refine TL.hp (fun _ h => h.pick5.pick5.pick5) ?_
                refine TL.opX rfl (OpX.callX en_67 rfl (take_x q l _ (minI q.n p.n) _ _ _ hq.n0 hq.n1 hq.n2 hq.tx hq.hs)) ?_; rintro _ _ ⟨rfl, vlx17, vtx17, rfl⟩
                refine TL.opP rfl (op_move rfl) ?_
                refine TL.opP rfl (op_move rfl) ?_
                refine TL.hp (fun _ h => h.pick5.pick5.pick5) ?_
                refine TL.opX rfl (OpX.callX en_67 rfl (take_x p l' _ (minI q.n p.n) _ _ _ hp'.n0 hp'.n1 hp'.n2 hp'.tx hp'.hs)) ?_; rintro _ _ ⟨rfl, vly18, vty18, rfl⟩
                refine TL.opX rfl (OpX.alloc tz_api_Part rfl) ?_; rintro _ _ ⟨g20, rfl, rfl⟩
                refine TL.opX rfl (OpX.alloc tz_api_Part rfl) ?_; rintro _ _ ⟨g21, rfl, rfl⟩
                refine TL.hp (fun _ h => h.pick1) ?_
                refine TL.opX0 (OpX.storeS tst_api_Part rfl rfl rfl rfl rfl (List.all_eq_true.1 rfl)) ?_; rintro _ _ rfl
                refine TL.hp (fun _ h => h.pick1) ?_
                refine TL.opX0 (OpX.storeS tst_api_Part rfl rfl rfl rfl rfl (List.all_eq_true.1 rfl)) ?_; rintro _ _ rfl
                refine TL.nil ?_
                refine TQ.then ?_
                refine TC.seq ?_
                refine TC.seq ?_
                refine TC.region ?_   -- region 10 edit.go:239
                refine TL.opP rfl (op_field fld_api_Part_Kind rfl) ?_
                refine TL.opV rfl (op_load ts_int rfl m0 rfl) ?_
                refine TL.opP rfl (op_eql rfl rfl) ?_
                refine TL.nil ?_
                refine TQ.then ?_
                first | refine TC.condD rfl (fun c8 => ?_) (fun c8 => ?_) | refine TC.condB rfl (fun c8 => ?_) (fun c8 => ?_)
                · refine TC.region ?_   -- region 11 edit.go:240
                  refine TL.opV rfl (op_loadS tst_api_Part rfl m1 rfl) ?_
                  refine TL.opX rfl (OpX.buildSlice (ps := #[(0, _)]) rfl (bs_api_Part_1 (takeQ q tx (minI q.n p.n)))) ?_; rintro _ _ ⟨g73, rfl, rfl⟩
                  refine TL.hp (fun _ h => blk_row (k := 3) (m := 1) h rfl (by decide)) ?_
                  refine TL.hp (fun _ h => h.pick10.pick10) ?_
                  refine TL.opX rfl (OpX.callX en_52 rfl (add_x [takeQ q tx (minI q.n p.n)] r _ _ _ hmb rw0)) ?_; rintro _ _ ⟨rfl, mv19, rfl⟩
                  refine TL.nil ?_
                  refine TQ.then ?_
                  refine TC.seq ?_
                  refine TC.region ?_   -- region 12 edit.go:242
                  refine TL.opP rfl (op_field fld_api_Part_Kind rfl) ?_
                  refine TL.opV rfl (op_load ts_int rfl m4 rfl) ?_
                  refine TL.opP rfl (op_eql rfl rfl) ?_
                  refine TL.nil ?_
                  refine TQ.then ?_
                  first | refine TC.condD rfl (fun c9 => ?_) (fun c9 => ?_) | refine TC.condB rfl (fun c9 => ?_) (fun c9 => ?_)
                  · refine TC.region ?_   -- region 13 edit.go:243
                    refine TL.opV rfl (op_loadS tst_api_Part rfl m3 rfl) ?_
                    refine TL.opX rfl (OpX.buildSlice (ps := #[(0, _)]) rfl (bs_api_Part_1 (takeQ p ty (minI q.n p.n)))) ?_; rintro _ _ ⟨g79, rfl, rfl⟩
                    refine TL.hp (fun _ h => blk_row (k := 3) (m := 1) h rfl (by decide)) ?_
                    refine TL.hp (fun _ h => h.pick13.pick13) ?_
                    refine TL.opX rfl (OpX.callX en_52 rfl (add_x [takeQ p ty (minI q.n p.n)] o _ _ _ hmo rw0)) ?_; rintro _ _ ⟨rfl, ov20, rfl⟩
                    refine TL.nil ?_
                    refine TQ.block_normal ?_
                    refine TQ.block_normal ?_
                    exact TQ.round (f', _, _, (addRs r [takeQ q tx (minI q.n p.n)]), (addRs o [takeQ p ty (minI q.n p.n)]), (takeL q l (minI q.n p.n)), (takeT q l tx (minI q.n p.n)), (takeL p l' (minI q.n p.n)), (takeT p l' ty (minI q.n p.n)), mv19, ov20, vlx17, vtx17, vly18, vty18) (by first | exact hc | (rw [if_pos (show p.kind = 1 from c8), if_pos (show q.kind = 1 from c9)] at hc; exact hc) | (rw [if_pos (show p.kind = 1 from c8), if_neg (show ¬ q.kind = 1 from c9)] at hc; exact hc) | (rw [if_neg (show ¬ p.kind = 1 from c8), if_pos (show q.kind = 1 from c10)] at hc; exact hc) | (rw [if_neg (show ¬ p.kind = 1 from c8), if_neg (show ¬ q.kind = 1 from c10)] at hc; exact hc)) (hlt) ⟨rfl, rfl, rfl, rfl, trivial⟩ (fun _ h => h.drop7.drop6.drop5.drop2.pick6.pick6.pick6.pick9.pick9.pick9.pick7.pick7.pick9.pick9)
                  · refine TC.skip ?_
                    refine TQ.block_normal ?_
                    refine TQ.block_normal ?_
                    exact TQ.round (f', _, _, (addRs r [takeQ q tx (minI q.n p.n)]), o, (takeL q l (minI q.n p.n)), (takeT q l tx (minI q.n p.n)), (takeL p l' (minI q.n p.n)), (takeT p l' ty (minI q.n p.n)), mv19, ov, vlx17, vtx17, vly18, vty18) (by first | exact hc | (rw [if_pos (show p.kind = 1 from c8), if_pos (show q.kind = 1 from c9)] at hc; exact hc) | (rw [if_pos (show p.kind = 1 from c8), if_neg (show ¬ q.kind = 1 from c9)] at hc; exact hc) | (rw [if_neg (show ¬ p.kind = 1 from c8), if_pos (show q.kind = 1 from c10)] at hc; exact hc) | (rw [if_neg (show ¬ p.kind = 1 from c8), if_neg (show ¬ q.kind = 1 from c10)] at hc; exact hc)) (hlt) ⟨rfl, rfl, rfl, rfl, trivial⟩ (fun _ h => h.drop4.drop3.drop2.pick4.pick4.pick4.pick7.pick7.pick7.pick9.pick9.pick9.pick9)
                · refine TC.skip ?_
                  refine TQ.then ?_
                  refine TC.seq ?_
                  refine TC.region ?_   -- region 12 edit.go:242
                  refine TL.opP rfl (op_field fld_api_Part_Kind rfl) ?_
                  refine TL.opV rfl (op_load ts_int rfl m1 rfl) ?_
                  refine TL.opP rfl (op_eql rfl rfl) ?_
                  refine TL.nil ?_
                  refine TQ.then ?_
                  first | refine TC.condD rfl (fun c10 => ?_) (fun c10 => ?_) | refine TC.condB rfl (fun c10 => ?_) (fun c10 => ?_)
                  · refine TC.region ?_   -- region 13 edit.go:243
                    refine TL.opV rfl (op_loadS tst_api_Part rfl m0 rfl) ?_
                    refine TL.opX rfl (OpX.buildSlice (ps := #[(0, _)]) rfl (bs_api_Part_1 (takeQ p ty (minI q.n p.n)))) ?_; rintro _ _ ⟨g79, rfl, rfl⟩
                    refine TL.hp (fun _ h => blk_row (k := 3) (m := 1) h rfl (by decide)) ?_
                    refine TL.hp (fun _ h => h.pick12.pick12) ?_
                    refine TL.opX rfl (OpX.callX en_52 rfl (add_x [takeQ p ty (minI q.n p.n)] o _ _ _ hmo rw0)) ?_; rintro _ _ ⟨rfl, ov21, rfl⟩
                    refine TL.nil ?_
                    refine TQ.block_normal ?_
                    refine TQ.block_normal ?_
                    exact TQ.round (f', _, _, r, (addRs o [takeQ p ty (minI q.n p.n)]), (takeL q l (minI q.n p.n)), (takeT q l tx (minI q.n p.n)), (takeL p l' (minI q.n p.n)), (takeT p l' ty (minI q.n p.n)), mv, ov21, vlx17, vtx17, vly18, vty18) (by first | exact hc | (rw [if_pos (show p.kind = 1 from c8), if_pos (show q.kind = 1 from c9)] at hc; exact hc) | (rw [if_pos (show p.kind = 1 from c8), if_neg (show ¬ q.kind = 1 from c9)] at hc; exact hc) | (rw [if_neg (show ¬ p.kind = 1 from c8), if_pos (show q.kind = 1 from c10)] at hc; exact hc) | (rw [if_neg (show ¬ p.kind = 1 from c8), if_neg (show ¬ q.kind = 1 from c10)] at hc; exact hc)) (hlt) ⟨rfl, rfl, rfl, rfl, trivial⟩ (fun _ h => h.drop4.drop3.drop2.pick4.pick4.pick4.pick7.pick7.pick7.pick7.pick7.pick9.pick9)
                  · refine TC.skip ?_
                    refine TQ.block_normal ?_
                    refine TQ.block_normal ?_
                    exact TQ.round (f', _, _, r, o, (takeL q l (minI q.n p.n)), (takeT q l tx (minI q.n p.n)), (takeL p l' (minI q.n p.n)), (takeT p l' ty (minI q.n p.n)), mv, ov, vlx17, vtx17, vly18, vty18) (by first | exact hc | (rw [if_pos (show p.kind = 1 from c8), if_pos (show q.kind = 1 from c9)] at hc; exact hc) | (rw [if_pos (show p.kind = 1 from c8), if_neg (show ¬ q.kind = 1 from c9)] at hc; exact hc) | (rw [if_neg (show ¬ p.kind = 1 from c8), if_pos (show q.kind = 1 from c10)] at hc; exact hc) | (rw [if_neg (show ¬ p.kind = 1 from c8), if_neg (show ¬ q.kind = 1 from c10)] at hc; exact hc)) (hlt) ⟨rfl, rfl, rfl, rfl, trivial⟩ (fun _ h => h.drop1.tail.pick2.pick2.pick2.pick5.pick5.pick5.pick9.pick9.pick9.pick9)
          · obtain ⟨rfl, rfl⟩ : r = trR1 a b ∧ o = trR2 a b := hI.stop (by omega) (by omega)
            refine TC.exit ?_
            refine TQ.then_exit ?_
            refine TQ.loop_exit ?_
            refine TQ.block_hit ?_
            refine TQ.then ?_
            refine TC.seq ?_
            refine TC.region ?_   -- region 22 edit.go:247
            refine TL.opX rfl (OpX.callX en_63 rfl (done_x _ _ _ hI.texts.1 (.tail _ (.tail _ (.tail _ (.tail _ (.tail _ (.tail _ (.tail _ (.tail _ hT)))))))))) ?_; rintro _ _ ⟨rfl, rfl⟩
            refine TL.opP rfl (op_move rfl) ?_
            refine TL.opP rfl (op_extract rfl rfl) ?_
            refine TL.opP rfl (op_extract rfl rfl) ?_
            refine TL.opP rfl (op_assign rfl) ?_
            refine TL.opP rfl (op_assign rfl) ?_
            refine TL.nil ?_
            refine TQ.then ?_
            refine TC.seq ?_
            refine TC.region ?_   -- region 23 edit.go:248
            refine TL.hp (fun _ h => h.pick3.pick3) ?_
            refine TL.opX rfl (OpX.callX en_63 rfl (done_x _ _ _ hI.texts.2 (.tail _ (.tail _ (.tail _ (.tail _ (.tail _ (.tail _ (.tail _ (.tail _ hT)))))))))) ?_; rintro _ _ ⟨rfl, rfl⟩
            refine TL.opP rfl (op_move rfl) ?_
            refine TL.opP rfl (op_extract rfl rfl) ?_
            refine TL.opP rfl (op_extract rfl rfl) ?_
            refine TL.opP rfl (op_assign rfl) ?_
            refine TL.opP rfl (op_assign rfl) ?_
            refine TL.nil ?_
            refine TQ.then ?_
            refine TC.seq ?_
            refine TC.seq ?_
            refine TC.region ?_   -- region 24 edit.go:249
            refine TL.opP rfl (op_move rfl) ?_
            refine TL.opP rfl (op_not rfl rfl) ?_
            refine TL.opP rfl (op_move rfl) ?_
            first | refine TL.splitD (fun c11 => ?_) (fun c11 => ?_) | refine TL.splitB (fun c11 => ?_) (fun c11 => ?_)
            · refine TL.gFt rfl rfl rfl ?_
              refine TL.gFt rfl rfl rfl ?_
              refine TL.opP rfl (op_pickT rfl rfl) ?_
              refine TL.nil ?_
              refine TQ.then ?_
              refine TC.condT rfl ?_
              refine TC.seq ?_
              refine TC.region ?_   -- region 25 edit.go:250
              refine TL.opP rfl (op_assign rfl) ?_
              refine TL.opP rfl (op_assign rfl) ?_
              refine TL.opP rfl (op_assign rfl) ?_
              refine TL.nil ?_
              refine TQ.then ?_
              refine TC.ret ?_
              refine TQ.then_ret ?_
              refine ret3 rfl rfl rfl rfl (fun w' hp => ?_)
              first
                | (have hbad : trBad a b := by (unfold trBad; grind)
                   exact ⟨_, _, rfl, ⟨.slice none 0 0, .slice none 0 0, by rw [(tr_bad hbad).1], by rw [(tr_bad hbad).2.1, (tr_bad hbad).2.2]; rfl⟩, new_nil _ 3 (new_nil _ 3 (hp.drop9.drop8.drop7.drop6.drop5.drop4.drop3.drop2.drop1.tail))⟩)
                | (have hlong : trLong a b := by (unfold trLong; grind)
                   exact ⟨_, _, rfl, ⟨.slice none 0 0, .slice none 0 0, by rw [(tr_long hok hlong).1], by rw [(tr_long hok hlong).2.1, (tr_long hok hlong).2.2]; rfl⟩, new_nil _ 3 (new_nil _ 3 (hp.drop9.drop8.drop7.drop6.drop5.drop4.drop3.drop2.drop1.tail))⟩)
                | (have hlong : ¬ trLong a b := by (unfold trLong; grind)
                   exact ⟨_, _, rfl, ⟨mv, ov, by rw [(tr_ok hok hlong).1]; first | done | rfl, by rw [(tr_ok hok hlong).2.1, (tr_ok hok hlong).2.2, List.length_reverse, List.length_reverse]⟩, (hp.drop9.drop8.drop7.drop6.drop5.drop4.drop3.drop2.drop1.tail)⟩)
            · refine TL.gT rfl rfl ?_
              refine TL.opP rfl (op_move rfl) ?_
              refine TL.gT rfl rfl ?_
              refine TL.opP rfl (op_not rfl rfl) ?_
              refine TL.opP rfl (op_pickF rfl rfl) ?_
              refine TL.nil ?_
              refine TQ.then ?_
              first | refine TC.condD rfl (fun c12 => ?_) (fun c12 => ?_) | refine TC.condB rfl (fun c12 => ?_) (fun c12 => ?_)
              · refine TC.seq ?_
                refine TC.region ?_   -- region 25 edit.go:250
                refine TL.opP rfl (op_assign rfl) ?_
                refine TL.opP rfl (op_assign rfl) ?_
                refine TL.opP rfl (op_assign rfl) ?_
                refine TL.nil ?_
                refine TQ.then ?_
                refine TC.ret ?_
                refine TQ.then_ret ?_
                refine ret3 rfl rfl rfl rfl (fun w' hp => ?_)
                first
                  | (have hbad : trBad a b := by (unfold trBad; grind)
                     exact ⟨_, _, rfl, ⟨.slice none 0 0, .slice none 0 0, by rw [(tr_bad hbad).1], by rw [(tr_bad hbad).2.1, (tr_bad hbad).2.2]; rfl⟩, new_nil _ 3 (new_nil _ 3 (hp.drop9.drop8.drop7.drop6.drop5.drop4.drop3.drop2.drop1.tail))⟩)
                  | (have hlong : trLong a b := by (unfold trLong; grind)
                     exact ⟨_, _, rfl, ⟨.slice none 0 0, .slice none 0 0, by rw [(tr_long hok hlong).1], by rw [(tr_long hok hlong).2.1, (tr_long hok hlong).2.2]; rfl⟩, new_nil _ 3 (new_nil _ 3 (hp.drop9.drop8.drop7.drop6.drop5.drop4.drop3.drop2.drop1.tail))⟩)
                  | (have hlong : ¬ trLong a b := by (unfold trLong; grind)
                     exact ⟨_, _, rfl, ⟨mv, ov, by rw [(tr_ok hok hlong).1]; first | done | rfl, by rw [(tr_ok hok hlong).2.1, (tr_ok hok hlong).2.2, List.length_reverse, List.length_reverse]⟩, (hp.drop9.drop8.drop7.drop6.drop5.drop4.drop3.drop2.drop1.tail)⟩)
              · refine TC.skip ?_
                refine TQ.then ?_
                refine TC.seq ?_
                refine TC.region ?_   -- region 26 edit.go:252
                refine TL.opP rfl (op_move rfl) ?_
                refine TL.opP rfl (op_move rfl) ?_
                refine TL.opP rfl (op_assign rfl) ?_
                refine TL.opP rfl (op_assign rfl) ?_
                refine TL.opP rfl (op_assign rfl) ?_
                refine TL.nil ?_
                refine TQ.then ?_
                refine TC.ret ?_
                refine ret3 rfl rfl rfl rfl (fun w' hp => ?_)
                first
                  | (have hbad : trBad a b := by (unfold trBad; grind)
                     exact ⟨_, _, rfl, ⟨.slice none 0 0, .slice none 0 0, by rw [(tr_bad hbad).1], by rw [(tr_bad hbad).2.1, (tr_bad hbad).2.2]; rfl⟩, new_nil _ 3 (new_nil _ 3 (hp.drop9.drop8.drop7.drop6.drop5.drop4.drop2.tail.pick1))⟩)
                  | (have hlong : trLong a b := by (unfold trLong; grind)
                     exact ⟨_, _, rfl, ⟨.slice none 0 0, .slice none 0 0, by rw [(tr_long hok hlong).1], by rw [(tr_long hok hlong).2.1, (tr_long hok hlong).2.2]; rfl⟩, new_nil _ 3 (new_nil _ 3 (hp.drop9.drop8.drop7.drop6.drop5.drop4.drop2.tail.pick1))⟩)
                  | (have hlong : ¬ trLong a b := by (unfold trLong; grind)
                     exact ⟨_, _, rfl, ⟨mv, ov, by rw [(tr_ok hok hlong).1]; first | done | rfl, by rw [(tr_ok hok hlong).2.1, (tr_ok hok hlong).2.2, List.length_reverse, List.length_reverse]⟩, (hp.drop9.drop8.drop7.drop6.drop5.drop4.drop2.tail.pick1)⟩)

end Go.SK
