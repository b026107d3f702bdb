/- Walks: composition. -/
import Derived.Test.YtgklklmcmdcpgaaDoorE4
import Derived.Test.YtgklklmcmdcpgaaDoorP1
set_option linter.unusedVariables false
set_option linter.unusedSimpArgs false
set_option maxRecDepth 100000
namespace Go.SK
open Go Go.RowKit Go.Proofs
variable {S : Nat → Prop} {w0 : World} {F L : List Res}
theorem compose_x (a b : List Part) (va vb : Value) (hsa : ∀ p ∈ a, p.text.size < 9223372036854775807) (hsb : ∀ p ∈ b, p.text.size < 9223372036854775807) (hla : a.length ≤ 137438953472) (hlb : b.length ≤ 137438953472) (hT : tabs ∈ L) (ra : Rdb L va 3 a.length (encs a)) (rb : Rdb L vb 3 b.length (encs b)) :
    CallX Tryd.prog 45 [va, vb] S w0 (L) (fun u L' => ∃ v', u = .tuple #[v', .int .i64 (compE a b)] ∧ L' = .row v' 47 3 (compF a b).length (encs (compF a b)) :: L) := by
  intro w hp
  refine calls_start Tryd.func45 rfl rfl rfl (hp) ?_
  refine TC.seq ?_
  refine TC.region ?_   -- region 0 edit.go:187
  refine TL.opP rfl (op_assign rfl) ?_
  refine TL.opP rfl (op_assign rfl) ?_
  refine TL.nil ?_
  refine TQ.then ?_
  refine TC.seq ?_
  refine TC.region ?_   -- region 1 edit.go:188
  refine TL.opP rfl (op_move rfl) ?_
  refine TL.callq rfl en_58 rfl (fun w2 hp => sizes_calls a va w2 (tabs_at hp hT) hsa (ra _ _ _ hp)) ?_
  refine TL.opP rfl (op_move rfl) ?_
  refine TL.opP rfl (op_extract rfl rfl) ?_
  refine TL.opP rfl (op_extract rfl rfl) ?_
  refine TL.opP rfl (op_extract rfl rfl) ?_
  refine TL.opP rfl (op_assign rfl) ?_
  refine TL.opP rfl (op_assign rfl) ?_
  refine TL.opP rfl (op_assign rfl) ?_
  refine TL.nil ?_
  refine TQ.then ?_
  refine TC.seq ?_
  refine TC.seq ?_
  refine TC.region ?_   -- region 2 edit.go:189
  refine TL.opP rfl (op_move rfl) ?_
  refine TL.callq rfl en_58 rfl (fun w2 hp => sizes_calls b vb w2 (tabs_at hp hT) hsb (rb _ _ _ hp)) ?_
  refine TL.opP rfl (op_move rfl) ?_
  refine TL.opP rfl (op_extract rfl rfl) ?_
  refine TL.opP rfl (op_extract rfl rfl) ?_
  refine TL.opP rfl (op_extract rfl rfl) ?_
  refine TL.opP rfl (op_assign rfl) ?_
  refine TL.opP rfl (op_assign rfl) ?_
  refine TL.opP rfl (op_assign rfl) ?_
  refine TL.nil ?_
  refine TQ.then ?_
  refine TC.seq ?_
  refine TC.region ?_   -- region 3 edit.go:189
  refine TL.opP rfl (op_move rfl) ?_
  refine TL.opP rfl (op_not rfl rfl) ?_
  refine TL.opP rfl (op_move rfl) ?_
  first | refine TL.splitD (fun c1 => ?_) (fun c1 => ?_) | refine TL.splitB (fun c1 => ?_) (fun c1 => ?_)
  · refine TL.gFt rfl rfl rfl ?_
    refine TL.gFt rfl rfl rfl ?_
    refine TL.opP rfl (op_pickT rfl rfl) ?_
    refine TL.opP rfl (op_move rfl) ?_
    refine TL.gFt rfl rfl rfl ?_
    refine TL.gFt rfl rfl rfl ?_
    refine TL.gFt rfl rfl rfl ?_
    refine TL.opP rfl (op_pickT rfl rfl) ?_
    refine TL.nil ?_
    refine TQ.then ?_
    refine TC.condT rfl ?_
    refine TC.seq ?_
    refine TC.region ?_   -- region 4 edit.go:190
    refine TL.opP rfl (op_assign rfl) ?_
    refine TL.opP rfl (op_assign rfl) ?_
    refine TL.nil ?_
    refine TQ.then ?_
    refine TC.ret ?_
    refine TQ.then_ret ?_
    refine ret2 rfl rfl rfl (fun w' hp => ?_)
    first
      | (have hbad : compBad a b := by (unfold compBad; grind)
         exact ⟨_, _, rfl, ⟨.slice none 0 0, by rw [(comp_bad hbad).1], by rw [(comp_bad hbad).2]; rfl⟩, new_nil _ 3 (hp)⟩)
      | exact ⟨_, _, rfl, ⟨.slice none 0 0, by rw [(comp_long hok (by grind)).1], by rw [(comp_long hok (by grind)).2]; rfl⟩, new_nil _ 3 (hp)⟩
      | exact ⟨_, _, rfl, ⟨«v:mr?», by rw [(comp_ok hok (by grind)).1]; first | done | rfl, by rw [(comp_ok hok (by grind)).2, List.length_reverse]⟩, (hp)⟩
  · refine TL.gT rfl rfl ?_
    refine TL.opP rfl (op_move rfl) ?_
    refine TL.gT rfl rfl ?_
    refine TL.opP rfl (op_not rfl rfl) ?_
    refine TL.opP rfl (op_pickF rfl rfl) ?_
    refine TL.opP rfl (op_move rfl) ?_
    first | refine TL.splitD (fun c2 => ?_) (fun c2 => ?_) | refine TL.splitB (fun c2 => ?_) (fun c2 => ?_)
    · refine TL.gFt rfl rfl rfl ?_
      refine TL.gFt rfl rfl rfl ?_
      refine TL.gFt rfl rfl rfl ?_
      refine TL.opP rfl (op_pickT rfl rfl) ?_
      refine TL.nil ?_
      refine TQ.then ?_
      refine TC.condT rfl ?_
      refine TC.seq ?_
      refine TC.region ?_   -- region 4 edit.go:190
      refine TL.opP rfl (op_assign rfl) ?_
      refine TL.opP rfl (op_assign rfl) ?_
      refine TL.nil ?_
      refine TQ.then ?_
      refine TC.ret ?_
      refine TQ.then_ret ?_
      refine ret2 rfl rfl rfl (fun w' hp => ?_)
      first
        | (have hbad : compBad a b := by (unfold compBad; grind)
           exact ⟨_, _, rfl, ⟨.slice none 0 0, by rw [(comp_bad hbad).1], by rw [(comp_bad hbad).2]; rfl⟩, new_nil _ 3 (hp)⟩)
        | exact ⟨_, _, rfl, ⟨.slice none 0 0, by rw [(comp_long hok (by grind)).1], by rw [(comp_long hok (by grind)).2]; rfl⟩, new_nil _ 3 (hp)⟩
        | exact ⟨_, _, rfl, ⟨«v:mr?», by rw [(comp_ok hok (by grind)).1]; first | done | rfl, by rw [(comp_ok hok (by grind)).2, List.length_reverse]⟩, (hp)⟩
    · refine TL.gT rfl rfl ?_
      refine TL.opP rfl (op_move rfl) ?_
      refine TL.gT rfl rfl ?_
      refine TL.opP rfl (op_move rfl) ?_
      refine TL.gT rfl rfl ?_
      refine TL.opP rfl (op_neq rfl rfl) ?_
      refine TL.opP rfl (op_pickF rfl rfl) ?_
      refine TL.nil ?_
      refine TQ.then ?_
      first | refine TC.condD rfl (fun c3 => ?_) (fun c3 => ?_) | refine TC.condB rfl (fun c3 => ?_) (fun c3 => ?_)
      · refine TC.seq ?_
        refine TC.region ?_   -- region 4 edit.go:190
        refine TL.opP rfl (op_assign rfl) ?_
        refine TL.opP rfl (op_assign rfl) ?_
        refine TL.nil ?_
        refine TQ.then ?_
        refine TC.ret ?_
        refine TQ.then_ret ?_
        refine ret2 rfl rfl rfl (fun w' hp => ?_)
        first
          | (have hbad : compBad a b := by (unfold compBad; grind)
             exact ⟨_, _, rfl, ⟨.slice none 0 0, by rw [(comp_bad hbad).1], by rw [(comp_bad hbad).2]; rfl⟩, new_nil _ 3 (hp)⟩)
          | exact ⟨_, _, rfl, ⟨.slice none 0 0, by rw [(comp_long hok (by grind)).1], by rw [(comp_long hok (by grind)).2]; rfl⟩, new_nil _ 3 (hp)⟩
          | exact ⟨_, _, rfl, ⟨«v:mr?», by rw [(comp_ok hok (by grind)).1]; first | done | rfl, by rw [(comp_ok hok (by grind)).2, List.length_reverse]⟩, (hp)⟩
      · have hok : ¬ compBad a b := by unfold compBad; grind
        have hst := CInv.start hok hla hlb
        refine TC.skip ?_
        refine TQ.then ?_
        refine TC.seq ?_
        refine TC.region ?_   -- region 5 edit.go:192
        refine TL.opX rfl (OpX.alloc tz_edit_maker rfl) ?_; rintro _ _ ⟨g12, rfl, rfl⟩
        refine TL.hp (fun _ h => new_nil 47 3 h) ?_
        refine TL.nil ?_
        refine TQ.then ?_
        refine TC.seq ?_
        refine TC.region ?_   -- region 6 edit.go:193
        refine TL.opP rfl (op_move rfl) ?_
        refine TL.opX rfl (OpX.callX en_65 rfl (over_x a va (fits_small hst.fx) (by omega) ra.cons.cons)) ?_; rintro _ _ ⟨gx1, vlx1, vtx1, rfl, rfl⟩
        refine TL.opP rfl (op_move rfl) ?_
        refine TL.opX rfl (OpX.callX en_65 rfl (over_x b vb (fits_small hst.fy) (by omega) rb.cons.cons.cons.cons.cons)) ?_; rintro _ _ ⟨gy2, vly2, vty2, rfl, rfl⟩
        refine TL.opP rfl (op_assign rfl) ?_
        refine TL.opP rfl (op_assign rfl) ?_
        refine TL.nil ?_
        refine TQ.then ?_
        refine TC.seq ?_
        refine TC.block ?_
        refine TC.loop (ι := Nat × List Part × List Part × List Part × List Part × List Int × List Part × List Int × Value × Value × Value × Value × Value) (fun (f, xs, ys, r, lx, tx, ly, ty, mv, vlx, vtx, vly, vty) => [(12, .pointer (some ⟨g12, 0, none⟩)), (13, .pointer (some ⟨gx1, 0, none⟩)), (14, .pointer (some ⟨gy2, 0, none⟩))]) (fun (f, xs, ys, r, lx, tx, ly, ty, mv, vlx, vtx, vly, vty) => .blk g12 (.cells [mv].toArray 63 (0, 0)) :: .row mv 47 3 r.length (encs r.reverse) :: .blk gx1 (.cells [vlx, vtx].toArray 96 (0, 0)) :: .win vlx 47 3 lx.length (encs lx) :: .rd vtx 1 tx.length (tx.map (Value.int .i32)) :: .blk gy2 (.cells [vly, vty].toArray 96 (0, 0)) :: .win vly 47 3 ly.length (encs ly) :: .rd vty 1 ty.length (ty.map (Value.int .i32)) :: L) (fun (f, xs, ys, r, lx, tx, ly, ty, mv, vlx, vtx, vly, vty) => CInv (compR a b) f xs ys r lx tx ly ty) (fun (f, xs, ys, r, lx, tx, ly, ty, mv, vlx, vtx, vly, vty) => f) ((a.length + b.length, a, b, [], a, loadT a [], b, loadT b [], .slice none 0 0, vlx1, vtx1, vly2, vty2)) (hst) ⟨rfl, rfl, rfl, trivial⟩ (fun _ h => h.pick2.pick2.pick2.pick5.pick5.pick5.pick6.pick7) ?_
        rintro ⟨f, xs, ys, r, lx, tx, ly, ty, mv, vlx, vtx, vly, vty⟩ (hI : CInv (compR a b) f xs ys r lx tx ly ty)
        show TC _ _ _ _ [(12, .pointer (some ⟨g12, 0, none⟩)), (13, .pointer (some ⟨gx1, 0, none⟩)), (14, .pointer (some ⟨gy2, 0, none⟩))] _ _ (.blk g12 (.cells [mv].toArray 63 (0, 0)) :: .row mv 47 3 r.length (encs r.reverse) :: .blk gx1 (.cells [vlx, vtx].toArray 96 (0, 0)) :: .win vlx 47 3 lx.length (encs lx) :: .rd vtx 1 tx.length (tx.map (Value.int .i32)) :: .blk gy2 (.cells [vly, vty].toArray 96 (0, 0)) :: .win vly 47 3 ly.length (encs ly) :: .rd vty 1 ty.length (ty.map (Value.int .i32)) :: L)
        refine TC.seq ?_
        refine TC.join1 [(12, .pointer (some ⟨g12, 0, none⟩)), (13, .pointer (some ⟨gx1, 0, none⟩)), (14, .pointer (some ⟨gy2, 0, none⟩)), (53, .bool (decide (kindL lx ≠ 0 ∨ kindL ly ≠ 0)))] (.blk g12 (.cells [mv].toArray 63 (0, 0)) :: .row mv 47 3 r.length (encs r.reverse) :: .blk gx1 (.cells [vlx, vtx].toArray 96 (0, 0)) :: .win vlx 47 3 lx.length (encs lx) :: .rd vtx 1 tx.length (tx.map (Value.int .i32)) :: .blk gy2 (.cells [vly, vty].toArray 96 (0, 0)) :: .win vly 47 3 ly.length (encs ly) :: .rd vty 1 ty.length (ty.map (Value.int .i32)) :: L) ?_ ?_
        · refine TC.region ?_   -- region 7 edit.go:194
          refine TL.opP rfl (op_move rfl) ?_
          refine TL.hp (fun _ h => h.pick4.pick4.pick4) ?_
          refine TL.opX rfl (OpX.callX en_66 rfl (kind_x _ _ _ _ _)) ?_; rintro _ _ ⟨rfl, rfl⟩
          refine TL.opP rfl (op_neq rfl rfl) ?_
          refine TL.opP rfl (op_move rfl) ?_
          first | refine TL.splitD (fun c4 => ?_) (fun c4 => ?_) | refine TL.splitB (fun c4 => ?_) (fun c4 => ?_)
          · refine TL.gFt rfl rfl rfl ?_
            refine TL.gFt rfl rfl rfl ?_
            refine TL.gFt rfl rfl rfl ?_
            refine TL.opP rfl (op_pickT rfl rfl) ?_
            refine TL.nil ?_
            exact TQ.join1 ⟨rfl, rfl, rfl, gb rfl (by grind), trivial⟩ (fun _ h => h.pick7.pick7.pick7.pick5.pick5.pick5.pick7.pick7)
          · refine TL.gT rfl rfl ?_
            refine TL.opP rfl (op_move rfl) ?_
            refine TL.gT rfl rfl ?_
            refine TL.hp (fun _ h => h.pick7.pick7.pick7) ?_
            refine TL.opX rfl (OpX.callX en_66 rfl (kind_x _ _ _ _ _)) ?_; rintro _ _ ⟨rfl, rfl⟩
            refine TL.gT rfl rfl ?_
            refine TL.opP rfl (op_neq rfl rfl) ?_
            refine TL.opP rfl (op_pickF rfl rfl) ?_
            refine TL.nil ?_
            exact TQ.join1 ⟨rfl, rfl, rfl, gb rfl (by grind), trivial⟩ (fun _ h => h.pick2.pick2.pick2.pick5.pick5.pick5.pick7.pick7)
        · first | refine TC.condD rfl (fun c5 => ?_) (fun c5 => ?_) | refine TC.condB rfl (fun c5 => ?_) (fun c5 => ?_)
          · refine TC.skip ?_
            refine TQ.then ?_
            refine TC.block ?_
            refine TC.block ?_
            refine TC.seq ?_
            refine TC.region ?_   -- region 14 edit.go:196
            refine TL.opP rfl (op_move rfl) ?_
            refine TL.hp (fun _ h => h.pick4.pick4.pick4) ?_
            refine TL.opX rfl (OpX.callX en_66 rfl (kind_x _ _ _ _ _)) ?_; rintro _ _ ⟨rfl, rfl⟩
            refine TL.opP rfl (op_eql rfl rfl) ?_
            refine TL.opP rfl (op_assign rfl) ?_
            refine TL.nil ?_
            refine TQ.then ?_
            first | refine TC.condD rfl (fun c6 => ?_) (fun c6 => ?_) | refine TC.condB rfl (fun c6 => ?_) (fun c6 => ?_)
            · obtain ⟨q, l, rfl, hq, hmb, f', xs', hlt, hc⟩ := hI.stepX c6
              refine TC.region ?_   -- region 15 edit.go:197
              refine TL.opP rfl (op_move rfl) ?_
              refine TL.opP rfl (op_move rfl) ?_
              refine TL.opX rfl (OpX.callX en_68 rfl (left_x _ _ _ _ _ _)) ?_; rintro _ _ ⟨rfl, rfl⟩
              refine TL.opX rfl (OpX.callX en_67 rfl (take_x q l _ (q.n) _ _ _ hq.n0 hq.n1 hq.n2 hq.tx hq.hs)) ?_; rintro _ _ ⟨rfl, vlx7, vtx7, rfl⟩
              refine TL.opX rfl (OpX.buildSlice (ps := #[(0, _)]) rfl (bs_api_Part_1 (takeQ q tx q.n))) ?_; rintro _ _ ⟨g87, rfl, rfl⟩
              refine TL.hp (fun _ h => blk_row (k := 3) (m := 1) h rfl (by decide)) ?_
              refine TL.hp (fun _ h => h.pick5.pick5) ?_
              refine TL.opX rfl (OpX.callX en_52 rfl (add_x [takeQ q tx q.n] r _ _ _ hmb rw0)) ?_; rintro _ _ ⟨rfl, mv8, rfl⟩
              refine TL.nil ?_
              refine TQ.block_normal ?_
              refine TQ.block_normal ?_
              exact TQ.round (f', _, _, (addRs r [takeQ q tx q.n]), (takeL q l (q.n)), (takeT q l tx (q.n)), ly, ty, mv8, vlx7, vtx7, vly, vty) (hc) (hlt) ⟨rfl, rfl, rfl, trivial⟩ (fun _ h => h.drop2)
            · refine TC.seq ?_
              refine TC.region ?_   -- region 16 edit.go:198
              refine TL.opP rfl (op_move rfl) ?_
              refine TL.hp (fun _ h => h.pick7.pick7.pick7) ?_
              refine TL.opX rfl (OpX.callX en_66 rfl (kind_x _ _ _ _ _)) ?_; rintro _ _ ⟨rfl, rfl⟩
              refine TL.opP rfl (op_eql rfl rfl) ?_
              refine TL.opP rfl (op_assign rfl) ?_
              refine TL.nil ?_
              refine TQ.then ?_
              first | refine TC.condD rfl (fun c7 => ?_) (fun c7 => ?_) | refine TC.condB rfl (fun c7 => ?_) (fun c7 => ?_)
              · obtain ⟨p, l', rfl, hq, hmb, f', ys', hlt, hc⟩ := hI.stepY c6 c7
                refine TC.region ?_   -- region 17 edit.go:199
                refine TL.opP rfl (op_move rfl) ?_
                refine TL.opP rfl (op_move rfl) ?_
                refine TL.opX rfl (OpX.callX en_68 rfl (left_x _ _ _ _ _ _)) ?_; rintro _ _ ⟨rfl, rfl⟩
                refine TL.opX rfl (OpX.callX en_67 rfl (take_x p l' _ (p.n) _ _ _ hq.n0 hq.n1 hq.n2 hq.tx hq.hs)) ?_; rintro _ _ ⟨rfl, vly11, vty11, rfl⟩
                refine TL.opX rfl (OpX.buildSlice (ps := #[(0, _)]) rfl (bs_api_Part_1 (takeQ p ty p.n))) ?_; rintro _ _ ⟨g97, rfl, rfl⟩
                refine TL.hp (fun _ h => blk_row (k := 3) (m := 1) h rfl (by decide)) ?_
                refine TL.hp (fun _ h => h.pick8.pick8) ?_
                refine TL.opX rfl (OpX.callX en_52 rfl (add_x [takeQ p ty p.n] r _ _ _ hmb rw0)) ?_; rintro _ _ ⟨rfl, mv12, rfl⟩
                refine TL.nil ?_
                refine TQ.block_normal ?_
                refine TQ.block_normal ?_
                exact TQ.round (f', _, _, (addRs r [takeQ p ty p.n]), lx, tx, (takeL p l' (p.n)), (takeT p l' ty (p.n)), mv12, vlx, vtx, vly11, vty11) (hc) (hlt) ⟨rfl, rfl, rfl, trivial⟩ (fun _ h => h.drop2.pick4.pick4.pick4.pick7.pick7.pick7.pick7.pick7)
              · obtain ⟨q, l, p, l', rfl, rfl, hq, hp', h1, h2, h3⟩ := hI.stepB c5 c6 c7
                refine TC.seq ?_
                refine TC.region ?_   -- region 8 edit.go:201
                refine TL.opP rfl (op_move rfl) ?_
                refine TL.hp (fun _ h => h.pick5.pick5.pick5) ?_
                refine TL.opX rfl (OpX.callX en_68 rfl (left_x _ _ _ _ _ _)) ?_; rintro _ _ ⟨rfl, rfl⟩
                refine TL.opP rfl (op_move rfl) ?_
                refine TL.hp (fun _ h => h.pick5.pick5.pick5) ?_
                refine TL.opX rfl (OpX.callX en_68 rfl (left_x _ _ _ _ _ _)) ?_; rintro _ _ ⟨rfl, rfl⟩
                refine TL.opP rfl (op_min rfl) ?_
                refine TL.opP rfl (op_assign rfl) ?_
                refine TL.nil ?_
                refine TQ.then ?_
                refine TC.seq ?_
                refine TC.region ?_   -- region 9 edit.go:202
                refine TL.opP rfl (op_move rfl) ?_
                refine TL.opP rfl (op_move rfl) ?_
                refine TL.hp (fun _ h => h.pick5.pick5.pick5) ?_
                refine TL.opX rfl (OpX.callX en_67 rfl (take_x q l _ (minI q.n p.n) _ _ _ hq.n0 hq.n1 hq.n2 hq.tx hq.hs)) ?_; rintro _ _ ⟨rfl, vlx15, vtx15, rfl⟩
                refine TL.opP rfl (op_move rfl) ?_
                refine TL.opP rfl (op_move rfl) ?_
                refine TL.hp (fun _ h => h.pick5.pick5.pick5) ?_
                refine TL.opX rfl (OpX.callX en_67 rfl (take_x p l' _ (minI q.n p.n) _ _ _ hp'.n0 hp'.n1 hp'.n2 hp'.tx hp'.hs)) ?_; rintro _ _ ⟨rfl, vly16, vty16, rfl⟩
                refine TL.opX rfl (OpX.alloc tz_api_Part rfl) ?_; rintro _ _ ⟨g16, rfl, rfl⟩
                refine TL.opX rfl (OpX.alloc tz_api_Part rfl) ?_; rintro _ _ ⟨g17, rfl, rfl⟩
                refine TL.hp (fun _ h => h.pick1) ?_
                refine TL.opX0 (OpX.storeS tst_api_Part rfl rfl rfl rfl rfl (List.all_eq_true.1 rfl)) ?_; rintro _ _ rfl
                refine TL.hp (fun _ h => h.pick1) ?_
                refine TL.opX0 (OpX.storeS tst_api_Part rfl rfl rfl rfl rfl (List.all_eq_true.1 rfl)) ?_; rintro _ _ rfl
                refine TL.nil ?_
                refine TQ.then ?_
                refine TC.block ?_
                refine TC.seq ?_
                refine TC.region ?_   -- region 10 edit.go:204
                refine TL.opP rfl (op_field fld_api_Part_Kind rfl) ?_
                refine TL.opV rfl (op_load ts_int rfl m0 rfl) ?_
                refine TL.opP rfl (op_eql rfl rfl) ?_
                refine TL.opP rfl (op_assign rfl) ?_
                refine TL.nil ?_
                refine TQ.then ?_
                first | refine TC.condD rfl (fun c8 => ?_) (fun c8 => ?_) | refine TC.condB rfl (fun c8 => ?_) (fun c8 => ?_)
                · obtain ⟨hmb, f', xs', ys', hlt, hc⟩ := h1 c8
                  refine TC.region ?_   -- region 11 edit.go:205
                  refine TL.opV rfl (op_loadS tst_api_Part rfl m1 rfl) ?_
                  refine TL.opX rfl (OpX.buildSlice (ps := #[(0, _)]) rfl (bs_api_Part_1 (takeQ q tx (minI q.n p.n)))) ?_; rintro _ _ ⟨g70, rfl, rfl⟩
                  refine TL.hp (fun _ h => blk_row (k := 3) (m := 1) h rfl (by decide)) ?_
                  refine TL.hp (fun _ h => h.pick10.pick10) ?_
                  refine TL.opX rfl (OpX.callX en_52 rfl (add_x [takeQ q tx (minI q.n p.n)] r _ _ _ hmb rw0)) ?_; rintro _ _ ⟨rfl, mv17, rfl⟩
                  refine TL.nil ?_
                  refine TQ.block_normal ?_
                  refine TQ.block_normal ?_
                  refine TQ.block_normal ?_
                  exact TQ.round (f', _, _, (addRs r [takeQ q tx (minI q.n p.n)]), (takeL q l (minI q.n p.n)), (takeT q l tx (minI q.n p.n)), (takeL p l' (minI q.n p.n)), (takeT p l' ty (minI q.n p.n)), mv17, vlx15, vtx15, vly16, vty16) (hc) (hlt) ⟨rfl, rfl, rfl, trivial⟩ (fun _ h => h.drop4.drop3.drop2.pick4.pick4.pick4.pick7.pick7.pick7.pick7.pick7)
                · refine TC.seq ?_
                  refine TC.region ?_   -- region 12 edit.go:206
                  refine TL.opP rfl (op_field fld_api_Part_Kind rfl) ?_
                  refine TL.opV rfl (op_load ts_int rfl m1 rfl) ?_
                  refine TL.opP rfl (op_eql rfl rfl) ?_
                  refine TL.opP rfl (op_assign rfl) ?_
                  refine TL.nil ?_
                  refine TQ.then ?_
                  first | refine TC.condD rfl (fun c9 => ?_) (fun c9 => ?_) | refine TC.condB rfl (fun c9 => ?_) (fun c9 => ?_)
                  · obtain ⟨hmb, f', xs', ys', hlt, hc⟩ := h2 c8 c9
                    refine TC.region ?_   -- region 13 edit.go:207
                    refine TL.opV rfl (op_loadS tst_api_Part rfl m0 rfl) ?_
                    refine TL.opX rfl (OpX.buildSlice (ps := #[(0, _)]) rfl (bs_api_Part_1 (takeQ p ty (minI q.n p.n)))) ?_; rintro _ _ ⟨g77, rfl, rfl⟩
                    refine TL.hp (fun _ h => blk_row (k := 3) (m := 1) h rfl (by decide)) ?_
                    refine TL.hp (fun _ h => h.pick10.pick10) ?_
                    refine TL.opX rfl (OpX.callX en_52 rfl (add_x [takeQ p ty (minI q.n p.n)] r _ _ _ hmb rw0)) ?_; rintro _ _ ⟨rfl, mv18, rfl⟩
                    refine TL.nil ?_
                    refine TQ.block_normal ?_
                    refine TQ.block_normal ?_
                    refine TQ.block_normal ?_
                    exact TQ.round (f', _, _, (addRs r [takeQ p ty (minI q.n p.n)]), (takeL q l (minI q.n p.n)), (takeT q l tx (minI q.n p.n)), (takeL p l' (minI q.n p.n)), (takeT p l' ty (minI q.n p.n)), mv18, vlx15, vtx15, vly16, vty16) (hc) (hlt) ⟨rfl, rfl, rfl, trivial⟩ (fun _ h => h.drop4.drop3.drop2.pick4.pick4.pick4.pick7.pick7.pick7.pick7.pick7)
                  · obtain ⟨f', xs', ys', hlt, hc⟩ := h3 c8 c9
                    refine TC.skip ?_
                    refine TQ.block_normal ?_
                    refine TQ.block_normal ?_
                    refine TQ.block_normal ?_
                    exact TQ.round (f', _, _, r, (takeL q l (minI q.n p.n)), (takeT q l tx (minI q.n p.n)), (takeL p l' (minI q.n p.n)), (takeT p l' ty (minI q.n p.n)), mv, vlx15, vtx15, vly16, vty16) (hc) (hlt) ⟨rfl, rfl, rfl, trivial⟩ (fun _ h => h.drop1.tail.pick2.pick2.pick2.pick5.pick5.pick5.pick7.pick7)
          · obtain rfl : r = compR a b := hI.stop (by omega) (by omega)
            refine TC.exit ?_
            refine TQ.then_exit ?_
            refine TQ.loop_exit ?_
            refine TQ.block_hit ?_
            refine TQ.then ?_
            refine TC.seq ?_
            refine TC.region ?_   -- region 18 edit.go:211
            refine TL.opX rfl (OpX.callX en_63 rfl (done_x _ _ _ hI.texts (.tail _ (.tail _ (.tail _ (.tail _ (.tail _ (.tail _ hT)))))))) ?_; rintro _ _ ⟨rfl, rfl⟩
            refine TL.opP rfl (op_move rfl) ?_
            refine TL.opP rfl (op_extract rfl rfl) ?_
            refine TL.opP rfl (op_extract rfl rfl) ?_
            refine TL.opP rfl (op_assign rfl) ?_
            refine TL.opP rfl (op_assign rfl) ?_
            refine TL.nil ?_
            refine TQ.then ?_
            refine TC.seq ?_
            refine TC.seq ?_
            refine TC.region ?_   -- region 19 edit.go:212
            refine TL.opP rfl (op_move rfl) ?_
            refine TL.opP rfl (op_not rfl rfl) ?_
            refine TL.nil ?_
            refine TQ.then ?_
            first | refine TC.condD rfl (fun c10 => ?_) (fun c10 => ?_) | refine TC.condB rfl (fun c10 => ?_) (fun c10 => ?_)
            · refine TC.seq ?_
              refine TC.region ?_   -- region 20 edit.go:213
              refine TL.opP rfl (op_assign rfl) ?_
              refine TL.opP rfl (op_assign rfl) ?_
              refine TL.nil ?_
              refine TQ.then ?_
              refine TC.ret ?_
              refine TQ.then_ret ?_
              refine ret2 rfl rfl rfl (fun w' hp => ?_)
              first
                | (have hbad : compBad a b := by (unfold compBad; grind)
                   exact ⟨_, _, rfl, ⟨.slice none 0 0, by rw [(comp_bad hbad).1], by rw [(comp_bad hbad).2]; rfl⟩, new_nil _ 3 (hp.drop7.drop6.drop5.drop4.drop3.drop2.drop1.tail)⟩)
                | exact ⟨_, _, rfl, ⟨.slice none 0 0, by rw [(comp_long hok (by grind)).1], by rw [(comp_long hok (by grind)).2]; rfl⟩, new_nil _ 3 (hp.drop7.drop6.drop5.drop4.drop3.drop2.drop1.tail)⟩
                | exact ⟨_, _, rfl, ⟨mv, by rw [(comp_ok hok (by grind)).1]; first | done | rfl, by rw [(comp_ok hok (by grind)).2, List.length_reverse]⟩, (hp.drop7.drop6.drop5.drop4.drop3.drop2.drop1.tail)⟩
            · refine TC.skip ?_
              refine TQ.then ?_
              refine TC.seq ?_
              refine TC.region ?_   -- region 21 edit.go:215
              refine TL.opP rfl (op_move rfl) ?_
              refine TL.opP rfl (op_assign rfl) ?_
              refine TL.opP rfl (op_assign rfl) ?_
              refine TL.nil ?_
              refine TQ.then ?_
              refine TC.ret ?_
              refine ret2 rfl rfl rfl (fun w' hp => ?_)
              first
                | (have hbad : compBad a b := by (unfold compBad; grind)
                   exact ⟨_, _, rfl, ⟨.slice none 0 0, by rw [(comp_bad hbad).1], by rw [(comp_bad hbad).2]; rfl⟩, new_nil _ 3 (hp.drop7.drop6.drop5.drop4.drop3.drop2.tail)⟩)
                | exact ⟨_, _, rfl, ⟨.slice none 0 0, by rw [(comp_long hok (by grind)).1], by rw [(comp_long hok (by grind)).2]; rfl⟩, new_nil _ 3 (hp.drop7.drop6.drop5.drop4.drop3.drop2.tail)⟩
                | exact ⟨_, _, rfl, ⟨mv, by rw [(comp_ok hok (by grind)).1]; first | done | rfl, by rw [(comp_ok hok (by grind)).2, List.length_reverse]⟩, (hp.drop7.drop6.drop5.drop4.drop3.drop2.tail)⟩

end Go.SK
