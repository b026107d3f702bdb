/- Walks: layer 11, lines moved. -/
import Derived.Test.YtpomdenbgdgbhaaDoorE52
import Derived.Test.YtpomdenbgdgbhaaDoorMD
set_option linter.unusedVariables false
set_option linter.unusedSimpArgs false
set_option maxRecDepth 100000
namespace Go.SK
open Go Go.RowKit Go.Proofs
variable {S : Nat → Prop} {w0 : World} {F L : List Res}
/-- Which lines may not move. -/
def mvBad (l : List Int) (f m t : Int) : Prop := f < 0 ∨ m < 0 ∨ ((begs l).length : Int) ≤ f ∨ ((begs l).length : Int) - 1 - f < m ∨ t < 0 ∨ ((begs l).length : Int) ≤ t ∨ (f < t ∧ t < f + m)
instance (l : List Int) (f m t : Int) : Decidable (mvBad l f m t) := by unfold mvBad; infer_instance
def mvE (l : List Int) (f m t : Int) : Int := if mvBad l f m t then 1 else 0
def mvF (l : List Int) (f m t : Int) : List Part := if mvBad l f m t then [] else closeF (mvP l.length (bg l t) ((l.drop (bg l f)).take (bg l (f + m) - bg l f))) (mvD l.length (bg l f) (bg l (f + m)))
theorem begs_mono {l : List Int} {j k : Nat} (h : j ≤ k) (hk : k < (begs l).length) : (begs l).getD j 0 ≤ (begs l).getD k 0 := by
  rcases Nat.lt_or_eq_of_le h with h | rfl
  · exact Nat.le_of_lt (begs_lt h hk)
  · exact Nat.le_refl _
/-- What the places of a move are. -/
theorem mv_facts {l : List Int} {f m t : Int} (h : ¬ mvBad l f m t) : ∃ jf jm jt a b q : Nat, f = jf ∧ m = jm ∧ t = jt ∧ jf + jm < (begs l).length ∧ jt < (begs l).length ∧ (begs l).getD jf 0 = a ∧ (begs l).getD (jf + jm) 0 = b ∧ (begs l).getD jt 0 = q ∧ bg l f = a ∧ bg l (f + m) = b ∧ bg l t = q ∧ a ≤ b ∧ b ≤ l.length ∧ q ≤ l.length ∧ (¬ f < t → q ≤ a) ∧ (f < t → b ≤ q) := by
  unfold mvBad at h
  obtain ⟨jf, rfl⟩ : ∃ j : Nat, f = j := ⟨f.toNat, by omega⟩
  obtain ⟨jm, rfl⟩ : ∃ j : Nat, m = j := ⟨m.toNat, by omega⟩
  obtain ⟨jt, rfl⟩ : ∃ j : Nat, t = j := ⟨t.toNat, by omega⟩
  have h1 : jf + jm < (begs l).length := by omega
  have h2 : jt < (begs l).length := by omega
  refine ⟨jf, jm, jt, _, _, _, rfl, rfl, rfl, h1, h2, rfl, rfl, rfl, rfl, by unfold bg; rw [show ((jf : Int) + jm).toNat = jf + jm by omega], rfl, begs_mono (by omega) h1, begs_le l _ (begs_get_mem h1), begs_le l _ (begs_get_mem h2), fun c => begs_mono (by omega) (by omega), fun c => begs_mono (by omega) h2⟩
theorem lmovec_x (l : List Int) (tv bv : Value) (g : Nat) (hxt : Rdb F tv 1 l.length (l.map (Value.int .i32))) (hxb : Rdb F bv 1 (begs l).length ((begs l).map nv)) (f m t : Int) (hln : l.length ≤ 65536) (hsc : ∀ c ∈ l, scalar c) (hT : tabs ∈ F) :
    CallX Tryd.prog 25 [.pointer (some ⟨g, 0, none⟩), .int .i64 f, .int .i64 m, .int .i64 t] S w0 (.blk g (.cells [tv, bv, .bool true].toArray 58 (0, 0)) :: F) (fun u L' => ∃ v', u = .tuple #[v', .int .i64 (mvE l f m t)] ∧ L' = .row v' 104 3 (mvF l f m t).length (encs (mvF l f m t)) :: .blk g (.cells [tv, bv, .bool true].toArray 58 (0, 0)) :: F) := by
 intro w hp
 have hxtl := hxt.cons.lenLe hp
 have hxbl := hxb.cons.lenLe hp
 have hbl := begs_len l
 refine calls_start Tryd.func25 rfl rfl rfl (hp) ?_
 refine TC.seq (TC.region (TL.opP rfl (op_assign rfl) (TL.opP rfl (op_assign rfl) (TL.nil (TQ.then ?_)))))
 refine TC.join (ι := Unit) (fun _u => [(0, .pointer (some ⟨g, 0, none⟩)), (1, .int .i64 f), (2, .int .i64 m), (3, .int .i64 t)]) (fun _u => .blk g (.cells [tv, bv, .bool true].toArray 58 (0, 0)) :: F) (fun _u => ¬ mvBad l f m t) ?_ ?_
 ·refine TC.block (TC.seq (TC.region (TL.opP rfl (op_move rfl) ?_)))
  refine TL.opX rfl (OpX.callX en_65 rfl (ldead_x _ _ true _)) ?_; rintro _ _ ⟨rfl, rfl⟩
  refine TL.opP rfl (op_assign rfl) (TL.nil (TQ.then ?_))
  first | refine TC.condD rfl (fun c1 => ?_) (fun c1 => ?_) | refine TC.condB rfl (fun c1 => ?_) (fun c1 => ?_)
  ·exact absurd c1 (by decide)
  ·refine TC.seq (TC.region (TL.opP rfl (op_move rfl) (TL.opP rfl (op_lss rfl rfl) (TL.opP rfl (op_move rfl) ?_))))
   first | refine TL.splitD (fun c2 => ?_) (fun c2 => ?_) | refine TL.splitB (fun c2 => ?_) (fun c2 => ?_)
   ·refine TL.gFt rfl rfl rfl (TL.gFt rfl rfl rfl (TL.opP rfl (op_pickT rfl rfl) (TL.opP rfl (op_move rfl) (TL.gFt rfl rfl rfl (TL.gFt rfl rfl rfl (TL.gFt rfl rfl rfl (TL.gFt rfl rfl rfl (TL.gFt rfl rfl rfl (TL.gFt rfl rfl rfl (TL.gFt rfl rfl rfl (TL.opP rfl (op_pickT rfl rfl) (TL.opP rfl (op_move rfl) (TL.gFt rfl rfl rfl (TL.gFt rfl rfl rfl (TL.gFt rfl rfl rfl (TL.gFt rfl rfl rfl (TL.gFt rfl rfl rfl (TL.gFt rfl rfl rfl (TL.gFt rfl rfl rfl (TL.gFt rfl rfl rfl (TL.gFt rfl rfl rfl (TL.gFt rfl rfl rfl (TL.opP rfl (op_pickT rfl rfl) (TL.opP rfl (op_move rfl) (TL.gFt rfl rfl rfl (TL.gFt rfl rfl rfl (TL.opP rfl (op_pickT rfl rfl) (TL.opP rfl (op_move rfl) (TL.gFt rfl rfl rfl (TL.gFt rfl rfl rfl (TL.gFt rfl rfl rfl ?_)))))))))))))))))))))))))))))))
    refine TL.gFt rfl rfl rfl (TL.gFt rfl rfl rfl (TL.gFt rfl rfl rfl (TL.gFt rfl rfl rfl (TL.opP rfl (op_pickT rfl rfl) (TL.opP rfl (op_assign rfl) (TL.nil (TQ.then (TC.condT rfl (TC.seq (TC.region (TL.opP rfl (op_assign rfl) (TL.opP rfl (op_assign rfl) (TL.nil (TQ.then (TC.ret (TQ.block_ret (TQ.join_ret ?_)))))))))))))))))
    refine ret2 rfl rfl rfl (fun w' hp => ?_)
    first
      | (have hb : mvBad l f m t := by (unfold mvBad; omega)
         exact ⟨_, _, rfl, ⟨.slice none 0 0, by rw [show mvE l f m t = 1 from if_pos hb], by rw [show mvF l f m t = [] from if_pos hb]; rfl⟩, new_nil _ 3 (hp)⟩)
      | exact ⟨_, _, rfl, ⟨_, by (rw [n3, show mvE l jf jm jt = 0 from if_neg hnb]; first | done | rfl), by (rw [n4, show mvF l jf jm jt = closeF (mvP l.length (bg l jt) ((l.drop (bg l jf)).take (bg l ((jf : Int) + jm) - bg l jf))) (mvD l.length (bg l jf) (bg l ((jf : Int) + jm))) from if_neg hnb, ba, bb, bq]; first | done | rfl)⟩, (hp)⟩
   ·refine TL.gT rfl rfl (TL.opP rfl (op_move rfl) (TL.gT rfl rfl (TL.opP rfl (op_lss rfl rfl) (TL.opP rfl (op_pickF rfl rfl) (TL.opP rfl (op_move rfl) ?_)))))
    first | refine TL.splitD (fun c3 => ?_) (fun c3 => ?_) | refine TL.splitB (fun c3 => ?_) (fun c3 => ?_)
    ·refine TL.gFt rfl rfl rfl (TL.gFt rfl rfl rfl (TL.gFt rfl rfl rfl (TL.gFt rfl rfl rfl (TL.gFt rfl rfl rfl (TL.gFt rfl rfl rfl (TL.gFt rfl rfl rfl (TL.opP rfl (op_pickT rfl rfl) (TL.opP rfl (op_move rfl) (TL.gFt rfl rfl rfl (TL.gFt rfl rfl rfl (TL.gFt rfl rfl rfl (TL.gFt rfl rfl rfl (TL.gFt rfl rfl rfl (TL.gFt rfl rfl rfl (TL.gFt rfl rfl rfl (TL.gFt rfl rfl rfl (TL.gFt rfl rfl rfl (TL.gFt rfl rfl rfl (TL.opP rfl (op_pickT rfl rfl) (TL.opP rfl (op_move rfl) (TL.gFt rfl rfl rfl (TL.gFt rfl rfl rfl (TL.opP rfl (op_pickT rfl rfl) (TL.opP rfl (op_move rfl) (TL.gFt rfl rfl rfl (TL.gFt rfl rfl rfl (TL.gFt rfl rfl rfl (TL.gFt rfl rfl rfl (TL.gFt rfl rfl rfl (TL.gFt rfl rfl rfl (TL.gFt rfl rfl rfl (TL.opP rfl (op_pickT rfl rfl) ?_))))))))))))))))))))))))))))))))
     refine TL.opP rfl (op_assign rfl) (TL.nil (TQ.then (TC.condT rfl (TC.seq (TC.region (TL.opP rfl (op_assign rfl) (TL.opP rfl (op_assign rfl) (TL.nil (TQ.then (TC.ret (TQ.block_ret (TQ.join_ret ?_))))))))))))
     refine ret2 rfl rfl rfl (fun w' hp => ?_)
     first
       | (have hb : mvBad l f m t := by (unfold mvBad; omega)
          exact ⟨_, _, rfl, ⟨.slice none 0 0, by rw [show mvE l f m t = 1 from if_pos hb], by rw [show mvF l f m t = [] from if_pos hb]; rfl⟩, new_nil _ 3 (hp)⟩)
       | exact ⟨_, _, rfl, ⟨_, by (rw [n3, show mvE l jf jm jt = 0 from if_neg hnb]; first | done | rfl), by (rw [n4, show mvF l jf jm jt = closeF (mvP l.length (bg l jt) ((l.drop (bg l jf)).take (bg l ((jf : Int) + jm) - bg l jf))) (mvD l.length (bg l jf) (bg l ((jf : Int) + jm))) from if_neg hnb, ba, bb, bq]; first | done | rfl)⟩, (hp)⟩
    ·refine TL.gT rfl rfl (TL.opP rfl (op_move rfl) (TL.gT rfl rfl (TL.opP rfl (op_move rfl) (TL.gT rfl rfl (TL.opP rfl (op_nilCheck rfl) (TL.gT rfl rfl (TL.opP rfl (op_field fld_lines_Index_begin rfl) (TL.gT rfl rfl (TL.opV rfl (op_load ts_sl_int rfl m0 rfl) (TL.gT rfl rfl (TL.opV rfl (op_lenV rfl un_sl_int rfl hxb.cons) (TL.gT rfl rfl (TL.opP rfl (op_geq rfl rfl) (TL.opP rfl (op_pickF rfl rfl) (TL.opP rfl (op_move rfl) ?_)))))))))))))))
     first | refine TL.splitD (fun c4 => ?_) (fun c4 => ?_) | refine TL.splitB (fun c4 => ?_) (fun c4 => ?_)
     ·refine TL.gFt rfl rfl rfl (TL.gFt rfl rfl rfl (TL.gFt rfl rfl rfl (TL.gFt rfl rfl rfl (TL.gFt rfl rfl rfl (TL.gFt rfl rfl rfl (TL.gFt rfl rfl rfl (TL.gFt rfl rfl rfl (TL.gFt rfl rfl rfl (TL.gFt rfl rfl rfl (TL.opP rfl (op_pickT rfl rfl) (TL.opP rfl (op_move rfl) (TL.gFt rfl rfl rfl (TL.gFt rfl rfl rfl (TL.opP rfl (op_pickT rfl rfl) (TL.opP rfl (op_move rfl) (TL.gFt rfl rfl rfl (TL.gFt rfl rfl rfl (TL.gFt rfl rfl rfl (TL.gFt rfl rfl rfl (TL.gFt rfl rfl rfl (TL.gFt rfl rfl rfl (TL.gFt rfl rfl rfl (TL.opP rfl (op_pickT rfl rfl) (TL.opP rfl (op_assign rfl) (TL.nil (TQ.then (TC.condT rfl (TC.seq (TC.region (TL.opP rfl (op_assign rfl) (TL.opP rfl (op_assign rfl) (TL.nil (TQ.then (TC.ret (TQ.block_ret (TQ.join_ret ?_))))))))))))))))))))))))))))))))))))
      refine ret2 rfl rfl rfl (fun w' hp => ?_)
      first
        | (have hb : mvBad l f m t := by (unfold mvBad; omega)
           exact ⟨_, _, rfl, ⟨.slice none 0 0, by rw [show mvE l f m t = 1 from if_pos hb], by rw [show mvF l f m t = [] from if_pos hb]; rfl⟩, new_nil _ 3 (hp)⟩)
        | exact ⟨_, _, rfl, ⟨_, by (rw [n3, show mvE l jf jm jt = 0 from if_neg hnb]; first | done | rfl), by (rw [n4, show mvF l jf jm jt = closeF (mvP l.length (bg l jt) ((l.drop (bg l jf)).take (bg l ((jf : Int) + jm) - bg l jf))) (mvD l.length (bg l jf) (bg l ((jf : Int) + jm))) from if_neg hnb, ba, bb, bq]; first | done | rfl)⟩, (hp)⟩
     ·refine TL.gT rfl rfl (TL.opP rfl (op_move rfl) (TL.gT rfl rfl (TL.opP rfl (op_move rfl) (TL.gT rfl rfl (TL.opP rfl (op_nilCheck rfl) (TL.gT rfl rfl (TL.opP rfl (op_field fld_lines_Index_begin rfl) (TL.gT rfl rfl (TL.opV rfl (op_load ts_sl_int rfl m0 rfl) (TL.gT rfl rfl (TL.opV rfl (op_lenV rfl un_sl_int rfl hxb.cons) (TL.gT rfl rfl (TL.opP rfl (op_sub rfl rfl rfl (by omega) (by omega)) (TL.gT rfl rfl (TL.opP rfl (op_move rfl) (TL.gT rfl rfl (TL.opP rfl (op_sub rfl rfl rfl (by omega) (by omega)) (TL.gT rfl rfl (TL.opP rfl (op_gtr rfl rfl) (TL.opP rfl (op_pickF rfl rfl) (TL.opP rfl (op_move rfl) ?_)))))))))))))))))))))
      first | refine TL.splitD (fun c5 => ?_) (fun c5 => ?_) | refine TL.splitB (fun c5 => ?_) (fun c5 => ?_)
      ·refine TL.gFt rfl rfl rfl (TL.gFt rfl rfl rfl (TL.opP rfl (op_pickT rfl rfl) (TL.opP rfl (op_move rfl) (TL.gFt rfl rfl rfl (TL.gFt rfl rfl rfl (TL.gFt rfl rfl rfl (TL.gFt rfl rfl rfl (TL.gFt rfl rfl rfl (TL.gFt rfl rfl rfl (TL.gFt rfl rfl rfl (TL.opP rfl (op_pickT rfl rfl) (TL.opP rfl (op_assign rfl) (TL.nil (TQ.then (TC.condT rfl (TC.seq (TC.region (TL.opP rfl (op_assign rfl) (TL.opP rfl (op_assign rfl) (TL.nil (TQ.then (TC.ret (TQ.block_ret (TQ.join_ret ?_))))))))))))))))))))))))
       refine ret2 rfl rfl rfl (fun w' hp => ?_)
       first
         | (have hb : mvBad l f m t := by (unfold mvBad; omega)
            exact ⟨_, _, rfl, ⟨.slice none 0 0, by rw [show mvE l f m t = 1 from if_pos hb], by rw [show mvF l f m t = [] from if_pos hb]; rfl⟩, new_nil _ 3 (hp)⟩)
         | exact ⟨_, _, rfl, ⟨_, by (rw [n3, show mvE l jf jm jt = 0 from if_neg hnb]; first | done | rfl), by (rw [n4, show mvF l jf jm jt = closeF (mvP l.length (bg l jt) ((l.drop (bg l jf)).take (bg l ((jf : Int) + jm) - bg l jf))) (mvD l.length (bg l jf) (bg l ((jf : Int) + jm))) from if_neg hnb, ba, bb, bq]; first | done | rfl)⟩, (hp)⟩
      ·refine TL.gT rfl rfl (TL.opP rfl (op_move rfl) (TL.gT rfl rfl (TL.opP rfl (op_lss rfl rfl) (TL.opP rfl (op_pickF rfl rfl) (TL.opP rfl (op_move rfl) ?_)))))
       first | refine TL.splitD (fun c6 => ?_) (fun c6 => ?_) | refine TL.splitB (fun c6 => ?_) (fun c6 => ?_)
       ·refine TL.gFt rfl rfl rfl (TL.gFt rfl rfl rfl (TL.gFt rfl rfl rfl (TL.gFt rfl rfl rfl (TL.gFt rfl rfl rfl (TL.gFt rfl rfl rfl (TL.gFt rfl rfl rfl (TL.opP rfl (op_pickT rfl rfl) (TL.opP rfl (op_assign rfl) (TL.nil (TQ.then (TC.condT rfl (TC.seq (TC.region (TL.opP rfl (op_assign rfl) (TL.opP rfl (op_assign rfl) (TL.nil (TQ.then (TC.ret (TQ.block_ret (TQ.join_ret ?_))))))))))))))))))))
        refine ret2 rfl rfl rfl (fun w' hp => ?_)
        first
          | (have hb : mvBad l f m t := by (unfold mvBad; omega)
             exact ⟨_, _, rfl, ⟨.slice none 0 0, by rw [show mvE l f m t = 1 from if_pos hb], by rw [show mvF l f m t = [] from if_pos hb]; rfl⟩, new_nil _ 3 (hp)⟩)
          | exact ⟨_, _, rfl, ⟨_, by (rw [n3, show mvE l jf jm jt = 0 from if_neg hnb]; first | done | rfl), by (rw [n4, show mvF l jf jm jt = closeF (mvP l.length (bg l jt) ((l.drop (bg l jf)).take (bg l ((jf : Int) + jm) - bg l jf))) (mvD l.length (bg l jf) (bg l ((jf : Int) + jm))) from if_neg hnb, ba, bb, bq]; first | done | rfl)⟩, (hp)⟩
       ·refine TL.gT rfl rfl (TL.opP rfl (op_move rfl) (TL.gT rfl rfl (TL.opP rfl (op_move rfl) (TL.gT rfl rfl (TL.opP rfl (op_nilCheck rfl) (TL.gT rfl rfl (TL.opP rfl (op_field fld_lines_Index_begin rfl) (TL.gT rfl rfl (TL.opV rfl (op_load ts_sl_int rfl m0 rfl) (TL.gT rfl rfl (TL.opV rfl (op_lenV rfl un_sl_int rfl hxb.cons) (TL.gT rfl rfl (TL.opP rfl (op_geq rfl rfl) (TL.opP rfl (op_pickF rfl rfl) (TL.opP rfl (op_assign rfl) (TL.nil (TQ.then ?_)))))))))))))))))
        first | refine TC.condD rfl (fun c7 => ?_) (fun c7 => ?_) | refine TC.condB rfl (fun c7 => ?_) (fun c7 => ?_)
        ·refine TC.seq (TC.region (TL.opP rfl (op_assign rfl) (TL.opP rfl (op_assign rfl) (TL.nil (TQ.then (TC.ret (TQ.block_ret (TQ.join_ret ?_))))))))
         refine ret2 rfl rfl rfl (fun w' hp => ?_)
         first
           | (have hb : mvBad l f m t := by (unfold mvBad; omega)
              exact ⟨_, _, rfl, ⟨.slice none 0 0, by rw [show mvE l f m t = 1 from if_pos hb], by rw [show mvF l f m t = [] from if_pos hb]; rfl⟩, new_nil _ 3 (hp)⟩)
           | exact ⟨_, _, rfl, ⟨_, by (rw [n3, show mvE l jf jm jt = 0 from if_neg hnb]; first | done | rfl), by (rw [n4, show mvF l jf jm jt = closeF (mvP l.length (bg l jt) ((l.drop (bg l jf)).take (bg l ((jf : Int) + jm) - bg l jf))) (mvD l.length (bg l jf) (bg l ((jf : Int) + jm))) from if_neg hnb, ba, bb, bq]; first | done | rfl)⟩, (hp)⟩
        ·refine TC.seq (TC.region (TL.opP rfl (op_move rfl) (TL.opP rfl (op_move rfl) (TL.opP rfl (op_gtr rfl rfl) (TL.opP rfl (op_move rfl) ?_)))))
         first | refine TL.splitD (fun c8 => ?_) (fun c8 => ?_) | refine TL.splitB (fun c8 => ?_) (fun c8 => ?_)
         ·refine TL.gT rfl rfl (TL.opP rfl (op_move rfl) (TL.gT rfl rfl (TL.opP rfl (op_move rfl) (TL.gT rfl rfl (TL.opP rfl (op_move rfl) (TL.gT rfl rfl (TL.opP rfl (op_add rfl rfl rfl (by omega) (by omega)) (TL.gT rfl rfl (TL.opP rfl (op_lss rfl rfl) (TL.opP rfl (op_pickT rfl rfl) (TL.opP rfl (op_assign rfl) (TL.nil (TQ.then ?_)))))))))))))
          first | refine TC.condD rfl (fun c9 => ?_) (fun c9 => ?_) | refine TC.condB rfl (fun c9 => ?_) (fun c9 => ?_)
          ·refine TC.seq (TC.region (TL.opP rfl (op_assign rfl) (TL.opP rfl (op_assign rfl) (TL.nil (TQ.then (TC.ret (TQ.block_ret (TQ.join_ret ?_))))))))
           refine ret2 rfl rfl rfl (fun w' hp => ?_)
           first
             | (have hb : mvBad l f m t := by (unfold mvBad; omega)
                exact ⟨_, _, rfl, ⟨.slice none 0 0, by rw [show mvE l f m t = 1 from if_pos hb], by rw [show mvF l f m t = [] from if_pos hb]; rfl⟩, new_nil _ 3 (hp)⟩)
             | exact ⟨_, _, rfl, ⟨_, by (rw [n3, show mvE l jf jm jt = 0 from if_neg hnb]; first | done | rfl), by (rw [n4, show mvF l jf jm jt = closeF (mvP l.length (bg l jt) ((l.drop (bg l jf)).take (bg l ((jf : Int) + jm) - bg l jf))) (mvD l.length (bg l jf) (bg l ((jf : Int) + jm))) from if_neg hnb, ba, bb, bq]; first | done | rfl)⟩, (hp)⟩
          ·refine TC.skip (TQ.block_normal ?_)
           exact TQ.join (()) (by unfold mvBad; omega) ⟨rfl, rfl, rfl, rfl, trivial⟩ (fun _ h => h)
         ·refine TL.gFf rfl rfl rfl (TL.gFf rfl rfl rfl (TL.gFf rfl rfl rfl (TL.gFf rfl rfl rfl (TL.gFf rfl rfl rfl (TL.opP rfl (op_pickF rfl rfl) (TL.opP rfl (op_assign rfl) (TL.nil (TQ.then (TC.condF rfl (TC.skip (TQ.block_normal ?_)))))))))))
          exact TQ.join (()) (by unfold mvBad; omega) ⟨rfl, rfl, rfl, rfl, trivial⟩ (fun _ h => h)
 ·rintro _ (hnb : ¬ mvBad l f m t)
  obtain ⟨jf, jm, jt, a, b, q, rfl, rfl, rfl, g1, g2, ga, gb, gq, ba, bb, bq, hab, hbn, hqn, hq1, hq2⟩ := mv_facts hnb
  have hts : ∀ x ∈ ((l.drop a).take (b - a)), scalar x := fun x hx => hsc x (List.mem_of_mem_drop (List.mem_of_mem_take hx))
  obtain ⟨n1, n2, n3, n4⟩ := move_law (n := l.length) (a := a) (b := b) (q := q) (c := if (jf : Int) < jt then (q : Int) - ((b : Int) - a) else q) (t := ((l.drop a).take (b - a))) hts (by omega) hab hbn (by rw [List.length_take, List.length_drop]; omega) (by by_cases cc : (jf : Int) < jt; exact .inr ⟨hq2 cc, hqn, if_pos cc⟩; exact .inl ⟨hq1 cc, if_neg cc⟩)
  refine TC.seq (TC.draw [] (.cons (.p, 0) (.cons (.p, 1) (.cons (.p, 2) (.cons (.p, 4) (.cons (.p, 7) (.cons (.p, 8) (.cons (.p, 9) (.cons (.p, 11) (.cons (.p, 12) (.cons (.p, 13) (.cons (.t, 3) (.cons (.t, 5) (.cons (.t, 6) (.cons (.p, 16) (.cons (.t, 10) (.cons (.t, 14) (.cons (.t, 15) (.cons (.p, 17) (.nil))))))))))))))))))) mo (by kernel_rfl) (TR.p rfl rfl wt0 (op_move rfl) (TR.p rfl rfl wt0 (op_nilCheck rfl) (TR.p rfl rfl wt0 (op_field fld_lines_Index_begin rfl) (TR.p rfl rfl wt0 (op_move rfl) (TR.p rfl rfl wt0 (op_move rfl) (TR.p rfl rfl wt0 (op_nilCheck rfl) (TR.p rfl rfl wt0 (op_field fld_lines_Index_begin rfl) (TR.p rfl rfl wt0 (op_move rfl) (TR.p rfl rfl wt0 (op_move rfl) (TR.p rfl rfl wt0 (op_add rfl rfl rfl (by omega) (by omega)) ?_)))))))))))
  refine TR.t rfl rfl wt0 (op_load ts_sl_int rfl m0 rfl) (fun _ h => h) (TR.t rfl rfl wt0 (op_index tsl_int rfl hxb.cons rfl (by omega) (by omega)) (fun _ h => h) (TR.t rfl rfl wt0 (op_loadR ts_int rfl hxb.cons (lkM (f := nv) (i := jf) (d := 0) (by omega) ga (by omega))) (fun _ h => h) (TR.p rfl rfl wt0 (op_assign rfl) (TR.t rfl rfl wt0 (op_load ts_sl_int rfl m0 rfl) (fun _ h => h) (TR.t rfl rfl wt0 (op_index tsl_int rfl hxb.cons rfl (by omega) (by omega)) (fun _ h => h) (TR.t rfl rfl wt0 (op_loadR ts_int rfl hxb.cons (lkM (f := nv) (i := (jf + jm)) (d := 0) (by omega) gb (by omega))) (fun _ h => h) (TR.p rfl rfl wt0 (op_assign rfl) (TR.nil (TQ.then (TC.seq (TC.region (TL.opP rfl (op_move rfl) (TL.opP rfl (op_nilCheck rfl) ?_)))))))))))))
  refine TL.opP rfl (op_field fld_lines_Index_text rfl) (TL.opV rfl (op_load ts_sl_int32 rfl m0 rfl) (TL.opP rfl (op_move rfl) (TL.opP rfl (op_move rfl) (TL.opV rfl (op_cut a b tsl_int32 rfl hxt.cons (vlo := (some _)) (vhi := (some _)) rfl rfl (.inr ⟨_, _, rfl, by omega⟩) (.inr ⟨_, _, rfl, by omega⟩) (by omega) (by omega)) (TL.opV rfl (op_unrunes tsl_int32 un_int32 un_string rfl (ints_cut hxt.cons a b hab hbn)) (TL.opP rfl (op_assign rfl) (TL.nil (TQ.then (TC.seq (TC.region (TL.opP rfl (op_move rfl) (TL.opP rfl (op_nilCheck rfl) (TL.opP rfl (op_field fld_lines_Index_text rfl) (TL.opV rfl (op_load ts_sl_int32 rfl m0 rfl) (TL.opV rfl (op_lenV rfl un_sl_int32 rfl hxt.cons) (TL.opP rfl (op_move rfl) (TL.opP rfl (op_move rfl) ?_)))))))))))))))))
  refine TL.opP rfl (op_move rfl) (TL.opP rfl (op_sub rfl rfl rfl (by omega) (by omega)) ?_)
  refine TL.opX rfl (OpX.callX en_68 rfl (replace_x (l.length : Int) a ((b : Int) - a) ⟨#[]⟩ (by decide) (.tail _ hT))) ?_; rintro _ _ ⟨w2, rfl, rfl⟩
  refine TL.opP rfl (op_move rfl) (TL.opP rfl (op_extract rfl rfl) (TL.opP rfl (op_extract rfl rfl) (TL.opP rfl (op_assign rfl) (TL.opP rfl (op_assign rfl) (TL.nil (TQ.then (TC.seq (TC.seq (TC.region (TL.opP rfl (op_move rfl) (TL.opP rfl (op_neq rfl rfl) (TL.nil (TQ.then ?_)))))))))))))
  first | refine TC.condD rfl (fun c10 => ?_) (fun c10 => ?_) | refine TC.condB rfl (fun c10 => ?_) (fun c10 => ?_)
  ·exact absurd n1 c10
  ·refine TC.skip (TQ.then (TC.seq (TC.region (TL.opP rfl (op_move rfl) (TL.opP rfl (op_nilCheck rfl) (TL.opP rfl (op_field fld_lines_Index_begin rfl) (TL.opV rfl (op_load ts_sl_int rfl m1 rfl) (TL.opP rfl (op_move rfl) (TL.opV rfl (op_index tsl_int rfl hxb.cons.cons rfl (by omega) (by omega)) (TL.opV rfl (op_loadR ts_int rfl hxb.cons.cons (lkM (f := nv) (i := jt) (d := 0) (by omega) gq (by omega))) (TL.opP rfl (op_assign rfl) (TL.nil (TQ.then (TC.seq (TC.seq (TC.region (TL.opP rfl (op_move rfl) (TL.opP rfl (op_move rfl) (TL.opP rfl (op_gtr rfl rfl) (TL.nil (TQ.then ?_)))))))))))))))))))))
   first | refine TC.condD rfl (fun c11 => ?_) (fun c11 => ?_) | refine TC.condB rfl (fun c11 => ?_) (fun c11 => ?_)
   ·rw [if_pos c11] at n2 n3 n4
    refine TC.region (TL.opP rfl (op_move rfl) (TL.opP rfl (op_move rfl) (TL.opP rfl (op_move rfl) (TL.opP rfl (op_sub rfl rfl rfl (by omega) (by omega)) (TL.opP rfl (op_sub rfl rfl rfl (by omega) (by omega)) (TL.opP rfl (op_assign rfl) (TL.nil (TQ.then (TC.seq (TC.region (TL.opP rfl (op_move rfl) (TL.opP rfl (op_nilCheck rfl) (TL.opP rfl (op_field fld_lines_Index_text rfl) (TL.opV rfl (op_load ts_sl_int32 rfl m1 rfl) (TL.opV rfl (op_lenV rfl un_sl_int32 rfl hxt.cons.cons) (TL.opP rfl (op_move rfl) (TL.opP rfl (op_move rfl) (TL.opP rfl (op_sub rfl rfl rfl (by omega) (by omega)) (TL.opP rfl (op_sub rfl rfl rfl (by omega) (by omega)) (TL.opP rfl (op_move rfl) (TL.opP rfl (op_move rfl) ?_)))))))))))))))))))))
    refine TL.opX rfl (OpX.callX en_68 rfl (replace_x ((l.length : Int) - ((b : Int) - a)) _ 0 (enc ((l.drop a).take (b - a))) (by have := (enc_size ((l.drop a).take (b - a))).2; rw [List.length_take, List.length_drop] at this; omega) (.tail _ (.tail _ hT)))) ?_; rintro _ _ ⟨w3, rfl, rfl⟩
    refine TL.opP rfl (op_move rfl) (TL.opP rfl (op_extract rfl rfl) (TL.opP rfl (op_extract rfl rfl) (TL.opP rfl (op_assign rfl) (TL.opP rfl (op_assign rfl) (TL.nil (TQ.then (TC.seq (TC.seq (TC.region (TL.opP rfl (op_move rfl) (TL.opP rfl (op_neq rfl rfl) (TL.nil (TQ.then ?_)))))))))))))
    first | refine TC.condD rfl (fun c12 => ?_) (fun c12 => ?_) | refine TC.condB rfl (fun c12 => ?_) (fun c12 => ?_)
    ·exact absurd n2 c12
    ·refine TC.skip (TQ.then (TC.seq (TC.region (TL.opP rfl (op_move rfl) (TL.opP rfl (op_move rfl) ?_)))))
     refine TL.opX rfl (OpX.callX en_69 rfl (compose_x (replF (l.length : Int) a ((b : Int) - a) ⟨#[]⟩) (replF ((l.length : Int) - ((b : Int) - a)) _ 0 (enc ((l.drop a).take (b - a)))) _ _ (repl_small _ _ _ _) (repl_small _ _ _ _) (Nat.le_trans (repl_len _ _ _ _) (by decide)) (Nat.le_trans (repl_len _ _ _ _) (by decide)) (.tail _ (.tail _ (.tail _ hT))) rw1 rw0)) ?_; rintro _ _ ⟨w4, rfl, rfl⟩
     refine TL.opP rfl (op_extract rfl rfl) (TL.opP rfl (op_extract rfl rfl) (TL.opP rfl (op_assign rfl) (TL.opP rfl (op_assign rfl) (TL.nil (TQ.then (TC.ret ?_))))))
     refine ret2 rfl rfl rfl (fun w' hp => ?_)
     first
       | (have hb : mvBad l f m t := by (unfold mvBad; omega)
          exact ⟨_, _, rfl, ⟨.slice none 0 0, by rw [show mvE l f m t = 1 from if_pos hb], by rw [show mvF l f m t = [] from if_pos hb]; rfl⟩, new_nil _ 3 (hp.drop2.drop1)⟩)
       | exact ⟨_, _, rfl, ⟨_, by (rw [n3, show mvE l jf jm jt = 0 from if_neg hnb]; first | done | rfl), by (rw [n4, show mvF l jf jm jt = closeF (mvP l.length (bg l jt) ((l.drop (bg l jf)).take (bg l ((jf : Int) + jm) - bg l jf))) (mvD l.length (bg l jf) (bg l ((jf : Int) + jm))) from if_neg hnb, ba, bb, bq]; first | done | rfl)⟩, (hp.drop2.drop1)⟩
   ·rw [if_neg c11] at n2 n3 n4
    refine TC.skip (TQ.then (TC.seq (TC.region (TL.opP rfl (op_move rfl) (TL.opP rfl (op_nilCheck rfl) (TL.opP rfl (op_field fld_lines_Index_text rfl) (TL.opV rfl (op_load ts_sl_int32 rfl m1 rfl) (TL.opV rfl (op_lenV rfl un_sl_int32 rfl hxt.cons.cons) (TL.opP rfl (op_move rfl) (TL.opP rfl (op_move rfl) (TL.opP rfl (op_sub rfl rfl rfl (by omega) (by omega)) (TL.opP rfl (op_sub rfl rfl rfl (by omega) (by omega)) (TL.opP rfl (op_move rfl) (TL.opP rfl (op_move rfl) ?_))))))))))))))
    refine TL.opX rfl (OpX.callX en_68 rfl (replace_x ((l.length : Int) - ((b : Int) - a)) _ 0 (enc ((l.drop a).take (b - a))) (by have := (enc_size ((l.drop a).take (b - a))).2; rw [List.length_take, List.length_drop] at this; omega) (.tail _ (.tail _ hT)))) ?_; rintro _ _ ⟨w5, rfl, rfl⟩
    refine TL.opP rfl (op_move rfl) (TL.opP rfl (op_extract rfl rfl) (TL.opP rfl (op_extract rfl rfl) (TL.opP rfl (op_assign rfl) (TL.opP rfl (op_assign rfl) (TL.nil (TQ.then (TC.seq (TC.seq (TC.region (TL.opP rfl (op_move rfl) (TL.opP rfl (op_neq rfl rfl) (TL.nil (TQ.then ?_)))))))))))))
    first | refine TC.condD rfl (fun c13 => ?_) (fun c13 => ?_) | refine TC.condB rfl (fun c13 => ?_) (fun c13 => ?_)
    ·exact absurd n2 c13
    ·refine TC.skip (TQ.then (TC.seq (TC.region (TL.opP rfl (op_move rfl) (TL.opP rfl (op_move rfl) ?_)))))
     refine TL.opX rfl (OpX.callX en_69 rfl (compose_x (replF (l.length : Int) a ((b : Int) - a) ⟨#[]⟩) (replF ((l.length : Int) - ((b : Int) - a)) _ 0 (enc ((l.drop a).take (b - a)))) _ _ (repl_small _ _ _ _) (repl_small _ _ _ _) (Nat.le_trans (repl_len _ _ _ _) (by decide)) (Nat.le_trans (repl_len _ _ _ _) (by decide)) (.tail _ (.tail _ (.tail _ hT))) rw1 rw0)) ?_; rintro _ _ ⟨w6, rfl, rfl⟩
     refine TL.opP rfl (op_extract rfl rfl) (TL.opP rfl (op_extract rfl rfl) (TL.opP rfl (op_assign rfl) (TL.opP rfl (op_assign rfl) (TL.nil (TQ.then (TC.ret ?_))))))
     refine ret2 rfl rfl rfl (fun w' hp => ?_)
     first
       | (have hb : mvBad l f m t := by (unfold mvBad; omega)
          exact ⟨_, _, rfl, ⟨.slice none 0 0, by rw [show mvE l f m t = 1 from if_pos hb], by rw [show mvF l f m t = [] from if_pos hb]; rfl⟩, new_nil _ 3 (hp.drop2.drop1)⟩)
       | exact ⟨_, _, rfl, ⟨_, by (rw [n3, show mvE l jf jm jt = 0 from if_neg hnb]; first | done | rfl), by (rw [n4, show mvF l jf jm jt = closeF (mvP l.length (bg l jt) ((l.drop (bg l jf)).take (bg l ((jf : Int) + jm) - bg l jf))) (mvD l.length (bg l jf) (bg l ((jf : Int) + jm))) from if_neg hnb, ba, bb, bq]; first | done | rfl)⟩, (hp.drop2.drop1)⟩

end Go.SK
