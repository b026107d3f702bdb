/- Layer 12: the document's reader: signs, sets. -/
import Derived.Test.YtpomdenbgdgbhaaDoorE78
set_option linter.unusedVariables false
set_option linter.unusedSimpArgs false
set_option maxRecDepth 100000
namespace Go.SK
open Go Go.RowKit Go.Proofs
variable {S : Nat → Prop} {w0 : World} {F L : List Res}
theorem nx_nn {l : List Int} (hps : ∀ x ∈ l, 0 ≤ x) {i : Nat} (h : i < l.length) : 0 ≤ nx l i := by
  rw [nx_in h, List.getD_eq_getElem?_getD, List.getElem?_eq_getElem h]; exact hps _ (List.getElem_mem h)
def sgnB (c : Int) : Prop := c < 0 ∨ (48 ≤ c ∧ c ≤ 57) ∨ (65 ≤ c ∧ c ≤ 90) ∨ ((97 ≤ c ∧ c ≤ 122) ∧ ¬ (c = 100 ∨ c = 119 ∨ c = 115 ∨ c = 110 ∨ c = 116))
instance (c : Int) : Decidable (sgnB c) := by unfold sgnB; infer_instance
theorem sgn_bad {l : List Int} (hps : ∀ x ∈ l, 0 ≤ x) {i : Nat} (h : sgnB (nx l i)) : escF l i = .err 90 i := by
  by_cases hi : i < l.length
  · have h0 := nx_nn hps hi
    unfold sgnB at h
    exact escF_b hi (by unfold namedF; rw [if_neg (by omega), if_neg (by omega), if_neg (by omega), if_neg (by omega), if_neg (by omega), if_pos (by omega)])
  · exact escF_a hi
structure XRes (rs rs' : List Res) (r : PR (List (Int × Int))) (i' : Nat) (e : Int) (p : Pc) : Prop where
  sub : rs ⊆ rs'
  kv : p.kv = nilS
  set : ∃ s' : List (Int × Int), Res.rd p.sv 2 s'.length (spC s') ∈ rs' ∧ s'.length ≤ 4 ∧ (match r with
    | .ok s j _ => e = 0 ∧ i' = j ∧ p.k = 1 ∧ p.neg = false ∧ s'.length = s.length ∧ (∀ c, inS s' c = inS s c)
    | .err e' j => e = e' ∧ e' ≠ 0 ∧ i' = j)
theorem XRes.bad {l : List Int} (hps : ∀ x ∈ l, 0 ≤ x) {rs : List Res} {i : Nat} (h : sgnB (nx l i)) : XRes rs (.rd nilS 2 0 [] :: rs) (escF l i) i 90 default :=
  ⟨fun x hx => .tail _ hx, rfl, [], .head _, by decide, by rw [sgn_bad hps h]; exact ⟨rfl, by decide, rfl⟩⟩
theorem XRes.ok {l : List Int} {rs : List Res} {i : Nat} {sv : Value} {s s' : List (Int × Int)} {ho : sv.oneCell' = true} (hi : i < l.length) (hn : namedF (nx l i) = some s) (hl : s'.length = s.length) (h4 : s.length ≤ 4) (he : ∀ c, inS s' c = inS s c) :
    XRes rs (.rd sv 2 s'.length (spC s') :: rs) (escF l i) (i + 1) 0 ⟨1, false, sv, nilS, 0, 0, false, 0, ho, rfl⟩ :=
  ⟨fun x hx => .tail _ hx, rfl, s', .head _, by omega, by rw [escF_c hi hn]; exact ⟨rfl, rfl, rfl, rfl, hl, he⟩⟩
section
variable {c : Int}
theorem nm_d (h : c = 100) : namedF c = some [(48, 57)] := by subst h; rfl
theorem nm_w (h : c = 119) : namedF c = some [(48, 57), (65, 90), (95, 95), (97, 122)] := by subst h; rfl
theorem nm_s (h : c = 115) : namedF c = some [(9, 10), (32, 32)] := by subst h; rfl
theorem nm_n (h : c = 110) : namedF c = some [(10, 10)] := by subst h; rfl
theorem nm_t (h : c = 116) : namedF c = some [(9, 9)] := by subst h; rfl
theorem nm_o (h : ¬ sgnB c) (h1 : ¬ c = 100) (h2 : ¬ c = 119) (h3 : ¬ c = 115) (h4 : ¬ c = 110) (h5 : ¬ c = 116) : namedF c = some [(c, c)] := by
  unfold sgnB at h; unfold namedF
  rw [if_neg h1, if_neg h2, if_neg h3, if_neg h4, if_neg h5, if_neg (by omega)]
end
theorem w_set (c : Int) : inS [(48, 57), (65, 90), (97, 122), (95, 95)] c = inS [(48, 57), (65, 90), (95, 95), (97, 122)] c := by
  unfold inS; simp only [List.any_cons, List.any_nil, Bool.or_false]; ac_rfl
theorem xsign_x (l : List Int) (lv : Value) (g i gn : Nat) (hxl : Rdb F lv 1 l.length (l.map (Value.int .i32))) (hln : l.length ≤ 200) (hps : ∀ x ∈ l, 0 ≤ x) (rs : List Res) :
    CallX Tryd.prog 151 [.pointer (some ⟨g, 0, none⟩)] S w0 (fz rs :: .blk g (.cells [lv, .int .i64 (((i : Nat) : Int) : Int), .int .i64 (((gn : Nat) : Int) : Int), .int .i64 (0)].toArray 126 (0, 0)) :: F) (fun u L' => ∃ rs' i' e p, u = Pc.val p ∧ XRes rs rs' (escF l i) i' e p ∧ L' = fz rs' :: .blk g (.cells [lv, .int .i64 (((i' : Nat) : Int) : Int), .int .i64 (((gn : Nat) : Int) : Int), .int .i64 (e)].toArray 126 (0, 0)) :: F) := by
 intro w hp
 refine calls_start Tryd.func151 rfl rfl rfl (hp) ?_
 refine TC.seq (TC.region ?_)
 refine TL.opX rfl (OpX.alloc tz_sealskinref12_Part rfl) ?_; rintro _ _ ⟨g2, rfl, rfl⟩
 refine TL.nil (TQ.then (TC.seq (TC.region (TL.mv rfl rfl (TL.hp (fun _ h => h.pick2) ?_)))))
 refine TL.opX rfl (OpX.callX en_118 rfl (xpeek0_x l _ _ i gn hxl.cons.cons hln)) ?_; rintro _ _ ⟨rfl, rfl⟩
 refine TL.as rfl rfl (TL.nil (TQ.then ?_))
 refine TC.join1 [(0, .pointer (some ⟨g, 0, none⟩)), (2, .pointer (some ⟨g2, 0, none⟩)), (3, .int .i32 (nx l i)), (4, .bool (decide (48 ≤ nx l i ∧ nx l i ≤ 57))), (5, .bool (decide (97 ≤ nx l i ∧ nx l i ≤ 122))), (6, .bool (decide (65 ≤ nx l i ∧ nx l i ≤ 90)))] (.blk g2 (.cells (nodeC 0 false nilS nilS 0 0 false 0).toArray 130 (0, 0)) :: fz rs :: .blk g (.cells [lv, .int .i64 (((i : Nat) : Int) : Int), .int .i64 (((gn : Nat) : Int) : Int), .int .i64 (0)].toArray 126 (0, 0)) :: F) ?_ ?_
 ·refine TC.region (TL.mv rfl rfl (TL.opP rfl (op_geq rfl rfl) (TL.opP rfl (op_move rfl) ?_)))
  refine TL.sp (fun c1 => ?_) (fun c1 => ?_)
  ·refine TL.gT rfl rfl (TL.mv rfl rfl (TL.gT rfl rfl (TL.opP rfl (op_leq rfl rfl) (TL.opP rfl (op_pickT rfl rfl) (TL.mv rfl rfl (TL.opP rfl (op_geq rfl rfl) (TL.opP rfl (op_move rfl) ?_)))))))
   refine TL.sp (fun c2 => ?_) (fun c2 => ?_)
   ·refine TL.gT rfl rfl (TL.mv rfl rfl (TL.gT rfl rfl (TL.opP rfl (op_leq rfl rfl) (TL.opP rfl (op_pickT rfl rfl) (TL.mv rfl rfl (TL.opP rfl (op_geq rfl rfl) (TL.opP rfl (op_move rfl) ?_)))))))
    refine TL.sp (fun c3 => ?_) (fun c3 => ?_)
    ·refine TL.gT rfl rfl (TL.mv rfl rfl (TL.gT rfl rfl (TL.opP rfl (op_leq rfl rfl) (TL.opP rfl (op_pickT rfl rfl) (TL.as rfl rfl (TL.as rfl rfl (TL.as rfl rfl (TL.nil ?_))))))))
     exact TQ.join1 ⟨rfl, rfl, rfl, gb rfl (by rw [Bool.eq_iff_iff]; simp only [decide_eq_true_eq, Bool.false_eq_true, eq_self, true_iff, false_iff, Bool.not_eq_true', decide_eq_false_iff_not, sgnB]; omega), gb rfl (by rw [Bool.eq_iff_iff]; simp only [decide_eq_true_eq, Bool.false_eq_true, eq_self, true_iff, false_iff, Bool.not_eq_true', decide_eq_false_iff_not, sgnB]; omega), gb rfl (by rw [Bool.eq_iff_iff]; simp only [decide_eq_true_eq, Bool.false_eq_true, eq_self, true_iff, false_iff, Bool.not_eq_true', decide_eq_false_iff_not, sgnB]; omega), trivial⟩ (fun _ h => h.pick2.pick2)
    ·refine TL.gFf rfl rfl rfl (TL.gFf rfl rfl rfl (TL.opP rfl (op_pickF rfl rfl) (TL.as rfl rfl (TL.as rfl rfl (TL.as rfl rfl (TL.nil ?_))))))
     exact TQ.join1 ⟨rfl, rfl, rfl, gb rfl (by rw [Bool.eq_iff_iff]; simp only [decide_eq_true_eq, Bool.false_eq_true, eq_self, true_iff, false_iff, Bool.not_eq_true', decide_eq_false_iff_not, sgnB]; omega), gb rfl (by rw [Bool.eq_iff_iff]; simp only [decide_eq_true_eq, Bool.false_eq_true, eq_self, true_iff, false_iff, Bool.not_eq_true', decide_eq_false_iff_not, sgnB]; omega), gb rfl (by rw [Bool.eq_iff_iff]; simp only [decide_eq_true_eq, Bool.false_eq_true, eq_self, true_iff, false_iff, Bool.not_eq_true', decide_eq_false_iff_not, sgnB]; omega), trivial⟩ (fun _ h => h.pick2.pick2)
   ·refine TL.gFf rfl rfl rfl (TL.gFf rfl rfl rfl (TL.opP rfl (op_pickF rfl rfl) (TL.mv rfl rfl (TL.opP rfl (op_geq rfl rfl) (TL.opP rfl (op_move rfl) ?_)))))
    refine TL.sp (fun c4 => ?_) (fun c4 => ?_)
    ·refine TL.gT rfl rfl (TL.mv rfl rfl (TL.gT rfl rfl (TL.opP rfl (op_leq rfl rfl) (TL.opP rfl (op_pickT rfl rfl) (TL.as rfl rfl (TL.as rfl rfl (TL.as rfl rfl (TL.nil ?_))))))))
     exact TQ.join1 ⟨rfl, rfl, rfl, gb rfl (by rw [Bool.eq_iff_iff]; simp only [decide_eq_true_eq, Bool.false_eq_true, eq_self, true_iff, false_iff, Bool.not_eq_true', decide_eq_false_iff_not, sgnB]; omega), gb rfl (by rw [Bool.eq_iff_iff]; simp only [decide_eq_true_eq, Bool.false_eq_true, eq_self, true_iff, false_iff, Bool.not_eq_true', decide_eq_false_iff_not, sgnB]; omega), gb rfl (by rw [Bool.eq_iff_iff]; simp only [decide_eq_true_eq, Bool.false_eq_true, eq_self, true_iff, false_iff, Bool.not_eq_true', decide_eq_false_iff_not, sgnB]; omega), trivial⟩ (fun _ h => h.pick2.pick2)
    ·refine TL.gFf rfl rfl rfl (TL.gFf rfl rfl rfl (TL.opP rfl (op_pickF rfl rfl) (TL.as rfl rfl (TL.as rfl rfl (TL.as rfl rfl (TL.nil ?_))))))
     exact TQ.join1 ⟨rfl, rfl, rfl, gb rfl (by rw [Bool.eq_iff_iff]; simp only [decide_eq_true_eq, Bool.false_eq_true, eq_self, true_iff, false_iff, Bool.not_eq_true', decide_eq_false_iff_not, sgnB]; omega), gb rfl (by rw [Bool.eq_iff_iff]; simp only [decide_eq_true_eq, Bool.false_eq_true, eq_self, true_iff, false_iff, Bool.not_eq_true', decide_eq_false_iff_not, sgnB]; omega), gb rfl (by rw [Bool.eq_iff_iff]; simp only [decide_eq_true_eq, Bool.false_eq_true, eq_self, true_iff, false_iff, Bool.not_eq_true', decide_eq_false_iff_not, sgnB]; omega), trivial⟩ (fun _ h => h.pick2.pick2)
  ·refine TL.gFf rfl rfl rfl (TL.gFf rfl rfl rfl (TL.opP rfl (op_pickF rfl rfl) (TL.mv rfl rfl (TL.opP rfl (op_geq rfl rfl) (TL.opP rfl (op_move rfl) ?_)))))
   refine TL.sp (fun c5 => ?_) (fun c5 => ?_)
   ·refine TL.gT rfl rfl (TL.mv rfl rfl (TL.gT rfl rfl (TL.opP rfl (op_leq rfl rfl) (TL.opP rfl (op_pickT rfl rfl) (TL.mv rfl rfl (TL.opP rfl (op_geq rfl rfl) (TL.opP rfl (op_move rfl) ?_)))))))
    refine TL.sp (fun c6 => ?_) (fun c6 => ?_)
    ·refine TL.gT rfl rfl (TL.mv rfl rfl (TL.gT rfl rfl (TL.opP rfl (op_leq rfl rfl) (TL.opP rfl (op_pickT rfl rfl) (TL.as rfl rfl (TL.as rfl rfl (TL.as rfl rfl (TL.nil ?_))))))))
     exact TQ.join1 ⟨rfl, rfl, rfl, gb rfl (by rw [Bool.eq_iff_iff]; simp only [decide_eq_true_eq, Bool.false_eq_true, eq_self, true_iff, false_iff, Bool.not_eq_true', decide_eq_false_iff_not, sgnB]; omega), gb rfl (by rw [Bool.eq_iff_iff]; simp only [decide_eq_true_eq, Bool.false_eq_true, eq_self, true_iff, false_iff, Bool.not_eq_true', decide_eq_false_iff_not, sgnB]; omega), gb rfl (by rw [Bool.eq_iff_iff]; simp only [decide_eq_true_eq, Bool.false_eq_true, eq_self, true_iff, false_iff, Bool.not_eq_true', decide_eq_false_iff_not, sgnB]; omega), trivial⟩ (fun _ h => h.pick2.pick2)
    ·refine TL.gFf rfl rfl rfl (TL.gFf rfl rfl rfl (TL.opP rfl (op_pickF rfl rfl) (TL.as rfl rfl (TL.as rfl rfl (TL.as rfl rfl (TL.nil ?_))))))
     exact TQ.join1 ⟨rfl, rfl, rfl, gb rfl (by rw [Bool.eq_iff_iff]; simp only [decide_eq_true_eq, Bool.false_eq_true, eq_self, true_iff, false_iff, Bool.not_eq_true', decide_eq_false_iff_not, sgnB]; omega), gb rfl (by rw [Bool.eq_iff_iff]; simp only [decide_eq_true_eq, Bool.false_eq_true, eq_self, true_iff, false_iff, Bool.not_eq_true', decide_eq_false_iff_not, sgnB]; omega), gb rfl (by rw [Bool.eq_iff_iff]; simp only [decide_eq_true_eq, Bool.false_eq_true, eq_self, true_iff, false_iff, Bool.not_eq_true', decide_eq_false_iff_not, sgnB]; omega), trivial⟩ (fun _ h => h.pick2.pick2)
   ·refine TL.gFf rfl rfl rfl (TL.gFf rfl rfl rfl (TL.opP rfl (op_pickF rfl rfl) (TL.mv rfl rfl (TL.opP rfl (op_geq rfl rfl) (TL.opP rfl (op_move rfl) ?_)))))
    refine TL.sp (fun c7 => ?_) (fun c7 => ?_)
    ·refine TL.gT rfl rfl (TL.mv rfl rfl (TL.gT rfl rfl (TL.opP rfl (op_leq rfl rfl) (TL.opP rfl (op_pickT rfl rfl) (TL.as rfl rfl (TL.as rfl rfl (TL.as rfl rfl (TL.nil ?_))))))))
     exact TQ.join1 ⟨rfl, rfl, rfl, gb rfl (by rw [Bool.eq_iff_iff]; simp only [decide_eq_true_eq, Bool.false_eq_true, eq_self, true_iff, false_iff, Bool.not_eq_true', decide_eq_false_iff_not, sgnB]; omega), gb rfl (by rw [Bool.eq_iff_iff]; simp only [decide_eq_true_eq, Bool.false_eq_true, eq_self, true_iff, false_iff, Bool.not_eq_true', decide_eq_false_iff_not, sgnB]; omega), gb rfl (by rw [Bool.eq_iff_iff]; simp only [decide_eq_true_eq, Bool.false_eq_true, eq_self, true_iff, false_iff, Bool.not_eq_true', decide_eq_false_iff_not, sgnB]; omega), trivial⟩ (fun _ h => h.pick2.pick2)
    ·refine TL.gFf rfl rfl rfl (TL.gFf rfl rfl rfl (TL.opP rfl (op_pickF rfl rfl) (TL.as rfl rfl (TL.as rfl rfl (TL.as rfl rfl (TL.nil ?_))))))
     exact TQ.join1 ⟨rfl, rfl, rfl, gb rfl (by rw [Bool.eq_iff_iff]; simp only [decide_eq_true_eq, Bool.false_eq_true, eq_self, true_iff, false_iff, Bool.not_eq_true', decide_eq_false_iff_not, sgnB]; omega), gb rfl (by rw [Bool.eq_iff_iff]; simp only [decide_eq_true_eq, Bool.false_eq_true, eq_self, true_iff, false_iff, Bool.not_eq_true', decide_eq_false_iff_not, sgnB]; omega), gb rfl (by rw [Bool.eq_iff_iff]; simp only [decide_eq_true_eq, Bool.false_eq_true, eq_self, true_iff, false_iff, Bool.not_eq_true', decide_eq_false_iff_not, sgnB]; omega), trivial⟩ (fun _ h => h.pick2.pick2)
 ·refine TC.join1 [(0, .pointer (some ⟨g, 0, none⟩)), (2, .pointer (some ⟨g2, 0, none⟩)), (3, .int .i32 (nx l i)), (4, .bool (decide (48 ≤ nx l i ∧ nx l i ≤ 57))), (5, .bool (decide (97 ≤ nx l i ∧ nx l i ≤ 122))), (6, .bool (decide (65 ≤ nx l i ∧ nx l i ≤ 90))), (7, .bool (decide (nx l i = 100 ∨ nx l i = 119 ∨ nx l i = 115 ∨ nx l i = 110 ∨ nx l i = 116)))] (.blk g2 (.cells (nodeC 0 false nilS nilS 0 0 false 0).toArray 130 (0, 0)) :: fz rs :: .blk g (.cells [lv, .int .i64 (((i : Nat) : Int) : Int), .int .i64 (((gn : Nat) : Int) : Int), .int .i64 (0)].toArray 126 (0, 0)) :: F) ?_ ?_
  ·refine TC.region (TL.mv rfl rfl (TL.opP rfl (op_eql rfl rfl) (TL.opP rfl (op_move rfl) ?_)))
   refine TL.sp (fun c8 => ?_) (fun c8 => ?_)
   ·refine TL.gFt rfl rfl rfl (TL.gFt rfl rfl rfl (TL.opP rfl (op_pickT rfl rfl) (TL.mv rfl rfl (TL.gFt rfl rfl rfl (TL.gFt rfl rfl rfl (TL.opP rfl (op_pickT rfl rfl) (TL.mv rfl rfl (TL.gFt rfl rfl rfl (TL.gFt rfl rfl rfl (TL.opP rfl (op_pickT rfl rfl) (TL.mv rfl rfl (TL.gFt rfl rfl rfl (TL.gFt rfl rfl rfl (TL.opP rfl (op_pickT rfl rfl) (TL.as rfl rfl (TL.nil ?_))))))))))))))))
    exact TQ.join1 ⟨rfl, rfl, rfl, rfl, rfl, rfl, gb rfl (by rw [Bool.eq_iff_iff]; simp only [decide_eq_true_eq, Bool.false_eq_true, eq_self, true_iff, false_iff, Bool.not_eq_true', decide_eq_false_iff_not, sgnB]; omega), trivial⟩ (fun _ h => h)
   ·refine TL.gT rfl rfl (TL.mv rfl rfl (TL.gT rfl rfl (TL.opP rfl (op_eql rfl rfl) (TL.opP rfl (op_pickF rfl rfl) (TL.opP rfl (op_move rfl) ?_)))))
    refine TL.sp (fun c9 => ?_) (fun c9 => ?_)
    ·refine TL.gFt rfl rfl rfl (TL.gFt rfl rfl rfl (TL.opP rfl (op_pickT rfl rfl) (TL.mv rfl rfl (TL.gFt rfl rfl rfl (TL.gFt rfl rfl rfl (TL.opP rfl (op_pickT rfl rfl) (TL.mv rfl rfl (TL.gFt rfl rfl rfl (TL.gFt rfl rfl rfl (TL.opP rfl (op_pickT rfl rfl) (TL.as rfl rfl (TL.nil ?_))))))))))))
     exact TQ.join1 ⟨rfl, rfl, rfl, rfl, rfl, rfl, gb rfl (by rw [Bool.eq_iff_iff]; simp only [decide_eq_true_eq, Bool.false_eq_true, eq_self, true_iff, false_iff, Bool.not_eq_true', decide_eq_false_iff_not, sgnB]; omega), trivial⟩ (fun _ h => h)
    ·refine TL.gT rfl rfl (TL.mv rfl rfl (TL.gT rfl rfl (TL.opP rfl (op_eql rfl rfl) (TL.opP rfl (op_pickF rfl rfl) (TL.opP rfl (op_move rfl) ?_)))))
     refine TL.sp (fun c10 => ?_) (fun c10 => ?_)
     ·refine TL.gFt rfl rfl rfl (TL.gFt rfl rfl rfl (TL.opP rfl (op_pickT rfl rfl) (TL.mv rfl rfl (TL.gFt rfl rfl rfl (TL.gFt rfl rfl rfl (TL.opP rfl (op_pickT rfl rfl) (TL.as rfl rfl (TL.nil ?_))))))))
      exact TQ.join1 ⟨rfl, rfl, rfl, rfl, rfl, rfl, gb rfl (by rw [Bool.eq_iff_iff]; simp only [decide_eq_true_eq, Bool.false_eq_true, eq_self, true_iff, false_iff, Bool.not_eq_true', decide_eq_false_iff_not, sgnB]; omega), trivial⟩ (fun _ h => h)
     ·refine TL.gT rfl rfl (TL.mv rfl rfl (TL.gT rfl rfl (TL.opP rfl (op_eql rfl rfl) (TL.opP rfl (op_pickF rfl rfl) (TL.opP rfl (op_move rfl) ?_)))))
      refine TL.sp (fun c11 => ?_) (fun c11 => ?_)
      ·refine TL.gFt rfl rfl rfl (TL.gFt rfl rfl rfl (TL.opP rfl (op_pickT rfl rfl) (TL.as rfl rfl (TL.nil ?_))))
       exact TQ.join1 ⟨rfl, rfl, rfl, rfl, rfl, rfl, gb rfl (by rw [Bool.eq_iff_iff]; simp only [decide_eq_true_eq, Bool.false_eq_true, eq_self, true_iff, false_iff, Bool.not_eq_true', decide_eq_false_iff_not, sgnB]; omega), trivial⟩ (fun _ h => h)
      ·refine TL.gT rfl rfl (TL.mv rfl rfl (TL.gT rfl rfl (TL.opP rfl (op_eql rfl rfl) (TL.opP rfl (op_pickF rfl rfl) (TL.as rfl rfl (TL.nil ?_))))))
       exact TQ.join1 ⟨rfl, rfl, rfl, rfl, rfl, rfl, gb rfl (by rw [Bool.eq_iff_iff]; simp only [decide_eq_true_eq, Bool.false_eq_true, eq_self, true_iff, false_iff, Bool.not_eq_true', decide_eq_false_iff_not, sgnB]; omega), trivial⟩ (fun _ h => h)
  ·refine TC.seq ?_
   refine TC.join1 [(0, .pointer (some ⟨g, 0, none⟩)), (2, .pointer (some ⟨g2, 0, none⟩)), (3, .int .i32 (nx l i)), (60, .bool (decide (sgnB (nx l i))))] (.blk g2 (.cells (nodeC 0 false nilS nilS 0 0 false 0).toArray 130 (0, 0)) :: fz rs :: .blk g (.cells [lv, .int .i64 (((i : Nat) : Int) : Int), .int .i64 (((gn : Nat) : Int) : Int), .int .i64 (0)].toArray 126 (0, 0)) :: F) ?_ ?_
   ·refine TC.region (TL.mv rfl rfl (TL.opP rfl (op_lss rfl rfl) (TL.opP rfl (op_move rfl) ?_)))
    refine TL.sp (fun c12 => ?_) (fun c12 => ?_)
    ·refine TL.gFt rfl rfl rfl (TL.opP rfl (op_pickT rfl rfl) (TL.mv rfl rfl (TL.gFt rfl rfl rfl (TL.opP rfl (op_pickT rfl rfl) (TL.mv rfl rfl (TL.gFt rfl rfl rfl (TL.gFt rfl rfl rfl (TL.gU rfl rfl rfl (TL.gU rfl rfl rfl (TL.gFt rfl rfl rfl (TL.opP rfl (op_pickT rfl rfl) (TL.nil ?_))))))))))))
     exact TQ.join1 ⟨rfl, rfl, rfl, gb rfl (by first | exact (decide_eq_true (show sgnB _ by unfold sgnB; omega)).symm | exact (decide_eq_false (show ¬ sgnB _ by unfold sgnB; omega)).symm | (rw [Bool.eq_iff_iff, decide_eq_true_eq, Bool.not_eq_true', decide_eq_false_iff_not]; unfold sgnB; omega)), trivial⟩ (fun _ h => h)
    ·refine TL.gT rfl rfl (TL.mv rfl rfl (TL.opP rfl (op_pickF rfl rfl) (TL.opP rfl (op_move rfl) ?_)))
     refine TL.sp (fun c13 => ?_) (fun c13 => ?_)
     ·refine TL.gFt rfl rfl rfl (TL.opP rfl (op_pickT rfl rfl) (TL.mv rfl rfl (TL.gFt rfl rfl rfl (TL.gFt rfl rfl rfl (TL.gU rfl rfl rfl (TL.gU rfl rfl rfl (TL.gFt rfl rfl rfl (TL.opP rfl (op_pickT rfl rfl) (TL.nil ?_)))))))))
      exact TQ.join1 ⟨rfl, rfl, rfl, gb rfl (by first | exact (decide_eq_true (show sgnB _ by unfold sgnB; omega)).symm | exact (decide_eq_false (show ¬ sgnB _ by unfold sgnB; omega)).symm | (rw [Bool.eq_iff_iff, decide_eq_true_eq, Bool.not_eq_true', decide_eq_false_iff_not]; unfold sgnB; omega)), trivial⟩ (fun _ h => h)
     ·refine TL.gT rfl rfl (TL.mv rfl rfl (TL.opP rfl (op_pickF rfl rfl) (TL.opP rfl (op_move rfl) ?_)))
      refine TL.sp (fun c14 => ?_) (fun c14 => ?_)
      ·refine TL.gFt rfl rfl rfl (TL.gFt rfl rfl rfl (TL.gU rfl rfl rfl (TL.gU rfl rfl rfl (TL.gFt rfl rfl rfl (TL.opP rfl (op_pickT rfl rfl) (TL.nil ?_))))))
       exact TQ.join1 ⟨rfl, rfl, rfl, gb rfl (by first | exact (decide_eq_true (show sgnB _ by unfold sgnB; omega)).symm | exact (decide_eq_false (show ¬ sgnB _ by unfold sgnB; omega)).symm | (rw [Bool.eq_iff_iff, decide_eq_true_eq, Bool.not_eq_true', decide_eq_false_iff_not]; unfold sgnB; omega)), trivial⟩ (fun _ h => h)
      ·refine TL.gT rfl rfl (TL.mv rfl rfl (TL.gT rfl rfl (TL.opP rfl (op_move rfl) ?_)))
       refine TL.sp (fun c15 => ?_) (fun c15 => ?_)
       ·refine TL.gT rfl rfl (TL.mv rfl rfl (TL.gT rfl rfl (TL.opP rfl (op_not rfl rfl) (TL.gT rfl rfl (TL.opP rfl (op_pickT rfl rfl) (TL.opP rfl (op_pickF rfl rfl) (TL.nil ?_)))))))
        exact TQ.join1 ⟨rfl, rfl, rfl, gb rfl (by first | exact (decide_eq_true (show sgnB _ by unfold sgnB; omega)).symm | exact (decide_eq_false (show ¬ sgnB _ by unfold sgnB; omega)).symm | (rw [Bool.eq_iff_iff, decide_eq_true_eq, Bool.not_eq_true', decide_eq_false_iff_not]; unfold sgnB; omega)), trivial⟩ (fun _ h => h)
       ·refine TL.gFf rfl rfl rfl (TL.gFf rfl rfl rfl (TL.gT rfl rfl (TL.opP rfl (op_pickF rfl rfl) (TL.opP rfl (op_pickF rfl rfl) (TL.nil ?_)))))
        exact TQ.join1 ⟨rfl, rfl, rfl, gb rfl (by first | exact (decide_eq_true (show sgnB _ by unfold sgnB; omega)).symm | exact (decide_eq_false (show ¬ sgnB _ by unfold sgnB; omega)).symm | (rw [Bool.eq_iff_iff, decide_eq_true_eq, Bool.not_eq_true', decide_eq_false_iff_not]; unfold sgnB; omega)), trivial⟩ (fun _ h => h)
   ·refine TC.sp rfl (fun c16 => ?_) (fun c16 => ?_)
    ·refine TC.seq (TC.region (TL.mv rfl rfl (TL.hp (fun _ h => h.pick2) ?_)))
     refine TL.opX rfl (OpX.callX en_85 rfl (xfail0_x l _ _ i gn hxl.cons.cons hln 90)) ?_; rintro _ _ ⟨rfl, rfl⟩
     refine TL.nil (TQ.then (TC.seq (TC.region (TL.opP rfl (op_build (ps := #[]) rfl (bl_sealskinref12_Part_ )) (TL.hp (fun _ h => h.pick1) ?_)))))
     refine TL.opX0 (OpX.storeS tst_sealskinref12_Part rfl rfl rfl rfl rfl (nc_one (by first | rfl | assumption | exact Pc.hs _) (by first | rfl | assumption | exact Pc.hk _))) ?_; rintro _ _ rfl
     refine TL.nil (TQ.then (TC.ret (TQ.then_ret ?_)))
     refine retc tst_sealskinref12_Part rfl rfl m0 rfl (fun w' hp => ?_)
     exact ⟨_, _, rfl, ⟨_, i, 90, default, rfl, .bad hps c16, rfl⟩, fz_none 2 (hp.tail.pick1)⟩
    ·have hlt := nx_ge (l := l) (i := i) (c := 0) (by unfold sgnB at c16; omega) (by decide)
     refine TC.skip (TQ.then (TC.seq (TC.region (TL.mv rfl rfl (TL.opP rfl (op_nilCheck rfl) (TL.opP rfl (op_field fld_sealskinref12_reader_at rfl) (TL.opV rfl (op_load ts_int rfl m2 rfl) (TL.opP rfl (op_add (r := ((i + 1 : Nat) : Int)) rfl rfl (by omega) (by omega) (by omega)) (TL.opP rfl (op_nilCheck rfl) (TL.opP rfl (op_field fld_sealskinref12_reader_at rfl) (TL.hp (fun _ h => h.pick2) ?_)))))))))))
     refine TL.opX0 (OpX.store1 ts_int rfl rfl (by first | rfl | assumption) rfl rfl) ?_; rintro _ _ rfl
     refine TL.nil (TQ.then (TC.seq (TC.seq (TC.region (TL.mv rfl rfl (TL.nil (TQ.then (TC.block (TC.seq (TC.region (TL.opP rfl (op_eql rfl rfl) (TL.as rfl rfl (TL.nil (TQ.then ?_))))))))))))))
     refine TC.sp rfl (fun c17 => ?_) (fun c17 => ?_)
     ·refine TC.seq (TC.region (TL.opP rfl (op_build (ps := #[(0, _), (1, _)]) rfl (bl_ar2_int32_01 _ _)) ?_))
      refine TL.opX rfl (OpX.buildSlice (ps := #[(0, _)]) rfl (bs_ar2_int32_1 (48, 57))) ?_; rintro _ _ ⟨g75, rfl, rfl⟩
      refine TL.hp (fun _ h => blk_row (k := 2) (m := 1) h rfl (by decide)) ?_
      refine TL.opX rfl (OpX.callX en_149 rfl (xset_x _ _ rfl)) ?_; rintro _ _ ⟨rfl, rfl⟩
      refine TL.hp (fun _ h => h.pick2) ?_
      refine TL.opX0 (OpX.storeS tst_sealskinref12_Part rfl rfl rfl rfl rfl (nc_one (by first | rfl | assumption | exact Pc.hs _) (by first | rfl | assumption | exact Pc.hk _))) ?_; rintro _ _ rfl
      refine TL.nil (TQ.then (TC.ret (TQ.block_ret (TQ.then_ret ?_))))
      refine retc tst_sealskinref12_Part rfl rfl m0 rfl (fun w' hp => ?_)
      exact ⟨_, _, rfl, ⟨_, i + 1, 0, ⟨1, false, _, nilS, 0, 0, false, 0, rfl, rfl⟩, rfl, XRes.ok (s' := [(48, 57)]) hlt (nm_d c17) rfl (by decide) (fun _ => rfl), rfl⟩, fz_row (hp.tail.pick1.pick2.pick2)⟩
     ·refine TC.seq (TC.region (TL.opP rfl (op_eql rfl rfl) (TL.as rfl rfl (TL.nil (TQ.then ?_)))))
      refine TC.sp rfl (fun c18 => ?_) (fun c18 => ?_)
      ·refine TC.seq (TC.region (TL.opP rfl (op_build (ps := #[(0, _), (1, _)]) rfl (bl_ar2_int32_01 _ _)) (TL.opP rfl (op_build (ps := #[(0, _), (1, _)]) rfl (bl_ar2_int32_01 _ _)) (TL.opP rfl (op_build (ps := #[(0, _), (1, _)]) rfl (bl_ar2_int32_01 _ _)) (TL.opP rfl (op_build (ps := #[(0, _), (1, _)]) rfl (bl_ar2_int32_01 _ _)) ?_)))))
       refine TL.opX rfl (OpX.buildSlice (ps := #[(0, _), (1, _), (2, _), (3, _)]) rfl (bs_ar2_int32_4 (48, 57) (65, 90) (97, 122) (95, 95))) ?_; rintro _ _ ⟨g83, rfl, rfl⟩
       refine TL.hp (fun _ h => blk_row (k := 2) (m := 4) h rfl (by decide)) ?_
       refine TL.opX rfl (OpX.callX en_149 rfl (xset_x _ _ rfl)) ?_; rintro _ _ ⟨rfl, rfl⟩
       refine TL.hp (fun _ h => h.pick2) ?_
       refine TL.opX0 (OpX.storeS tst_sealskinref12_Part rfl rfl rfl rfl rfl (nc_one (by first | rfl | assumption | exact Pc.hs _) (by first | rfl | assumption | exact Pc.hk _))) ?_; rintro _ _ rfl
       refine TL.nil (TQ.then (TC.ret (TQ.block_ret (TQ.then_ret ?_))))
       refine retc tst_sealskinref12_Part rfl rfl m0 rfl (fun w' hp => ?_)
       exact ⟨_, _, rfl, ⟨_, i + 1, 0, ⟨1, false, _, nilS, 0, 0, false, 0, rfl, rfl⟩, rfl, XRes.ok (s' := [(48, 57), (65, 90), (97, 122), (95, 95)]) hlt (nm_w c18) rfl (by decide) w_set, rfl⟩, fz_row (hp.tail.pick1.pick2.pick2)⟩
      ·refine TC.seq (TC.region (TL.opP rfl (op_eql rfl rfl) (TL.as rfl rfl (TL.nil (TQ.then ?_)))))
       refine TC.sp rfl (fun c19 => ?_) (fun c19 => ?_)
       ·refine TC.seq (TC.region (TL.opP rfl (op_build (ps := #[(0, _), (1, _)]) rfl (bl_ar2_int32_01 _ _)) (TL.opP rfl (op_build (ps := #[(0, _), (1, _)]) rfl (bl_ar2_int32_01 _ _)) ?_)))
        refine TL.opX rfl (OpX.buildSlice (ps := #[(0, _), (1, _)]) rfl (bs_ar2_int32_2 (9, 10) (32, 32))) ?_; rintro _ _ ⟨g89, rfl, rfl⟩
        refine TL.hp (fun _ h => blk_row (k := 2) (m := 2) h rfl (by decide)) ?_
        refine TL.opX rfl (OpX.callX en_149 rfl (xset_x _ _ rfl)) ?_; rintro _ _ ⟨rfl, rfl⟩
        refine TL.hp (fun _ h => h.pick2) ?_
        refine TL.opX0 (OpX.storeS tst_sealskinref12_Part rfl rfl rfl rfl rfl (nc_one (by first | rfl | assumption | exact Pc.hs _) (by first | rfl | assumption | exact Pc.hk _))) ?_; rintro _ _ rfl
        refine TL.nil (TQ.then (TC.ret (TQ.block_ret (TQ.then_ret ?_))))
        refine retc tst_sealskinref12_Part rfl rfl m0 rfl (fun w' hp => ?_)
        exact ⟨_, _, rfl, ⟨_, i + 1, 0, ⟨1, false, _, nilS, 0, 0, false, 0, rfl, rfl⟩, rfl, XRes.ok (s' := [(9, 10), (32, 32)]) hlt (nm_s c19) rfl (by decide) (fun _ => rfl), rfl⟩, fz_row (hp.tail.pick1.pick2.pick2)⟩
       ·refine TC.seq (TC.region (TL.opP rfl (op_eql rfl rfl) (TL.as rfl rfl (TL.nil (TQ.then ?_)))))
        refine TC.sp rfl (fun c20 => ?_) (fun c20 => ?_)
        ·refine TC.seq (TC.region (TL.opP rfl (op_build (ps := #[(0, _), (1, _)]) rfl (bl_ar2_int32_01 _ _)) ?_))
         refine TL.opX rfl (OpX.buildSlice (ps := #[(0, _)]) rfl (bs_ar2_int32_1 (10, 10))) ?_; rintro _ _ ⟨g94, rfl, rfl⟩
         refine TL.hp (fun _ h => blk_row (k := 2) (m := 1) h rfl (by decide)) ?_
         refine TL.opX rfl (OpX.callX en_149 rfl (xset_x _ _ rfl)) ?_; rintro _ _ ⟨rfl, rfl⟩
         refine TL.hp (fun _ h => h.pick2) ?_
         refine TL.opX0 (OpX.storeS tst_sealskinref12_Part rfl rfl rfl rfl rfl (nc_one (by first | rfl | assumption | exact Pc.hs _) (by first | rfl | assumption | exact Pc.hk _))) ?_; rintro _ _ rfl
         refine TL.nil (TQ.then (TC.ret (TQ.block_ret (TQ.then_ret ?_))))
         refine retc tst_sealskinref12_Part rfl rfl m0 rfl (fun w' hp => ?_)
         exact ⟨_, _, rfl, ⟨_, i + 1, 0, ⟨1, false, _, nilS, 0, 0, false, 0, rfl, rfl⟩, rfl, XRes.ok (s' := [(10, 10)]) hlt (nm_n c20) rfl (by decide) (fun _ => rfl), rfl⟩, fz_row (hp.tail.pick1.pick2.pick2)⟩
        ·refine TC.seq (TC.region (TL.opP rfl (op_eql rfl rfl) (TL.as rfl rfl (TL.nil (TQ.then ?_)))))
         refine TC.sp rfl (fun c21 => ?_) (fun c21 => ?_)
         ·refine TC.seq (TC.region (TL.opP rfl (op_build (ps := #[(0, _), (1, _)]) rfl (bl_ar2_int32_01 _ _)) ?_))
          refine TL.opX rfl (OpX.buildSlice (ps := #[(0, _)]) rfl (bs_ar2_int32_1 (9, 9))) ?_; rintro _ _ ⟨g99, rfl, rfl⟩
          refine TL.hp (fun _ h => blk_row (k := 2) (m := 1) h rfl (by decide)) ?_
          refine TL.opX rfl (OpX.callX en_149 rfl (xset_x _ _ rfl)) ?_; rintro _ _ ⟨rfl, rfl⟩
          refine TL.hp (fun _ h => h.pick2) ?_
          refine TL.opX0 (OpX.storeS tst_sealskinref12_Part rfl rfl rfl rfl rfl (nc_one (by first | rfl | assumption | exact Pc.hs _) (by first | rfl | assumption | exact Pc.hk _))) ?_; rintro _ _ rfl
          refine TL.nil (TQ.then (TC.ret (TQ.block_ret (TQ.then_ret ?_))))
          refine retc tst_sealskinref12_Part rfl rfl m0 rfl (fun w' hp => ?_)
          exact ⟨_, _, rfl, ⟨_, i + 1, 0, ⟨1, false, _, nilS, 0, 0, false, 0, rfl, rfl⟩, rfl, XRes.ok (s' := [(9, 9)]) hlt (nm_t c21) rfl (by decide) (fun _ => rfl), rfl⟩, fz_row (hp.tail.pick1.pick2.pick2)⟩
         ·refine TC.skip (TQ.block_normal (TQ.then (TC.seq (TC.region (TL.mv rfl rfl (TL.mv rfl rfl (TL.opP rfl (op_build (ps := #[(0, _), (1, _)]) rfl (bl_ar2_int32_01 _ _)) ?_)))))))
          refine TL.opX rfl (OpX.buildSlice (ps := #[(0, _)]) rfl (bs_ar2_int32_1 (nx l i, nx l i))) ?_; rintro _ _ ⟨g104, rfl, rfl⟩
          refine TL.hp (fun _ h => blk_row (k := 2) (m := 1) h rfl (by decide)) ?_
          refine TL.opX rfl (OpX.callX en_149 rfl (xset_x _ _ rfl)) ?_; rintro _ _ ⟨rfl, rfl⟩
          refine TL.hp (fun _ h => h.pick2) ?_
          refine TL.opX0 (OpX.storeS tst_sealskinref12_Part rfl rfl rfl rfl rfl (nc_one (by first | rfl | assumption | exact Pc.hs _) (by first | rfl | assumption | exact Pc.hk _))) ?_; rintro _ _ rfl
          refine TL.nil (TQ.then (TC.ret ?_))
          refine retc tst_sealskinref12_Part rfl rfl m0 rfl (fun w' hp => ?_)
          exact ⟨_, _, rfl, ⟨_, i + 1, 0, ⟨1, false, _, nilS, 0, 0, false, 0, rfl, rfl⟩, rfl, XRes.ok (s' := [(nx l i, nx l i)]) hlt (nm_o c16 c17 c18 c19 c20 c21) rfl (by show 1 ≤ 4; decide) (fun _ => rfl), rfl⟩, fz_row (hp.tail.pick1.pick2.pick2)⟩

theorem inS_append (a b : List (Int × Int)) (c : Int) : inS (a ++ b) c = (inS a c || inS b c) := by unfold inS; exact List.any_append
/-- Between brackets: what was read so far, or where it went wrong. -/
def BI (l : List Int) (neg : Bool) (f k : Nat) (acc a2 : List (Int × Int)) (e : Int) (r : PR Nd) : Prop :=
  (e = 0 ∧ setGo l neg f k acc = r ∧ a2.length = acc.length ∧ ∀ c, inS a2 c = inS acc c) ∨ (e ≠ 0 ∧ r = .err e k)
section
variable {l : List Int} {neg : Bool} {f k : Nat} {acc a2 : List (Int × Int)} {e : Int} {r : PR Nd}
theorem BI.stop (hps : ∀ x ∈ l, 0 ≤ x) (h : BI l neg (f + 1) k acc a2 e r) (h1 : pk l k e ≠ 93) (h2 : pk l k e < 0 ∨ pk l k e = 91) : r = .err (if e = 0 then 90 else e) k ∧ (if e = 0 then (90 : Int) else e) ≠ 0 := by
  rcases h with ⟨rfl, hg, _, _⟩ | ⟨he, hr⟩
  · rw [pk_0] at h1 h2
    rw [if_pos rfl, ← hg]
    exact ⟨setGo_out h1 (h2.imp (fun h2 hlt => by have := nx_nn hps hlt; omega) id), by decide⟩
  · rw [if_neg he]; exact ⟨hr, he⟩
theorem BI.now (h : BI l neg f k acc a2 0 r) : setGo l neg f k acc = r ∧ a2.length = acc.length ∧ ∀ c, inS a2 c = inS acc c := by
  rcases h with ⟨_, h⟩ | ⟨h, _⟩
  · exact h
  · exact absurd rfl h
theorem BI.esc (h : BI l neg (f + 1) k acc a2 0 r) (h1 : ¬ nx l k = 93) (hk : k < l.length) (h3 : ¬ nx l k = 91) (h4 : nx l k = 92) {rs rs' : List Res} {i' : Nat} {p : Pc} (hX : XRes rs rs' (escF l (k + 1)) i' e p) :
    ∃ s' s1, Res.rd p.sv 2 s'.length (spC s') ∈ rs' ∧ s'.length ≤ 4 ∧ BI l neg f i' (acc ++ s1) (a2 ++ s') e r ∧ k + 1 ≤ i' ∧ i' ≤ l.length := by
  obtain ⟨hg, hl, hs⟩ := h.now
  obtain ⟨hsub, _, s', hrd, h4', hm⟩ := hX
  cases hE : escF l (k + 1) with
  | err e' j =>
    rw [hE] at hm
    obtain ⟨rfl, b, rfl⟩ := hm
    refine ⟨s', [], hrd, h4', .inr ⟨b, by rw [← hg, setGo_ex h1 hk h3 h4 hE]⟩, ?_⟩
    unfold escF at hE
    split at hE
    · split at hE
      · injection hE with h5 h6; omega
      · cases hE
    · injection hE with h5 h6; omega
  | ok s j g0 =>
    rw [hE] at hm
    obtain ⟨rfl, rfl, _, _, a, b⟩ := hm
    obtain ⟨rfl, c, d⟩ := escF_adv hE
    refine ⟨s', s, hrd, h4', .inl ⟨rfl, by rw [← hg, setGo_es h1 hk h3 h4 hE], by rw [List.length_append, List.length_append, a, hl], fun c => by rw [inS_append, inS_append, hs, b]⟩, by omega, by omega⟩
theorem BI.one (h : BI l neg (f + 1) k acc a2 0 r) (h1 : ¬ nx l k = 93) (hk : k < l.length) (h3 : ¬ nx l k = 91) (h4 : ¬ nx l k = 92) (h5 : ¬ rangeB l (k + 1)) : BI l neg f (k + 1) (acc ++ [(nx l k, nx l k)]) (a2 ++ [(nx l k, nx l k)]) 0 r := by
  obtain ⟨hg, hl, hs⟩ := h.now
  exact .inl ⟨rfl, by rw [← hg, setGo_one h1 hk h3 h4 h5], by rw [List.length_append, List.length_append, hl], fun c => by rw [inS_append, inS_append, hs]⟩
theorem BI.rng (h : BI l neg (f + 1) k acc a2 0 r) (h1 : ¬ nx l k = 93) (hk : k < l.length) (h3 : ¬ nx l k = 91) (h4 : ¬ nx l k = 92) (h5 : k + 1 + 1 < l.length) (h6 : nx l (k + 1) = 45) (h7 : nx l (k + 2) ≠ 93) (h8 : ¬ (nx l (k + 2) < nx l k ∨ nx l (k + 2) = 92 ∨ nx l (k + 2) = 91)) : BI l neg f (k + 3) (acc ++ [(nx l k, nx l (k + 2))]) (a2 ++ [(nx l k, nx l (k + 2))]) 0 r := by
  obtain ⟨hg, hl, hs⟩ := h.now
  exact .inl ⟨rfl, by rw [← hg, setGo_rng h1 hk h3 h4 h5 h6 h7 h8], by rw [List.length_append, List.length_append, hl], fun c => by rw [inS_append, inS_append, hs]⟩
theorem BI.badr (h : BI l neg (f + 1) k acc a2 0 r) (h1 : ¬ nx l k = 93) (hk : k < l.length) (h3 : ¬ nx l k = 91) (h4 : ¬ nx l k = 92) (h5 : k + 1 + 1 < l.length) (h6 : nx l (k + 1) = 45) (h7 : nx l (k + 2) ≠ 93) (h8 : nx l (k + 2) < nx l k ∨ nx l (k + 2) = 92 ∨ nx l (k + 2) = 91) : r = .err 90 (k + 2) := by
  rw [← h.now.1, setGo_bad h1 hk h3 h4 h5 h6 h7 h8]
theorem setN_err {r : PR Nd} {g j : Nat} {e : Int} (h : r = .err e j) : setN r g = .err e j := by rw [h]; rfl
theorem BI.fin {rs : List Res} {gn : Nat} {p : Pc} (h : BI l neg (f + 1) k acc a2 0 r) (h1 : nx l k = 93) (ha : a2 ≠ []) (hk : p.k = 1) (hn : p.neg = neg) (hkv : p.kv = nilS) (hrs : Res.rd p.sv 2 a2.length (spC a2) ∈ rs) : ∃ t, setN r gn = .ok t (k + 1) gn ∧ RNd rs t p := by
  obtain ⟨hg, hl, hs⟩ := h.now
  have hne : acc ≠ [] := by rintro rfl; exact ha (List.length_eq_zero_iff.1 hl)
  exact ⟨.cls neg acc, by rw [← hg, setGo_end1 h1 hne]; rfl, by unfold RNd; exact ⟨hk, hn, hkv, a2, hrs, hs⟩⟩
theorem BI.fin0 (h : BI l neg (f + 1) k acc a2 0 r) (h1 : nx l k = 93) (ha : a2 = []) : r = .err 90 k := by
  obtain ⟨hg, hl, hs⟩ := h.now
  obtain rfl : acc = [] := List.length_eq_zero_iff.1 (by rw [← hl, ha]; rfl)
  rw [← hg, setGo_end0 h1]
end
set_option maxHeartbeats 1000000
theorem xbrk_x (l : List Int) (lv : Value) (g i gn : Nat) (hxl : Rdb F lv 1 l.length (l.map (Value.int .i32))) (hln : l.length ≤ 200) (hps : ∀ x ∈ l, 0 ≤ x) (rs : List Res) (hi : i ≤ l.length) :
    CallX Tryd.prog 150 [.pointer (some ⟨g, 0, none⟩)] S w0 (fz rs :: .blk g (.cells [lv, .int .i64 (((i : Nat) : Int) : Int), .int .i64 (((gn : Nat) : Int) : Int), .int .i64 (0)].toArray 126 (0, 0)) :: F) (fun u L' => ∃ rs' i' e p, u = Pc.val p ∧ QRes rs rs' (setN (setF l i) gn) i' gn e p ∧ L' = fz rs' :: .blk g (.cells [lv, .int .i64 (((i' : Nat) : Int) : Int), .int .i64 (((gn : Nat) : Int) : Int), .int .i64 (e)].toArray 126 (0, 0)) :: F) := by
 intro w hp
 obtain ⟨i0, hi0⟩ : ∃ i0, (if nx l i = 94 then i + 1 else i) = i0 := ⟨_, rfl⟩
 obtain ⟨neg, hneg⟩ : ∃ b, decide (nx l i = 94) = b := ⟨_, rfl⟩
 have hset : setGo l neg (l.length + 1 - i) i0 [] = setF l i := by unfold setF; rw [← hi0, ← hneg]; by_cases h : nx l i = 94 <;> simp [h]
 have hi0b : i0 ≤ l.length ∧ i ≤ i0 := by
   rw [← hi0]; split
   · have := nx_some ‹_› (by decide); omega
   · omega
 refine calls_start Tryd.func150 rfl rfl rfl (hp) ?_
 refine TC.seq (TC.region ?_)
 refine TL.opX rfl (OpX.alloc tz_sealskinref12_Part rfl) ?_; rintro _ _ ⟨g2, rfl, rfl⟩
 refine TL.nil (TQ.then (TC.seq (TC.region (TL.mv rfl rfl (TL.hp (fun _ h => h.pick2) ?_)))))
 refine TL.opX rfl (OpX.callX en_120 rfl (xis0_x l _ _ i gn hxl.cons.cons hln 94 (by decide))) ?_; rintro _ _ ⟨rfl, rfl⟩
 rw [hi0, hneg]
 refine TL.opP rfl (op_build (ps := #[(0, _), (1, _)]) rfl (bl_sealskinref12_Part_01 _ _)) ?_
 refine TL.opX rfl (OpX.alloc tz_sealskinref12_Part rfl) ?_; rintro _ _ ⟨g3, rfl, rfl⟩
 refine TL.opX0 (OpX.storeS tst_sealskinref12_Part rfl rfl rfl rfl rfl (nc_one (by first | rfl | assumption | exact Pc.hs _) (by first | rfl | assumption | exact Pc.hk _))) ?_; rintro _ _ rfl
 refine TL.hp (fun _ h => new_nil 212 2 h) (TL.nil (TQ.then (TC.seq (TC.block (TC.loop (ι := Nat × Nat × List (Int × Int) × List (Int × Int) × Value × List Res × Int) (fun (f, k, acc, a2, sv, rs1, e) => [(0, .pointer (some ⟨g, 0, none⟩)), (2, .pointer (some ⟨g2, 0, none⟩)), (3, .pointer (some ⟨g3, 0, none⟩))]) (fun (f, k, acc, a2, sv, rs1, e) => .blk g2 (.cells (nodeC 0 false nilS nilS 0 0 false 0).toArray 130 (0, 0)) :: .blk g3 (.cells (nodeC 1 neg sv nilS 0 0 false 0).toArray 130 (0, 0)) :: .row sv 212 2 (a2).length (spC (a2)) :: fz rs1 :: .blk g (.cells [lv, .int .i64 (((k : Nat) : Int) : Int), .int .i64 (((gn : Nat) : Int) : Int), .int .i64 (e)].toArray 126 (0, 0)) :: F) (fun (f, k, acc, a2, sv, rs1, e) => k ≤ l.length ∧ l.length < k + f ∧ a2.length ≤ 4 * k ∧ sv.oneCell' = true ∧ rs ⊆ rs1 ∧ BI l neg f k acc a2 e (setF l i)) (fun (f, k, acc, a2, sv, rs1, e) => l.length - k) ((l.length + 1 - i, i0, [], [], .slice none 0 0, rs, 0)) (⟨hi0b.1, by omega, Nat.zero_le _, rfl, fun _ hx => hx, .inl ⟨rfl, hset, rfl, fun _ => rfl⟩⟩) ⟨rfl, rfl, rfl, trivial⟩ (fun _ h => h.pick2.pick4.pick2.pick3.pick4) ?_)))))
 rintro ⟨f, k, acc, a2, sv, rs1, e⟩ ⟨hk, hf, hal, hsv, hrs, hbi⟩
 obtain ⟨f, rfl⟩ : ∃ f', f = f' + 1 := ⟨f - 1, by omega⟩
 show TC _ _ _ _ [(0, .pointer (some ⟨g, 0, none⟩)), (2, .pointer (some ⟨g2, 0, none⟩)), (3, .pointer (some ⟨g3, 0, none⟩))] _ _ (.blk g2 (.cells (nodeC 0 false nilS nilS 0 0 false 0).toArray 130 (0, 0)) :: .blk g3 (.cells (nodeC 1 neg sv nilS 0 0 false 0).toArray 130 (0, 0)) :: .row sv 212 2 (a2).length (spC (a2)) :: fz rs1 :: .blk g (.cells [lv, .int .i64 (((k : Nat) : Int) : Int), .int .i64 (((gn : Nat) : Int) : Int), .int .i64 (e)].toArray 126 (0, 0)) :: F)
 refine TC.seq (TC.seq (TC.region (TL.mv rfl rfl (TL.hp (fun _ h => h.pick4) ?_))))
 refine TL.opX rfl (OpX.callX en_118 rfl (xpeek_x l _ _ k gn hxl.cons.cons.cons.cons hln e)) ?_; rintro _ _ ⟨rfl, rfl⟩
 refine TL.opP rfl (op_neq rfl rfl) (TL.nil (TQ.then ?_))
 refine TC.sp rfl (fun c1 => ?_) (fun c1 => ?_)
 ·refine TC.skip (TQ.then (TC.block (TC.seq (TC.region (TL.opP rfl (op_move rfl) ?_)))))
  refine TL.opX rfl (OpX.callX en_118 rfl (xpeek_x l _ _ k gn hxl.cons.cons.cons.cons hln e)) ?_; rintro _ _ ⟨rfl, rfl⟩
  refine TL.as rfl rfl (TL.nil (TQ.then (TC.seq (TC.seq (TC.region (TL.mv rfl rfl (TL.opP rfl (op_lss rfl rfl) (TL.opP rfl (op_move rfl) ?_))))))))
  refine TL.sp (fun c2 => ?_) (fun c2 => ?_)
  ·refine TL.gFt rfl rfl rfl (TL.gFt rfl rfl rfl (TL.opP rfl (op_pickT rfl rfl) (TL.nil (TQ.then (TC.condT rfl (TC.seq (TC.region (TL.opP rfl (op_move rfl) ?_))))))))
   refine TL.opX rfl (OpX.callX en_85 rfl (xfail_x l _ _ k gn hxl.cons.cons.cons.cons hln e 90)) ?_; rintro _ _ ⟨rfl, rfl⟩
   refine TL.nil (TQ.then (TC.seq (TC.region (TL.opV rfl (op_loadS tst_sealskinref12_Part rfl m2 rfl) (TL.hp (fun _ h => h.pick1) ?_)))))
   refine TL.opX0 (OpX.storeS tst_sealskinref12_Part rfl rfl rfl rfl rfl (nc_one (by first | rfl | assumption | exact Pc.hs _) (by first | rfl | assumption | exact Pc.hk _))) ?_; rintro _ _ rfl
   refine TL.nil (TQ.then (TC.ret (TQ.then_ret (TQ.block_ret (TQ.loop_ret (TQ.block_ret (TQ.then_ret ?_)))))))
   refine retc tst_sealskinref12_Part rfl rfl m0 rfl (fun w' hp => ?_)
   exact ⟨_, _, rfl, ⟨rs1, k, _, ⟨1, neg, sv, nilS, 0, 0, false, 0, hsv, rfl⟩, rfl, .err hrs (setN_err (hbi.stop hps c1 (.inl c2)).1) (hbi.stop hps c1 (.inl c2)).2, rfl⟩, Hp.tail (hp.drop2.tail.pick2.pick2)⟩
  ·refine TL.gT rfl rfl (TL.mv rfl rfl (TL.gT rfl rfl (TL.opP rfl (op_eql rfl rfl) (TL.opP rfl (op_pickF rfl rfl) (TL.nil (TQ.then ?_))))))
   refine TC.sp rfl (fun c3 => ?_) (fun c3 => ?_)
   ·refine TC.seq (TC.region (TL.opP rfl (op_move rfl) ?_))
    refine TL.opX rfl (OpX.callX en_85 rfl (xfail_x l _ _ k gn hxl.cons.cons.cons.cons hln e 90)) ?_; rintro _ _ ⟨rfl, rfl⟩
    refine TL.nil (TQ.then (TC.seq (TC.region (TL.opV rfl (op_loadS tst_sealskinref12_Part rfl m2 rfl) (TL.hp (fun _ h => h.pick1) ?_)))))
    refine TL.opX0 (OpX.storeS tst_sealskinref12_Part rfl rfl rfl rfl rfl (nc_one (by first | rfl | assumption | exact Pc.hs _) (by first | rfl | assumption | exact Pc.hk _))) ?_; rintro _ _ rfl
    refine TL.nil (TQ.then (TC.ret (TQ.then_ret (TQ.block_ret (TQ.loop_ret (TQ.block_ret (TQ.then_ret ?_)))))))
    refine retc tst_sealskinref12_Part rfl rfl m0 rfl (fun w' hp => ?_)
    exact ⟨_, _, rfl, ⟨rs1, k, _, ⟨1, neg, sv, nilS, 0, 0, false, 0, hsv, rfl⟩, rfl, .err hrs (setN_err (hbi.stop hps c1 (.inr c3)).1) (hbi.stop hps c1 (.inr c3)).2, rfl⟩, Hp.tail (hp.drop2.tail.pick2.pick2)⟩
   ·obtain ⟨rfl, hlt, hnn⟩ := pk_ge (l := l) (i := k) (e := e) (by omega)
    simp only [pk_0] at c1 c2 c3 ⊢
    refine TC.skip (TQ.then (TC.seq (TC.region (TL.mv rfl rfl (TL.opP rfl (op_nilCheck rfl) (TL.opP rfl (op_field fld_sealskinref12_reader_at rfl) (TL.opV rfl (op_load ts_int rfl m0 rfl) (TL.opP rfl (op_add (r := ((k + 1 : Nat) : Int)) rfl rfl (by omega) (by omega) (by omega)) (TL.opP rfl (op_nilCheck rfl) (TL.opP rfl (op_field fld_sealskinref12_reader_at rfl) ?_))))))))))
    refine TL.opX0 (OpX.store1 ts_int rfl rfl (by first | rfl | assumption) rfl rfl) ?_; rintro _ _ rfl
    refine TL.nil (TQ.then (TC.seq (TC.seq (TC.region (TL.mv rfl rfl (TL.opP rfl (op_eql rfl rfl) (TL.nil (TQ.then ?_))))))))
    refine TC.sp rfl (fun c4 => ?_) (fun c4 => ?_)
    ·refine TC.seq (TC.drawS (.blk g2 (.cells (nodeC 0 false nilS nilS 0 0 false 0).toArray 130 (0, 0)) :: .blk g3 (.cells (nodeC 1 neg sv nilS 0 0 false 0).toArray 130 (0, 0)) :: .row sv 212 2 (a2).length (spC (a2)) :: F) [5, 7] (.cons (.p, 0) (.cons (.p, 2) (.cons (.t, 1) (.cons (.o, 3) (.cons (.p, 4) (.cons (.z, 5) (.cons (.p, 6) (.cons (.z, 7) (.nil))))))))) mo (by kernel_rfl) (TR.p rfl rfl wt0 (op_field fld_sealskinref12_Part_Set rfl) (TR.p rfl rfl wt0 (op_move rfl) (TR.t rfl rfl wt0 (op_load ts_sl_ar2_int32 rfl m1 rfl) (fun _ h => h.drop4.tail) (TR.hp (fun _ h => h.pick4) ?_)))))
     refine TR.o rfl rfl wt0 (OpX.callX en_151 rfl (xsign_x l _ _ (k + 1) gn hxl.cons.cons.cons hln hps rs1)) (by rintro _ _ ⟨rz6, iz6, ez6, pz6, rfl, hX6, rfl⟩; intro w h; exact h.drop1.tail) ?_; rintro _ _ ⟨rz6, iz6, ez6, pz6, rfl, hX6, rfl⟩
     obtain ⟨s2, s1, hsd, hs4, hbi2, hz1, hz2⟩ := hbi.esc c1 hlt c3 c4 hX6
     have hrz := hX6.sub
     refine TR.p rfl rfl wt0 (op_fieldV (v := Pc.val pz6) (u := pz6.sv) rfl (fun w => by kernel_rfl)) (TR.hp (fun _ h => h.pick4) ?_)
     refine TR.z rfl rfl wt0 (OpX.append (bytes := 8) tsl_ar2_int32 (by decide) (by decide) rfl (rdb_fz m1 hsd) (spC_one _) (by omega) (zs := spC (a2 ++ s2)) (spC_append _ _).symm) ?_; rintro v7 _ rfl
     refine TR.know (fun _ h => row1 h) (fun o7 => (TR.hp (fun _ h => row_lenS h) (TR.p rfl rfl wt0 (op_field fld_sealskinref12_Part_Set rfl) (TR.hp (fun _ h => h.pick4) ?_))))
     refine TR.z0 rfl wt0 (OpX.store1 ts_sl_ar2_int32 rfl rfl (by first | rfl | assumption) rfl rfl) ?_; rintro _ _ rfl
     refine TR.nil (TQ.then (TC.exit (TQ.then_exit (TQ.block_hit ?_))))
     exact TQ.round (f, iz6, acc ++ s1, a2 ++ s2, v7, rz6, ez6) (by (try dsimp only); exact ⟨hz2, by omega, by rw [List.length_append]; omega, by assumption, fun x hx => hrz (hrs hx), hbi2⟩) ((by show l.length - iz6 < l.length - k; omega)) ⟨rfl, rfl, rfl, trivial⟩ (fun _ h => h.pick3.pick3.pick3.pick3.pick4)
    ·refine TC.skip (TQ.then (TC.seq (TC.region (TL.mv rfl rfl (TL.as rfl rfl (TL.nil (TQ.then (TC.seq (TC.seq (TC.draw [] (.cons (.p, 0) (.cons (.p, 1) (.cons (.p, 2) (.cons (.p, 5) (.cons (.p, 6) (.cons (.p, 7) (.cons (.t, 3) (.cons (.p, 4) (.cons (.t, 8) (.cons (.t, 9) (.cons (.p, 10) (.cons (.p, 11) (.cons (.p, 12) (.cons (.p, 13) (.cons (.p, 14) (.cons (.p, 16) (.cons (.p, 17) (.cons (.p, 18) (.cons (.t, 15) (.cons (.t, 19) (.cons (.t, 20) (.cons (.t, 21) (.cons (.p, 22) (.cons (.p, 23) (.cons (.p, 24) (.cons (.p, 25) (.cons (.p, 26) (.cons (.p, 27) (.cons (.p, 29) (.cons (.p, 30) (.cons (.p, 31) (.cons (.t, 28) (.cons (.t, 32) (.cons (.p, 33) (.cons (.t, 34) (.cons (.t, 35) (.cons (.p, 36) (.cons (.p, 37) (.nil))))))))))))))))))))))))))))))))))))))) mo (by kernel_rfl) ?_))))))))))
     refine TR.p rfl rfl wt0 (op_move rfl) (TR.p rfl rfl wt0 (op_nilCheck rfl) (TR.p rfl rfl wt0 (op_field fld_sealskinref12_reader_at rfl) (TR.p rfl rfl wt0 (op_move rfl) (TR.p rfl rfl wt0 (op_nilCheck rfl) (TR.p rfl rfl wt0 (op_field fld_sealskinref12_reader_l rfl) (TR.t rfl rfl wt0 (op_load ts_int rfl m0 rfl) (fun _ h => h) (TR.p rfl rfl wt0 (op_add (r := ((k + 1 + 1 : Nat) : Int)) rfl rfl (by omega) (by omega) (by omega)) (TR.t rfl rfl wt0 (op_load ts_sl_int32 rfl m0 rfl) (fun _ h => h) (TR.t rfl rfl wt0 (op_lenV rfl un_sl_int32 rfl hxl.cons.cons.cons.cons.cons) (fun _ h => h) (TR.p rfl rfl wt0 (op_lss rfl rfl) (TR.p rfl rfl wt0 (op_move rfl) ?_)))))))))))
     refine TR.sp (fun c5 => ?_) (fun c5 => ?_)
     ·refine TR.p rfl rfl (by exact wtT rfl rfl) (op_move rfl) (TR.p rfl rfl (by exact wtT rfl rfl) (op_nilCheck rfl) (TR.p rfl rfl (by exact wtT rfl rfl) (op_field fld_sealskinref12_reader_l rfl) (TR.p rfl rfl (by exact wtT rfl rfl) (op_move rfl) (TR.p rfl rfl (by exact wtT rfl rfl) (op_nilCheck rfl) (TR.p rfl rfl (by exact wtT rfl rfl) (op_field fld_sealskinref12_reader_at rfl) (TR.t rfl rfl (by exact wtT rfl rfl) (op_load ts_sl_int32 rfl m0 rfl) (fun _ h => h) (TR.t rfl rfl (by exact wtT rfl rfl) (op_load ts_int rfl m0 rfl) (fun _ h => h) (TR.t rfl rfl (by exact wtT rfl rfl) (op_index tsl_int32 rfl hxl.cons.cons.cons.cons.cons rfl (by omega) (by omega)) (fun _ h => h) (TR.t rfl rfl (by exact wtT rfl rfl) (op_loadR ts_int32 rfl hxl.cons.cons.cons.cons.cons (lkM (i := k + 1) (d := 0) (by omega) rfl (by omega))) (fun _ h => h) ?_)))))))))
      refine TR.p rfl rfl (by exact wtT rfl rfl) (op_eql rfl rfl) (TR.p rfl rfl wt0 (op_pickT rfl rfl) (TR.p rfl rfl wt0 (op_move rfl) ?_))
      refine TR.sp (fun c6 => ?_) (fun c6 => ?_)
      ·refine TR.p rfl rfl (by exact wtT rfl rfl) (op_move rfl) (TR.p rfl rfl (by exact wtT rfl rfl) (op_nilCheck rfl) (TR.p rfl rfl (by exact wtT rfl rfl) (op_field fld_sealskinref12_reader_l rfl) (TR.p rfl rfl (by exact wtT rfl rfl) (op_move rfl) (TR.p rfl rfl (by exact wtT rfl rfl) (op_nilCheck rfl) (TR.p rfl rfl (by exact wtT rfl rfl) (op_field fld_sealskinref12_reader_at rfl) (TR.t rfl rfl (by exact wtT rfl rfl) (op_load ts_sl_int32 rfl m0 rfl) (fun _ h => h) (TR.t rfl rfl (by exact wtT rfl rfl) (op_load ts_int rfl m0 rfl) (fun _ h => h) (TR.p rfl rfl (by exact wtT rfl rfl) (op_add (r := ((k + 1 + 1 : Nat) : Int)) rfl rfl (by omega) (by omega) (by omega)) (TR.t rfl rfl (by exact wtT rfl rfl) (op_index tsl_int32 rfl hxl.cons.cons.cons.cons.cons rfl (by omega) (by omega)) (fun _ h => h) ?_)))))))))
       refine TR.t rfl rfl (by exact wtT rfl rfl) (op_loadR ts_int32 rfl hxl.cons.cons.cons.cons.cons (lkM (i := k + 1 + 1) (d := 0) (by omega) rfl (by omega))) (fun _ h => h) (TR.p rfl rfl (by exact wtT rfl rfl) (op_neq rfl rfl) (TR.p rfl rfl wt0 (op_pickT rfl rfl) (TR.nil (TQ.then ?_))))
       refine TC.sp rfl (fun c7 => ?_) (fun c7 => ?_)
       ·have hx1 : nx l (k + 1) = l.getD (k + 1) 0 := nx_in (by omega)
        have hx2 : nx l (k + 2) = l.getD (k + 1 + 1) 0 := nx_in (by omega)
        refine TC.seq (TC.region (TL.mv rfl rfl (TL.opP rfl (op_nilCheck rfl) (TL.opP rfl (op_field fld_sealskinref12_reader_at rfl) (TL.opV rfl (op_load ts_int rfl m0 rfl) (TL.opP rfl (op_add (r := ((k + 2 : Nat) : Int)) rfl rfl (by omega) (by omega) (by omega)) (TL.opP rfl (op_nilCheck rfl) (TL.opP rfl (op_field fld_sealskinref12_reader_at rfl) ?_))))))))
        refine TL.opX0 (OpX.store1 ts_int rfl rfl (by first | rfl | assumption) rfl rfl) ?_; rintro _ _ rfl
        refine TL.nil (TQ.then (TC.seq (TC.region (TL.opP rfl (op_move rfl) ?_))))
        refine TL.opX rfl (OpX.callX en_118 rfl (xpeek0_x l _ _ (k + 2) gn hxl.cons.cons.cons.cons hln)) ?_; rintro _ _ ⟨rfl, rfl⟩
        refine TL.as rfl rfl (TL.nil (TQ.then (TC.seq (TC.seq (TC.region (TL.mv rfl rfl (TL.mv rfl rfl (TL.opP rfl (op_lss rfl rfl) (TL.opP rfl (op_move rfl) ?_)))))))))
        refine TL.sp (fun c8 => ?_) (fun c8 => ?_)
        ·refine TL.gFt rfl rfl rfl (TL.gFt rfl rfl rfl (TL.opP rfl (op_pickT rfl rfl) (TL.mv rfl rfl (TL.gFt rfl rfl rfl (TL.gFt rfl rfl rfl (TL.opP rfl (op_pickT rfl rfl) (TL.nil (TQ.then (TC.condT rfl (TC.seq (TC.region (TL.opP rfl (op_move rfl) ?_))))))))))))
         refine TL.opX rfl (OpX.callX en_85 rfl (xfail0_x l _ _ (k + 2) gn hxl.cons.cons.cons.cons hln 90)) ?_; rintro _ _ ⟨rfl, rfl⟩
         refine TL.nil (TQ.then (TC.seq (TC.region (TL.opV rfl (op_loadS tst_sealskinref12_Part rfl m2 rfl) (TL.hp (fun _ h => h.pick1) ?_)))))
         refine TL.opX0 (OpX.storeS tst_sealskinref12_Part rfl rfl rfl rfl rfl (nc_one (by first | rfl | assumption | exact Pc.hs _) (by first | rfl | assumption | exact Pc.hk _))) ?_; rintro _ _ rfl
         refine TL.nil (TQ.then (TC.ret (TQ.then_ret (TQ.then_ret (TQ.block_ret (TQ.loop_ret (TQ.block_ret (TQ.then_ret ?_))))))))
         refine retc tst_sealskinref12_Part rfl rfl m0 rfl (fun w' hp => ?_)
         exact ⟨_, _, rfl, ⟨rs1, k + 2, 90, ⟨1, neg, sv, nilS, 0, 0, false, 0, hsv, rfl⟩, rfl, .err hrs (setN_err (hbi.badr c1 hlt c3 c4 (by omega) (hx1.trans c6) (by rw [hx2]; exact c7) (by omega))) (by decide), rfl⟩, Hp.tail (hp.drop2.tail.pick2.pick2)⟩
        ·refine TL.gT rfl rfl (TL.mv rfl rfl (TL.gT rfl rfl (TL.opP rfl (op_eql rfl rfl) (TL.opP rfl (op_pickF rfl rfl) (TL.opP rfl (op_move rfl) ?_)))))
         refine TL.sp (fun c9 => ?_) (fun c9 => ?_)
         ·refine TL.gFt rfl rfl rfl (TL.gFt rfl rfl rfl (TL.opP rfl (op_pickT rfl rfl) (TL.nil (TQ.then (TC.condT rfl (TC.seq (TC.region (TL.opP rfl (op_move rfl) ?_))))))))
          refine TL.opX rfl (OpX.callX en_85 rfl (xfail0_x l _ _ (k + 2) gn hxl.cons.cons.cons.cons hln 90)) ?_; rintro _ _ ⟨rfl, rfl⟩
          refine TL.nil (TQ.then (TC.seq (TC.region (TL.opV rfl (op_loadS tst_sealskinref12_Part rfl m2 rfl) (TL.hp (fun _ h => h.pick1) ?_)))))
          refine TL.opX0 (OpX.storeS tst_sealskinref12_Part rfl rfl rfl rfl rfl (nc_one (by first | rfl | assumption | exact Pc.hs _) (by first | rfl | assumption | exact Pc.hk _))) ?_; rintro _ _ rfl
          refine TL.nil (TQ.then (TC.ret (TQ.then_ret (TQ.then_ret (TQ.block_ret (TQ.loop_ret (TQ.block_ret (TQ.then_ret ?_))))))))
          refine retc tst_sealskinref12_Part rfl rfl m0 rfl (fun w' hp => ?_)
          exact ⟨_, _, rfl, ⟨rs1, k + 2, 90, ⟨1, neg, sv, nilS, 0, 0, false, 0, hsv, rfl⟩, rfl, .err hrs (setN_err (hbi.badr c1 hlt c3 c4 (by omega) (hx1.trans c6) (by rw [hx2]; exact c7) (by omega))) (by decide), rfl⟩, Hp.tail (hp.drop2.tail.pick2.pick2)⟩
         ·refine TL.gT rfl rfl (TL.mv rfl rfl (TL.gT rfl rfl (TL.opP rfl (op_eql rfl rfl) (TL.opP rfl (op_pickF rfl rfl) (TL.nil (TQ.then ?_))))))
          refine TC.sp rfl (fun c10 => ?_) (fun c10 => ?_)
          ·refine TC.seq (TC.region (TL.opP rfl (op_move rfl) ?_))
           refine TL.opX rfl (OpX.callX en_85 rfl (xfail0_x l _ _ (k + 2) gn hxl.cons.cons.cons.cons hln 90)) ?_; rintro _ _ ⟨rfl, rfl⟩
           refine TL.nil (TQ.then (TC.seq (TC.region (TL.opV rfl (op_loadS tst_sealskinref12_Part rfl m2 rfl) (TL.hp (fun _ h => h.pick1) ?_)))))
           refine TL.opX0 (OpX.storeS tst_sealskinref12_Part rfl rfl rfl rfl rfl (nc_one (by first | rfl | assumption | exact Pc.hs _) (by first | rfl | assumption | exact Pc.hk _))) ?_; rintro _ _ rfl
           refine TL.nil (TQ.then (TC.ret (TQ.then_ret (TQ.then_ret (TQ.block_ret (TQ.loop_ret (TQ.block_ret (TQ.then_ret ?_))))))))
           refine retc tst_sealskinref12_Part rfl rfl m0 rfl (fun w' hp => ?_)
           exact ⟨_, _, rfl, ⟨rs1, k + 2, 90, ⟨1, neg, sv, nilS, 0, 0, false, 0, hsv, rfl⟩, rfl, .err hrs (setN_err (hbi.badr c1 hlt c3 c4 (by omega) (hx1.trans c6) (by rw [hx2]; exact c7) (by omega))) (by decide), rfl⟩, Hp.tail (hp.drop2.tail.pick2.pick2)⟩
          ·refine TC.skip (TQ.then (TC.region (TL.mv rfl rfl (TL.opP rfl (op_nilCheck rfl) (TL.opP rfl (op_field fld_sealskinref12_reader_at rfl) (TL.opV rfl (op_load ts_int rfl m0 rfl) (TL.opP rfl (op_add (r := ((k + 3 : Nat) : Int)) rfl rfl (by omega) (by omega) (by omega)) (TL.opP rfl (op_nilCheck rfl) (TL.opP rfl (op_field fld_sealskinref12_reader_at rfl) ?_)))))))))
           refine TL.opX0 (OpX.store1 ts_int rfl rfl (by first | rfl | assumption) rfl rfl) ?_; rintro _ _ rfl
           refine TL.nil (TQ.then (TC.region (TL.opP rfl (op_field fld_sealskinref12_Part_Set rfl) (TL.opV rfl (op_load ts_sl_ar2_int32 rfl m2 rfl) (TL.mv rfl rfl (TL.mv rfl rfl (TL.opP rfl (op_build (ps := #[(0, _), (1, _)]) rfl (bl_ar2_int32_01 _ _)) ?_)))))))
           refine TL.opX rfl (OpX.buildSlice (ps := #[(0, _)]) rfl (bs_ar2_int32_1 (nx l k, nx l (k + 2)))) ?_; rintro _ _ ⟨g113, rfl, rfl⟩
           refine TL.hp (fun _ h => blk_row (k := 2) (m := 1) h rfl (by decide)) (TL.hp (fun _ h => h.pick4) ?_)
           refine TL.opX rfl (OpX.append (bytes := 8) tsl_ar2_int32 (by decide) (by decide) rfl rw1 (spC_one _) (by omega) (zs := spC (a2 ++ [(nx l k, nx l (k + 2))])) (spC_append _ _).symm) ?_; rintro v12 _ rfl
           refine TL.know (fun _ h => row1 h) (fun o12 => (TL.hp (fun _ h => row_lenS h) (TL.opP rfl (op_field fld_sealskinref12_Part_Set rfl) (TL.hp (fun _ h => h.pick4) ?_))))
           refine TL.opX0 (OpX.store1 ts_sl_ar2_int32 rfl rfl (by first | rfl | assumption) rfl rfl) ?_; rintro _ _ rfl
           refine TL.nil (TQ.block_normal ?_)
           exact TQ.round (f, k + 3, acc ++ [(nx l k, nx l (k + 2))], a2 ++ [(nx l k, nx l (k + 2))], v12, rs1, 0) (by (try dsimp only); exact ⟨by omega, by omega, by rw [List.length_append, List.length_singleton]; omega, by assumption, hrs, hbi.rng c1 hlt c3 c4 (by omega) (hx1.trans c6) (by rw [hx2]; exact c7) (by omega)⟩) ((by show l.length - (k + 3) < l.length - k; omega)) ⟨rfl, rfl, rfl, trivial⟩ (fun _ h => h.drop2.pick2.pick4.pick3.pick3.pick4)
       ·refine TC.skip (TQ.then (TC.region (TL.opP rfl (op_field fld_sealskinref12_Part_Set rfl) (TL.opV rfl (op_load ts_sl_ar2_int32 rfl m2 rfl) (TL.mv rfl rfl (TL.mv rfl rfl (TL.opP rfl (op_build (ps := #[(0, _), (1, _)]) rfl (bl_ar2_int32_01 _ _)) ?_)))))))
        refine TL.opX rfl (OpX.buildSlice (ps := #[(0, _)]) rfl (bs_ar2_int32_1 (nx l k, nx l k))) ?_; rintro _ _ ⟨g113, rfl, rfl⟩
        refine TL.hp (fun _ h => blk_row (k := 2) (m := 1) h rfl (by decide)) (TL.hp (fun _ h => h.pick4) ?_)
        refine TL.opX rfl (OpX.append (bytes := 8) tsl_ar2_int32 (by decide) (by decide) rfl rw1 (spC_one _) (by omega) (zs := spC (a2 ++ [(nx l k, nx l k)])) (spC_append _ _).symm) ?_; rintro v13 _ rfl
        refine TL.know (fun _ h => row1 h) (fun o13 => (TL.hp (fun _ h => row_lenS h) (TL.opP rfl (op_field fld_sealskinref12_Part_Set rfl) (TL.hp (fun _ h => h.pick4) ?_))))
        refine TL.opX0 (OpX.store1 ts_sl_ar2_int32 rfl rfl (by first | rfl | assumption) rfl rfl) ?_; rintro _ _ rfl
        refine TL.nil (TQ.block_normal ?_)
        exact TQ.round (f, k + 1, acc ++ [(nx l k, nx l k)], a2 ++ [(nx l k, nx l k)], v13, rs1, 0) (by (try dsimp only); exact ⟨by omega, by omega, by rw [List.length_append, List.length_singleton]; omega, by assumption, hrs, hbi.one c1 hlt c3 c4 (by intro hr; obtain ⟨q1, q2, q3⟩ := hr; rw [nx_in (by omega)] at q2 q3; omega)⟩) ((by show l.length - (k + 1) < l.length - k; omega)) ⟨rfl, rfl, rfl, trivial⟩ (fun _ h => h.drop2.pick2.pick4.pick3.pick3.pick4)
      ·refine TR.off rfl rfl (by exact wtFf rfl rfl) (TR.off rfl rfl (by exact wtFf rfl rfl) (TR.off rfl rfl (by exact wtFf rfl rfl) (TR.off rfl rfl (by exact wtFf rfl rfl) (TR.off rfl rfl (by exact wtFf rfl rfl) (TR.off rfl rfl (by exact wtFf rfl rfl) (TR.offT rfl rfl (by exact wtFf rfl rfl) (fun _ h => h) (TR.offT rfl rfl (by exact wtFf rfl rfl) (fun _ h => h) (TR.off rfl rfl (by exact wtFf rfl rfl) (TR.offT rfl rfl (by exact wtFf rfl rfl) (fun _ h => h) (TR.offT rfl rfl (by exact wtFf rfl rfl) (fun _ h => h) (TR.off rfl rfl (by exact wtFf rfl rfl) (TR.p rfl rfl wt0 (op_pickF rfl rfl) (TR.nil (TQ.then (TC.condF rfl (TC.skip (TQ.then (TC.region (TL.opP rfl (op_field fld_sealskinref12_Part_Set rfl) (TL.opV rfl (op_load ts_sl_ar2_int32 rfl m2 rfl) ?_))))))))))))))))))))
       refine TL.mv rfl rfl (TL.mv rfl rfl (TL.opP rfl (op_build (ps := #[(0, _), (1, _)]) rfl (bl_ar2_int32_01 _ _)) ?_))
       refine TL.opX rfl (OpX.buildSlice (ps := #[(0, _)]) rfl (bs_ar2_int32_1 (nx l k, nx l k))) ?_; rintro _ _ ⟨g113, rfl, rfl⟩
       refine TL.hp (fun _ h => blk_row (k := 2) (m := 1) h rfl (by decide)) (TL.hp (fun _ h => h.pick4) ?_)
       refine TL.opX rfl (OpX.append (bytes := 8) tsl_ar2_int32 (by decide) (by decide) rfl rw1 (spC_one _) (by omega) (zs := spC (a2 ++ [(nx l k, nx l k)])) (spC_append _ _).symm) ?_; rintro v14 _ rfl
       refine TL.know (fun _ h => row1 h) (fun o14 => (TL.hp (fun _ h => row_lenS h) (TL.opP rfl (op_field fld_sealskinref12_Part_Set rfl) (TL.hp (fun _ h => h.pick4) ?_))))
       refine TL.opX0 (OpX.store1 ts_sl_ar2_int32 rfl rfl (by first | rfl | assumption) rfl rfl) ?_; rintro _ _ rfl
       refine TL.nil (TQ.block_normal ?_)
       exact TQ.round (f, k + 1, acc ++ [(nx l k, nx l k)], a2 ++ [(nx l k, nx l k)], v14, rs1, 0) (by (try dsimp only); exact ⟨by omega, by omega, by rw [List.length_append, List.length_singleton]; omega, by assumption, hrs, hbi.one c1 hlt c3 c4 (by intro hr; obtain ⟨q1, q2, q3⟩ := hr; rw [nx_in (by omega)] at q2 q3; omega)⟩) ((by show l.length - (k + 1) < l.length - k; omega)) ⟨rfl, rfl, rfl, trivial⟩ (fun _ h => h.drop2.pick2.pick4.pick3.pick3.pick4)
     ·refine TR.off rfl rfl (by exact wtFf rfl rfl) (TR.off rfl rfl (by exact wtFf rfl rfl) (TR.off rfl rfl (by exact wtFf rfl rfl) (TR.off rfl rfl (by exact wtFf rfl rfl) (TR.off rfl rfl (by exact wtFf rfl rfl) (TR.off rfl rfl (by exact wtFf rfl rfl) (TR.offT rfl rfl (by exact wtFf rfl rfl) (fun _ h => h) (TR.offT rfl rfl (by exact wtFf rfl rfl) (fun _ h => h) (TR.offT rfl rfl (by exact wtFf rfl rfl) (fun _ h => h) (TR.offT rfl rfl (by exact wtFf rfl rfl) (fun _ h => h) (TR.off rfl rfl (by exact wtFf rfl rfl) (TR.p rfl rfl wt0 (op_pickF rfl rfl) (TR.p rfl rfl wt0 (op_move rfl) (TR.off rfl rfl (by exact wtFf rfl rfl) (TR.off rfl rfl (by exact wtFf rfl rfl) (TR.off rfl rfl (by exact wtFf rfl rfl) (TR.off rfl rfl (by exact wtFf rfl rfl) ?_))))))))))))))))
      refine TR.off rfl rfl (by exact wtFf rfl rfl) (TR.off rfl rfl (by exact wtFf rfl rfl) (TR.offT rfl rfl (by exact wtFf rfl rfl) (fun _ h => h) (TR.offT rfl rfl (by exact wtFf rfl rfl) (fun _ h => h) (TR.off rfl rfl (by exact wtFf rfl rfl) (TR.offT rfl rfl (by exact wtFf rfl rfl) (fun _ h => h) (TR.offT rfl rfl (by exact wtFf rfl rfl) (fun _ h => h) (TR.off rfl rfl (by exact wtFf rfl rfl) (TR.p rfl rfl wt0 (op_pickF rfl rfl) (TR.nil (TQ.then (TC.condF rfl (TC.skip (TQ.then (TC.region (TL.opP rfl (op_field fld_sealskinref12_Part_Set rfl) (TL.opV rfl (op_load ts_sl_ar2_int32 rfl m2 rfl) (TL.mv rfl rfl (TL.mv rfl rfl (TL.opP rfl (op_build (ps := #[(0, _), (1, _)]) rfl (bl_ar2_int32_01 _ _)) ?_)))))))))))))))))))
      refine TL.opX rfl (OpX.buildSlice (ps := #[(0, _)]) rfl (bs_ar2_int32_1 (nx l k, nx l k))) ?_; rintro _ _ ⟨g113, rfl, rfl⟩
      refine TL.hp (fun _ h => blk_row (k := 2) (m := 1) h rfl (by decide)) (TL.hp (fun _ h => h.pick4) ?_)
      refine TL.opX rfl (OpX.append (bytes := 8) tsl_ar2_int32 (by decide) (by decide) rfl rw1 (spC_one _) (by omega) (zs := spC (a2 ++ [(nx l k, nx l k)])) (spC_append _ _).symm) ?_; rintro v15 _ rfl
      refine TL.know (fun _ h => row1 h) (fun o15 => (TL.hp (fun _ h => row_lenS h) (TL.opP rfl (op_field fld_sealskinref12_Part_Set rfl) (TL.hp (fun _ h => h.pick4) ?_))))
      refine TL.opX0 (OpX.store1 ts_sl_ar2_int32 rfl rfl (by first | rfl | assumption) rfl rfl) ?_; rintro _ _ rfl
      refine TL.nil (TQ.block_normal ?_)
      exact TQ.round (f, k + 1, acc ++ [(nx l k, nx l k)], a2 ++ [(nx l k, nx l k)], v15, rs1, 0) (by (try dsimp only); exact ⟨by omega, by omega, by rw [List.length_append, List.length_singleton]; omega, by assumption, hrs, hbi.one c1 hlt c3 c4 (by intro hr; obtain ⟨q1, q2, q3⟩ := hr; rw [nx_in (by omega)] at q2 q3; omega)⟩) ((by show l.length - (k + 1) < l.length - k; omega)) ⟨rfl, rfl, rfl, trivial⟩ (fun _ h => h.drop2.pick2.pick4.pick3.pick3.pick4)
 ·obtain ⟨rfl, hlt, h93⟩ := pk_some (Decidable.not_not.1 c1) (by decide)
  refine TC.exit (TQ.then_exit (TQ.loop_exit (TQ.block_hit (TQ.then (TC.seq (TC.seq (TC.region (TL.opP rfl (op_field fld_sealskinref12_Part_Set rfl) (TL.opV rfl (op_load ts_sl_ar2_int32 rfl m2 rfl) (TL.opV rfl (op_lenV rfl un_sl_ar2_int32 rfl rw3) (TL.opP rfl (op_eql rfl rfl) (TL.nil (TQ.then ?_)))))))))))))
  refine TC.sp rfl (fun c11 => ?_) (fun c11 => ?_)
  ·refine TC.seq (TC.region (TL.opP rfl (op_move rfl) ?_))
   refine TL.opX rfl (OpX.callX en_85 rfl (xfail0_x l _ _ k gn hxl.cons.cons.cons.cons hln 90)) ?_; rintro _ _ ⟨rfl, rfl⟩
   refine TL.nil (TQ.then (TC.seq (TC.region (TL.opV rfl (op_loadS tst_sealskinref12_Part rfl m2 rfl) (TL.hp (fun _ h => h.pick1) ?_)))))
   refine TL.opX0 (OpX.storeS tst_sealskinref12_Part rfl rfl rfl rfl rfl (nc_one (by first | rfl | assumption | exact Pc.hs _) (by first | rfl | assumption | exact Pc.hk _))) ?_; rintro _ _ rfl
   refine TL.nil (TQ.then (TC.ret (TQ.then_ret ?_)))
   refine retc tst_sealskinref12_Part rfl rfl m0 rfl (fun w' hp => ?_)
   exact ⟨_, _, rfl, ⟨rs1, k, 90, ⟨1, neg, sv, nilS, 0, 0, false, 0, hsv, rfl⟩, rfl, .err hrs (setN_err (hbi.fin0 h93 (List.length_eq_zero_iff.1 (by omega)))) (by decide), rfl⟩, Hp.tail (hp.drop2.tail.pick2.pick2)⟩
  ·obtain ⟨t, ht1, ht2⟩ := hbi.fin (rs := .rd sv 2 a2.length (spC a2) :: rs1) (gn := gn) (p := ⟨1, neg, sv, nilS, 0, 0, false, 0, hsv, rfl⟩) h93 (by rintro rfl; exact c11 rfl) rfl rfl rfl (.head _)
   refine TC.skip (TQ.then (TC.seq (TC.region (TL.mv rfl rfl (TL.opP rfl (op_nilCheck rfl) (TL.opP rfl (op_field fld_sealskinref12_reader_at rfl) (TL.opV rfl (op_load ts_int rfl m0 rfl) (TL.opP rfl (op_add (r := ((k + 1 : Nat) : Int)) rfl rfl (by omega) (by omega) (by omega)) (TL.opP rfl (op_nilCheck rfl) (TL.opP rfl (op_field fld_sealskinref12_reader_at rfl) ?_))))))))))
   refine TL.opX0 (OpX.store1 ts_int rfl rfl (by first | rfl | assumption) rfl rfl) ?_; rintro _ _ rfl
   refine TL.nil (TQ.then (TC.seq (TC.region (TL.opV rfl (op_loadS tst_sealskinref12_Part rfl m2 rfl) (TL.hp (fun _ h => h.pick1) ?_)))))
   refine TL.opX0 (OpX.storeS tst_sealskinref12_Part rfl rfl rfl rfl rfl (nc_one (by first | rfl | assumption | exact Pc.hs _) (by first | rfl | assumption | exact Pc.hk _))) ?_; rintro _ _ rfl
   refine TL.nil (TQ.then (TC.ret ?_))
   refine retc tst_sealskinref12_Part rfl rfl m0 rfl (fun w' hp => ?_)
   exact ⟨_, _, rfl, ⟨_, k + 1, 0, ⟨1, neg, sv, nilS, 0, 0, false, 0, hsv, rfl⟩, rfl, .ok (fun x hx => .tail _ (hrs hx)) ht1 ht2, rfl⟩, fz_row (hp.drop2.tail.pick2.pick2)⟩

end Go.SK
