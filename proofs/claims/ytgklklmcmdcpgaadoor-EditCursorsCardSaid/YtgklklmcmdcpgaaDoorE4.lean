/- Walks: going over an edit. -/
import Derived.Test.YtgklklmcmdcpgaaDoorE3
set_option linter.unusedVariables false
set_option linter.unusedSimpArgs false
set_option maxRecDepth 100000
namespace Go.SK
open Go Go.RowKit Go.Proofs
variable {S : Nat → Prop} {w0 : World} {F L : List Res}
theorem load_x (l : List Part) (tx : List Int) (g : Nat) (vl vt : Value) (hs : ∀ p ∈ l, p.text.size ≤ 70368744177664) :
    CallX Tryd.prog 72 [.pointer (some ⟨g, 0, none⟩)] S w0 (.blk g (.cells [vl, vt].toArray 96 (0, 0)) :: .win vl 47 3 l.length (encs l) :: .rd vt 1 tx.length (tx.map (Value.int .i32)) :: F) (fun u L' => u = .tuple #[] ∧ ∃ vt', L' = .blk g (.cells [vl, vt'].toArray 96 (0, 0)) :: .win vl 47 3 l.length (encs l) :: .rd vt' 1 (loadT l tx).length ((loadT l tx).map (Value.int .i32)) :: F) := by
  intro w hp
  refine calls_start Tryd.func72 rfl rfl rfl (hp) ?_
  refine TC.seq ?_
  refine TC.region ?_   -- region 0 edit.go:149
  refine TL.opP rfl (op_move rfl) ?_
  refine TL.opP rfl (op_nilCheck rfl) ?_
  refine TL.opP rfl (op_field fld_edit_walk_l rfl) ?_
  refine TL.opV rfl (op_load ts_sl_api_Part rfl m0 rfl) ?_
  refine TL.opV rfl (op_lenV rfl un_sl_api_Part rfl wn1) ?_
  refine TL.opP rfl (op_gtr rfl rfl) ?_
  refine TL.opP rfl (op_move rfl) ?_
  first | refine TL.splitD (fun c1 => ?_) (fun c1 => ?_) | refine TL.splitB (fun c1 => ?_) (fun c1 => ?_)
  · obtain ⟨p, l, rfl⟩ : ∃ p l', l = p :: l' := by cases l with | nil => simp at c1 | cons q r' => exact ⟨q, r', rfl⟩
    have hp1 := Nat.le_trans (dec_len p.text) (hs p (.head _))
    refine TL.gT rfl rfl ?_
    refine TL.opP rfl (op_move rfl) ?_
    refine TL.gT rfl rfl ?_
    refine TL.opP rfl (op_nilCheck rfl) ?_
    refine TL.gT rfl rfl ?_
    refine TL.opP rfl (op_field fld_edit_walk_l rfl) ?_
    refine TL.gT rfl rfl ?_
    refine TL.opV rfl (op_load ts_sl_api_Part rfl m0 rfl) ?_
    refine TL.gT rfl rfl ?_
    refine TL.opV rfl (op_index tsl_api_Part rfl wn1 rfl (by simp) (by simp)) ?_
    refine TL.gT rfl rfl ?_
    refine TL.opP rfl (op_fieldA fld_api_Part_Kind rfl) ?_
    refine TL.gT rfl rfl ?_
    refine TL.opV rfl (op_loadR ts_int rfl wn1 (lkH 0 rfl (by decide) rfl)) ?_
    refine TL.gT rfl rfl ?_
    refine TL.opP rfl (op_eql rfl rfl) ?_
    refine TL.opP rfl (op_pickT rfl rfl) ?_
    refine TL.nil ?_
    refine TQ.then ?_
    first | refine TC.condD rfl (fun c2 => ?_) (fun c2 => ?_) | refine TC.condB rfl (fun c2 => ?_) (fun c2 => ?_)
    · refine TC.region ?_   -- region 1 edit.go:150
      refine TL.opP rfl (op_move rfl) ?_
      refine TL.opP rfl (op_move rfl) ?_
      refine TL.opP rfl (op_nilCheck rfl) ?_
      refine TL.opP rfl (op_field fld_edit_walk_l rfl) ?_
      refine TL.opV rfl (op_load ts_sl_api_Part rfl m0 rfl) ?_
      refine TL.opV rfl (op_index tsl_api_Part rfl wn1 rfl (by simp) (by simp)) ?_
      refine TL.opP rfl (op_fieldA fld_api_Part_Text rfl) ?_
      refine TL.opV rfl (op_loadR ts_string rfl wn1 (lkH 2 rfl (by decide) rfl)) ?_
      refine TL.opX rfl (OpX.runes un_string tsl_int32 un_int32 rfl (by omega)) ?_; rintro v1 _ rfl
      refine TL.know (fun _ h => row1 h) (fun o1 => ?_)
      refine TL.hp (fun _ h => row_rd h) ?_
      refine TL.opP rfl (op_nilCheck rfl) ?_
      refine TL.opP rfl (op_field fld_edit_walk_text rfl) ?_
      refine TL.hp (fun _ h => h.pick1) ?_
      refine TL.opX0 (OpX.store1 ts_sl_int32 rfl rfl (by first | rfl | assumption) rfl rfl) ?_; rintro _ _ rfl
      refine TL.nil ?_
      refine end0 rfl (fun w' hp => ?_)
      exact ⟨_, _, rfl, ⟨rfl, v1, by first | rfl | (rw [loadT, if_pos c2]; first | done | rfl) | (rw [loadT, if_neg c2]; first | done | rfl)⟩, (hp.drop3.pick1.pick2.pick2)⟩
    · refine TC.skip ?_
      refine end0 rfl (fun w' hp => ?_)
      exact ⟨_, _, rfl, ⟨rfl, vt, by first | rfl | (rw [loadT, if_pos c2]; first | done | rfl) | (rw [loadT, if_neg c2]; first | done | rfl)⟩, (hp)⟩
  · obtain rfl : l = [] := by cases l with | nil => rfl | cons q r' => simp at c1
    refine TL.gFf rfl rfl rfl ?_
    refine TL.gFf rfl rfl rfl ?_
    refine TL.gFf rfl rfl rfl ?_
    refine TL.gFf rfl rfl rfl ?_
    refine TL.gFf rfl rfl rfl ?_
    refine TL.gFf rfl rfl rfl ?_
    refine TL.gFf rfl rfl rfl ?_
    refine TL.gFf rfl rfl rfl ?_
    refine TL.opP rfl (op_pickF rfl rfl) ?_
    refine TL.nil ?_
    refine TQ.then ?_
    refine TC.condF rfl ?_
    refine TC.skip ?_
    refine end0 rfl (fun w' hp => ?_)
    exact ⟨_, _, rfl, ⟨rfl, vt, by first | rfl | (rw [loadT, if_pos c2]; first | done | rfl) | (rw [loadT, if_neg c2]; first | done | rfl)⟩, (hp)⟩

theorem kind_x (l : List Part) (tx : List Int) (g : Nat) (vl vt : Value) :
    CallX Tryd.prog 66 [.pointer (some ⟨g, 0, none⟩)] S w0 (.blk g (.cells [vl, vt].toArray 96 (0, 0)) :: .win vl 47 3 l.length (encs l) :: .rd vt 1 tx.length (tx.map (Value.int .i32)) :: F) (fun u L' => u = .int .i64 (kindL l) ∧ L' = .blk g (.cells [vl, vt].toArray 96 (0, 0)) :: .win vl 47 3 l.length (encs l) :: .rd vt 1 tx.length (tx.map (Value.int .i32)) :: F) := by
  intro w hp
  refine calls_start Tryd.func66 rfl rfl rfl (hp) ?_
  refine TC.seq ?_
  refine TC.region ?_   -- region 0 edit.go:155
  refine TL.opP rfl (op_assign rfl) ?_
  refine TL.nil ?_
  refine TQ.then ?_
  refine TC.seq ?_
  refine TC.seq ?_
  refine TC.region ?_   -- region 1 edit.go:156
  refine TL.opP rfl (op_move rfl) ?_
  refine TL.opP rfl (op_nilCheck rfl) ?_
  refine TL.opP rfl (op_field fld_edit_walk_l rfl) ?_
  refine TL.opV rfl (op_load ts_sl_api_Part rfl m0 rfl) ?_
  refine TL.opV rfl (op_lenV rfl un_sl_api_Part rfl wn1) ?_
  refine TL.opP rfl (op_eql rfl rfl) ?_
  refine TL.nil ?_
  refine TQ.then ?_
  first | refine TC.condD rfl (fun c1 => ?_) (fun c1 => ?_) | refine TC.condB rfl (fun c1 => ?_) (fun c1 => ?_)
  · obtain rfl : l = [] := by cases l with | nil => rfl | cons q r' => (simp only [List.length_cons] at c1; omega)
    refine TC.seq ?_
    refine TC.region ?_   -- region 2 edit.go:157
    refine TL.opP rfl (op_assign rfl) ?_
    refine TL.nil ?_
    refine TQ.then ?_
    refine TC.ret ?_
    refine TQ.then_ret ?_
    refine ret1 rfl rfl (fun w' hp => ?_)
    exact ⟨_, _, rfl, ⟨rfl, rfl⟩, (hp)⟩
  · obtain ⟨p, l, rfl⟩ : ∃ p l', l = p :: l' := by cases l with | nil => simp at c1 | cons q r' => exact ⟨q, r', rfl⟩
    refine TC.skip ?_
    refine TQ.then ?_
    refine TC.seq ?_
    refine TC.region ?_   -- region 3 edit.go:159
    refine TL.opP rfl (op_move rfl) ?_
    refine TL.opP rfl (op_nilCheck rfl) ?_
    refine TL.opP rfl (op_field fld_edit_walk_l rfl) ?_
    refine TL.opV rfl (op_load ts_sl_api_Part rfl m0 rfl) ?_
    refine TL.opV rfl (op_index tsl_api_Part rfl wn1 rfl (by simp) (by simp)) ?_
    refine TL.opP rfl (op_fieldA fld_api_Part_Kind rfl) ?_
    refine TL.opV rfl (op_loadR ts_int rfl wn1 (lkH 0 rfl (by decide) rfl)) ?_
    refine TL.opP rfl (op_assign rfl) ?_
    refine TL.nil ?_
    refine TQ.then ?_
    refine TC.ret ?_
    refine ret1 rfl rfl (fun w' hp => ?_)
    exact ⟨_, _, rfl, ⟨rfl, rfl⟩, (hp)⟩

theorem left_x (p : Part) (l : List Part) (tx : List Int) (g : Nat) (vl vt : Value) :
    CallX Tryd.prog 68 [.pointer (some ⟨g, 0, none⟩)] S w0 (.blk g (.cells [vl, vt].toArray 96 (0, 0)) :: .win vl 47 3 (p :: l).length (encs (p :: l)) :: .rd vt 1 tx.length (tx.map (Value.int .i32)) :: F) (fun u L' => u = .int .i64 p.n ∧ L' = .blk g (.cells [vl, vt].toArray 96 (0, 0)) :: .win vl 47 3 (p :: l).length (encs (p :: l)) :: .rd vt 1 tx.length (tx.map (Value.int .i32)) :: F) := by
  intro w hp
  refine calls_start Tryd.func68 rfl rfl rfl (hp) ?_
  refine TC.seq ?_
  refine TC.region ?_   -- region 0 edit.go:163
  refine TL.opP rfl (op_assign rfl) ?_
  refine TL.nil ?_
  refine TQ.then ?_
  refine TC.seq ?_
  refine TC.region ?_   -- region 1 edit.go:163
  refine TL.opP rfl (op_move rfl) ?_
  refine TL.opP rfl (op_nilCheck rfl) ?_
  refine TL.opP rfl (op_field fld_edit_walk_l rfl) ?_
  refine TL.opV rfl (op_load ts_sl_api_Part rfl m0 rfl) ?_
  refine TL.opV rfl (op_index tsl_api_Part rfl wn1 rfl (by simp) (by simp)) ?_
  refine TL.opP rfl (op_fieldA fld_api_Part_N rfl) ?_
  refine TL.opV rfl (op_loadR ts_int rfl wn1 (lkH 1 rfl (by decide) rfl)) ?_
  refine TL.opP rfl (op_assign rfl) ?_
  refine TL.nil ?_
  refine TQ.then ?_
  refine TC.ret ?_
  refine ret1 rfl rfl (fun w' hp => ?_)
  exact ⟨_, _, rfl, ⟨rfl, rfl⟩, (hp)⟩

theorem take_x (p : Part) (l : List Part) (tx : List Int) (n : Int) (g : Nat) (vl vt : Value) (hn0 : 0 ≤ n) (hn : n ≤ p.n) (hpn : p.n ≤ 1099511627776) (htx : p.kind = 2 → n.toNat ≤ tx.length) (hs : ∀ q ∈ l, q.text.size ≤ 70368744177664) :
    CallX Tryd.prog 67 [.pointer (some ⟨g, 0, none⟩), .int .i64 n] S w0 (.blk g (.cells [vl, vt].toArray 96 (0, 0)) :: .win vl 47 3 (p :: l).length (encs (p :: l)) :: .rd vt 1 tx.length (tx.map (Value.int .i32)) :: F) (fun u L' => u = (takeQ p tx n).val ∧ ∃ vl' vt', L' = .blk g (.cells [vl', vt'].toArray 96 (0, 0)) :: .win vl' 47 3 (takeL p l n).length (encs (takeL p l n)) :: .rd vt' 1 (takeT p l tx n).length ((takeT p l tx n).map (Value.int .i32)) :: F) := by
  intro w hp
  refine calls_start Tryd.func67 rfl rfl rfl (hp) ?_
  refine TC.seq ?_
  refine TC.region ?_   -- region 0 edit.go:166
  refine TL.opX rfl (OpX.alloc tz_api_Part rfl) ?_; rintro _ _ ⟨g4, rfl, rfl⟩
  refine TL.nil ?_
  refine TQ.then ?_
  refine TC.seq ?_
  refine TC.region ?_   -- region 1 edit.go:167
  refine TL.opP rfl (op_move rfl) ?_
  refine TL.opP rfl (op_nilCheck rfl) ?_
  refine TL.opP rfl (op_field fld_edit_walk_l rfl) ?_
  refine TL.opV rfl (op_load ts_sl_api_Part rfl m1 rfl) ?_
  refine TL.opV rfl (op_index tsl_api_Part rfl wn2 rfl (by simp) (by simp)) ?_
  refine TL.opV rfl (op_loadRS tst_api_Part rfl wn2 (cs := p.cs) rfl rfl (by decide)) ?_
  refine TL.opX rfl (OpX.alloc tz_api_Part rfl) ?_; rintro _ _ ⟨g5, rfl, rfl⟩
  refine TL.opX0 (OpX.storeS tst_api_Part rfl rfl rfl rfl rfl (List.all_eq_true.1 rfl)) ?_; rintro _ _ rfl
  refine TL.nil ?_
  refine TQ.then ?_
  refine TC.seq ?_
  refine TC.region ?_   -- region 2 edit.go:168
  refine TL.opP rfl (op_move rfl) ?_
  refine TL.opP rfl (op_field fld_api_Part_N rfl) ?_
  refine TL.opX0 (OpX.store1 ts_int rfl rfl (by first | rfl | assumption) rfl rfl) ?_; rintro _ _ rfl
  refine TL.nil ?_
  refine TQ.then ?_
  refine TC.seq ?_
  refine TC.seq ?_
  refine TC.region ?_   -- region 3 edit.go:169
  refine TL.opP rfl (op_field fld_api_Part_Kind rfl) ?_
  refine TL.opV rfl (op_load ts_int rfl m0 rfl) ?_
  refine TL.opP rfl (op_eql rfl rfl) ?_
  refine TL.nil ?_
  refine TQ.then ?_
  first | refine TC.condD rfl (fun c1 => ?_) (fun c1 => ?_) | refine TC.condB rfl (fun c1 => ?_) (fun c1 => ?_)
  · have htx1 := htx c1
    refine TC.drawS (.blk g (.cells [vl, vt].toArray 96 (0, 0)) :: .win vl 47 3 (p :: l).length (encs (p :: l)) :: .rd vt 1 tx.length (tx.map (Value.int .i32)) :: F) [18] (.cons (.p, 0) (.cons (.p, 1) (.cons (.p, 2) (.cons (.p, 3) (.cons (.p, 5) (.cons (.p, 8) (.cons (.p, 9) (.cons (.p, 10) (.cons (.p, 12) (.cons (.t, 4) (.cons (.t, 6) (.cons (.t, 7) (.cons (.p, 14) (.cons (.t, 11) (.cons (.t, 13) (.cons (.o, 15) (.cons (.p, 16) (.cons (.p, 17) (.cons (.z, 18) (.nil)))))))))))))))))))) mo (by kernel_rfl) ?_   -- region 4 edit.go:170
    refine TR.p rfl rfl wt0 (op_move rfl) ?_
    refine TR.p rfl rfl wt0 (op_move rfl) ?_
    refine TR.p rfl rfl wt0 (op_nilCheck rfl) ?_
    refine TR.p rfl rfl wt0 (op_field fld_edit_walk_text rfl) ?_
    refine TR.p rfl rfl wt0 (op_move rfl) ?_
    refine TR.p rfl rfl wt0 (op_move rfl) ?_
    refine TR.p rfl rfl wt0 (op_nilCheck rfl) ?_
    refine TR.p rfl rfl wt0 (op_field fld_edit_walk_text rfl) ?_
    refine TR.p rfl rfl wt0 (op_move rfl) ?_
    refine TR.t rfl rfl wt0 (op_load ts_sl_int32 rfl m0 rfl) (fun _ h => h.drop1.tail) ?_
    refine TR.t rfl rfl wt0 (op_cut 0 n.toNat tsl_int32 rfl rd2 (vlo := none) (vhi := (some _)) rfl rfl (.inl ⟨rfl, rfl⟩) (.inr ⟨_, _, rfl, by omega⟩) (by omega) (by omega)) (fun _ h => h.drop1.tail) ?_
    refine TR.t rfl rfl wt0 (op_unrunes tsl_int32 un_int32 un_string rfl (Rdb.ints_take rd2 n.toNat htx1)) (fun _ h => h.drop1.tail) ?_
    refine TR.p rfl rfl wt0 (op_field fld_api_Part_Text rfl) ?_
    refine TR.t rfl rfl wt0 (op_load ts_sl_int32 rfl m0 rfl) (fun _ h => h.drop1.tail) ?_
    refine TR.t rfl rfl wt0 (op_cut n.toNat tx.length tsl_int32 rfl rd2 (vlo := (some _)) (vhi := none) rfl rfl (.inr ⟨_, _, rfl, by omega⟩) (.inl ⟨rfl, rfl⟩) (by omega) (by omega)) (fun _ h => h.drop1.tail) ?_
    refine TR.know (fun _ h => (Rdb.cut rd4 n.toNat tx.length (by omega) (by omega)).one h) (fun oc => ?_)
    refine TR.o0 rfl wt0 (OpX.store1 ts_string rfl rfl (by first | rfl | assumption) rfl rfl) (by rintro _ _ rfl; intro w h; exact h.drop1.tail) ?_; rintro _ _ rfl
    refine TR.p rfl rfl wt0 (op_nilCheck rfl) ?_
    refine TR.p rfl rfl wt0 (op_field fld_edit_walk_text rfl) ?_
    refine TR.hp (fun _ h => h.pick2) ?_
    refine TR.z0 rfl wt0 (OpX.store1 ts_sl_int32 rfl rfl (by first | rfl | assumption) rfl rfl) ?_; rintro _ _ rfl
    refine TR.hp (fun _ h => h.pick4) ?_
    refine TR.hp (fun _ h => rd_drop h n.toNat htx1) ?_
    refine TR.nil ?_
    refine TQ.then ?_
    refine TC.seq ?_
    refine TC.region ?_   -- region 5 edit.go:172
    refine TL.opP rfl (op_move rfl) ?_
    refine TL.opP rfl (op_nilCheck rfl) ?_
    refine TL.opP rfl (op_field fld_edit_walk_l rfl) ?_
    refine TL.opV rfl (op_load ts_sl_api_Part rfl m1 rfl) ?_
    refine TL.opV rfl (op_index tsl_api_Part rfl wn4 rfl (by simp) (by simp)) ?_
    refine TL.opP rfl (op_fieldA fld_api_Part_N rfl) ?_
    refine TL.opV rfl (op_loadR ts_int rfl wn4 (lkH 1 rfl (by decide) rfl)) ?_
    refine TL.opP rfl (op_move rfl) ?_
    refine TL.opP rfl (op_sub rfl rfl rfl (by omega) (by omega)) ?_
    refine TL.opV rfl (op_index tsl_api_Part rfl wn4 rfl (by simp) (by simp)) ?_
    refine TL.opP rfl (op_fieldA fld_api_Part_N rfl) ?_
    refine TL.hp (fun _ h => h.pick4) ?_
    refine TL.opX0 (OpX.storeWin (k := 1) (fun w => by kernel_rfl) rfl rfl rfl (ys := [.int .i64 (p.n - n)]) rfl (by decide) (List.all_eq_true.1 rfl) (by simp only [List.length_cons]; omega) (stH (q' := ⟨p.kind, p.n - n, p.text⟩) 1 _ rfl rfl (by decide))) ?_; rintro _ _ rfl
    refine TL.nil ?_
    refine TQ.then ?_
    refine TC.seq ?_
    refine TC.seq ?_
    refine TC.region ?_   -- region 6 edit.go:173
    refine TL.opP rfl (op_move rfl) ?_
    refine TL.opP rfl (op_nilCheck rfl) ?_
    refine TL.opP rfl (op_field fld_edit_walk_l rfl) ?_
    refine TL.opV rfl (op_load ts_sl_api_Part rfl m2 rfl) ?_
    refine TL.opV rfl (op_index tsl_api_Part rfl wn0 rfl (by simp) (by simp)) ?_
    refine TL.opP rfl (op_fieldA fld_api_Part_N rfl) ?_
    refine TL.opV rfl (op_loadR ts_int rfl wn0 (lkH (p := ⟨p.kind, p.n - n, p.text⟩) 1 rfl (by decide) rfl)) ?_
    refine TL.opP rfl (op_eql rfl rfl) ?_
    refine TL.nil ?_
    refine TQ.then ?_
    first | refine TC.condD rfl (fun c2 => ?_) (fun c2 => ?_) | refine TC.condB rfl (fun c2 => ?_) (fun c2 => ?_)
    · refine TC.seq ?_
      refine TC.region ?_   -- region 7 edit.go:174
      refine TL.opP rfl (op_move rfl) ?_
      refine TL.opP rfl (op_move rfl) ?_
      refine TL.opP rfl (op_nilCheck rfl) ?_
      refine TL.opP rfl (op_field fld_edit_walk_l rfl) ?_
      refine TL.opV rfl (op_load ts_sl_api_Part rfl m2 rfl) ?_
      refine TL.opV rfl (op_cut 1 (⟨p.kind, p.n - n, p.text⟩ :: l : List Part).length tsl_api_Part rfl wn0 (vlo := (some _)) (vhi := none) rfl rfl (.inr ⟨_, _, rfl, by simp⟩) (.inl ⟨rfl, rfl⟩) (by simp) (by simp)) ?_
      refine TL.know (fun _ h => (Rdb.cut wn0 1 (p :: l).length (by simp) (by simp)).one h) (fun oc1 => ?_)
      refine TL.opP rfl (op_nilCheck rfl) ?_
      refine TL.opP rfl (op_field fld_edit_walk_l rfl) ?_
      refine TL.hp (fun _ h => h.pick2) ?_
      refine TL.opX0 (OpX.store1 ts_sl_api_Part rfl rfl (by first | rfl | assumption) rfl rfl) ?_; rintro _ _ rfl
      refine TL.hp (fun _ h => h.pick1) ?_
      refine TL.hp (fun _ h => winTail (q := ⟨p.kind, p.n - n, p.text⟩) h) ?_
      refine TL.nil ?_
      refine TQ.then ?_
      refine TC.region ?_   -- region 8 edit.go:175
      refine TL.opP rfl (op_move rfl) ?_
      refine TL.hp (fun _ h => h.pick2.pick1.pick2) ?_
      refine TL.opX rfl (OpX.callX en_72 rfl (load_x l _ _ _ _ hs)) ?_; rintro _ _ ⟨rfl, w1, rfl⟩
      refine TL.nil ?_
      refine TQ.then ?_
      refine TC.seq ?_
      refine TC.region ?_   -- region 9 edit.go:177
      refine TL.opV rfl (op_loadS tst_api_Part rfl m3 rfl) ?_
      refine TL.hp (fun _ h => h.pick4) ?_
      refine TL.opX0 (OpX.storeS tst_api_Part rfl rfl rfl rfl rfl (List.all_eq_true.1 rfl)) ?_; rintro _ _ rfl
      refine TL.nil ?_
      refine TQ.then ?_
      refine TC.ret ?_
      refine retc tst_api_Part rfl rfl m0 rfl (fun w' hp => ?_)
      have hq := (hp.drop4.tail)
      first
        | exact ⟨_, _, rfl, ⟨by simp only [takeQ, if_pos c1]; rfl, (Value.cut vl 1 (⟨p.kind, p.n - n, p.text⟩ :: l : List Part).length 3), w1, by rw [takeL, takeT, if_pos c2, if_pos c2, if_pos c1]; first | done | rfl⟩, hq⟩
        | exact ⟨_, _, rfl, ⟨by simp only [takeQ, if_pos c1]; rfl, (Value.cut vl 1 (⟨p.kind, p.n - n, p.text⟩ :: l : List Part).length 3), w1, by rw [takeL, takeT, if_neg c2, if_neg c2, if_pos c1]; first | done | rfl⟩, hq⟩
        | exact ⟨_, _, rfl, ⟨by simp only [takeQ, if_neg c1]; rfl, (Value.cut vl 1 (⟨p.kind, p.n - n, p.text⟩ :: l : List Part).length 3), w1, by rw [takeL, takeT, if_pos c3, if_pos c3, if_neg c1]; first | done | rfl⟩, hq⟩
        | exact ⟨_, _, rfl, ⟨by simp only [takeQ, if_neg c1]; rfl, (Value.cut vl 1 (⟨p.kind, p.n - n, p.text⟩ :: l : List Part).length 3), w1, by rw [takeL, takeT, if_neg c3, if_neg c3, if_neg c1]; first | done | rfl⟩, hq⟩
    · refine TC.skip ?_
      refine TQ.then ?_
      refine TC.seq ?_
      refine TC.region ?_   -- region 9 edit.go:177
      refine TL.opV rfl (op_loadS tst_api_Part rfl m3 rfl) ?_
      refine TL.hp (fun _ h => h.pick4) ?_
      refine TL.opX0 (OpX.storeS tst_api_Part rfl rfl rfl rfl rfl (List.all_eq_true.1 rfl)) ?_; rintro _ _ rfl
      refine TL.nil ?_
      refine TQ.then ?_
      refine TC.ret ?_
      refine retc tst_api_Part rfl rfl m0 rfl (fun w' hp => ?_)
      have hq := (hp.drop4.tail.pick1.pick1.pick2)
      first
        | exact ⟨_, _, rfl, ⟨by simp only [takeQ, if_pos c1]; rfl, vl, (Value.cut vt n.toNat tx.length 1), by rw [takeL, takeT, if_pos c2, if_pos c2, if_pos c1]; first | done | rfl⟩, hq⟩
        | exact ⟨_, _, rfl, ⟨by simp only [takeQ, if_pos c1]; rfl, vl, (Value.cut vt n.toNat tx.length 1), by rw [takeL, takeT, if_neg c2, if_neg c2, if_pos c1]; first | done | rfl⟩, hq⟩
        | exact ⟨_, _, rfl, ⟨by simp only [takeQ, if_neg c1]; rfl, vl, (Value.cut vt n.toNat tx.length 1), by rw [takeL, takeT, if_pos c3, if_pos c3, if_neg c1]; first | done | rfl⟩, hq⟩
        | exact ⟨_, _, rfl, ⟨by simp only [takeQ, if_neg c1]; rfl, vl, (Value.cut vt n.toNat tx.length 1), by rw [takeL, takeT, if_neg c3, if_neg c3, if_neg c1]; first | done | rfl⟩, hq⟩
  · refine TC.skip ?_
    refine TQ.then ?_
    refine TC.seq ?_
    refine TC.region ?_   -- region 5 edit.go:172
    refine TL.opP rfl (op_move rfl) ?_
    refine TL.opP rfl (op_nilCheck rfl) ?_
    refine TL.opP rfl (op_field fld_edit_walk_l rfl) ?_
    refine TL.opV rfl (op_load ts_sl_api_Part rfl m2 rfl) ?_
    refine TL.opV rfl (op_index tsl_api_Part rfl wn3 rfl (by simp) (by simp)) ?_
    refine TL.opP rfl (op_fieldA fld_api_Part_N rfl) ?_
    refine TL.opV rfl (op_loadR ts_int rfl wn3 (lkH 1 rfl (by decide) rfl)) ?_
    refine TL.opP rfl (op_move rfl) ?_
    refine TL.opP rfl (op_sub rfl rfl rfl (by omega) (by omega)) ?_
    refine TL.opV rfl (op_index tsl_api_Part rfl wn3 rfl (by simp) (by simp)) ?_
    refine TL.opP rfl (op_fieldA fld_api_Part_N rfl) ?_
    refine TL.hp (fun _ h => h.pick3) ?_
    refine TL.opX0 (OpX.storeWin (k := 1) (fun w => by kernel_rfl) rfl rfl rfl (ys := [.int .i64 (p.n - n)]) rfl (by decide) (List.all_eq_true.1 rfl) (by simp only [List.length_cons]; omega) (stH (q' := ⟨p.kind, p.n - n, p.text⟩) 1 _ rfl rfl (by decide))) ?_; rintro _ _ rfl
    refine TL.nil ?_
    refine TQ.then ?_
    refine TC.seq ?_
    refine TC.seq ?_
    refine TC.region ?_   -- region 6 edit.go:173
    refine TL.opP rfl (op_move rfl) ?_
    refine TL.opP rfl (op_nilCheck rfl) ?_
    refine TL.opP rfl (op_field fld_edit_walk_l rfl) ?_
    refine TL.opV rfl (op_load ts_sl_api_Part rfl m3 rfl) ?_
    refine TL.opV rfl (op_index tsl_api_Part rfl wn0 rfl (by simp) (by simp)) ?_
    refine TL.opP rfl (op_fieldA fld_api_Part_N rfl) ?_
    refine TL.opV rfl (op_loadR ts_int rfl wn0 (lkH (p := ⟨p.kind, p.n - n, p.text⟩) 1 rfl (by decide) rfl)) ?_
    refine TL.opP rfl (op_eql rfl rfl) ?_
    refine TL.nil ?_
    refine TQ.then ?_
    first | refine TC.condD rfl (fun c3 => ?_) (fun c3 => ?_) | refine TC.condB rfl (fun c3 => ?_) (fun c3 => ?_)
    · refine TC.seq ?_
      refine TC.region ?_   -- region 7 edit.go:174
      refine TL.opP rfl (op_move rfl) ?_
      refine TL.opP rfl (op_move rfl) ?_
      refine TL.opP rfl (op_nilCheck rfl) ?_
      refine TL.opP rfl (op_field fld_edit_walk_l rfl) ?_
      refine TL.opV rfl (op_load ts_sl_api_Part rfl m3 rfl) ?_
      refine TL.opV rfl (op_cut 1 (⟨p.kind, p.n - n, p.text⟩ :: l : List Part).length tsl_api_Part rfl wn0 (vlo := (some _)) (vhi := none) rfl rfl (.inr ⟨_, _, rfl, by simp⟩) (.inl ⟨rfl, rfl⟩) (by simp) (by simp)) ?_
      refine TL.know (fun _ h => (Rdb.cut wn0 1 (p :: l).length (by simp) (by simp)).one h) (fun oc1 => ?_)
      refine TL.opP rfl (op_nilCheck rfl) ?_
      refine TL.opP rfl (op_field fld_edit_walk_l rfl) ?_
      refine TL.hp (fun _ h => h.pick3) ?_
      refine TL.opX0 (OpX.store1 ts_sl_api_Part rfl rfl (by first | rfl | assumption) rfl rfl) ?_; rintro _ _ rfl
      refine TL.hp (fun _ h => h.pick1) ?_
      refine TL.hp (fun _ h => winTail (q := ⟨p.kind, p.n - n, p.text⟩) h) ?_
      refine TL.nil ?_
      refine TQ.then ?_
      refine TC.region ?_   -- region 8 edit.go:175
      refine TL.opP rfl (op_move rfl) ?_
      refine TL.hp (fun _ h => h.pick4.pick1.pick2) ?_
      refine TL.opX rfl (OpX.callX en_72 rfl (load_x l _ _ _ _ hs)) ?_; rintro _ _ ⟨rfl, w2, rfl⟩
      refine TL.nil ?_
      refine TQ.then ?_
      refine TC.seq ?_
      refine TC.region ?_   -- region 9 edit.go:177
      refine TL.opV rfl (op_loadS tst_api_Part rfl m3 rfl) ?_
      refine TL.hp (fun _ h => h.pick4) ?_
      refine TL.opX0 (OpX.storeS tst_api_Part rfl rfl rfl rfl rfl (List.all_eq_true.1 rfl)) ?_; rintro _ _ rfl
      refine TL.nil ?_
      refine TQ.then ?_
      refine TC.ret ?_
      refine retc tst_api_Part rfl rfl m0 rfl (fun w' hp => ?_)
      have hq := (hp.drop4.tail)
      first
        | exact ⟨_, _, rfl, ⟨by simp only [takeQ, if_pos c1]; rfl, (Value.cut vl 1 (⟨p.kind, p.n - n, p.text⟩ :: l : List Part).length 3), w2, by rw [takeL, takeT, if_pos c2, if_pos c2, if_pos c1]; first | done | rfl⟩, hq⟩
        | exact ⟨_, _, rfl, ⟨by simp only [takeQ, if_pos c1]; rfl, (Value.cut vl 1 (⟨p.kind, p.n - n, p.text⟩ :: l : List Part).length 3), w2, by rw [takeL, takeT, if_neg c2, if_neg c2, if_pos c1]; first | done | rfl⟩, hq⟩
        | exact ⟨_, _, rfl, ⟨by simp only [takeQ, if_neg c1]; rfl, (Value.cut vl 1 (⟨p.kind, p.n - n, p.text⟩ :: l : List Part).length 3), w2, by rw [takeL, takeT, if_pos c3, if_pos c3, if_neg c1]; first | done | rfl⟩, hq⟩
        | exact ⟨_, _, rfl, ⟨by simp only [takeQ, if_neg c1]; rfl, (Value.cut vl 1 (⟨p.kind, p.n - n, p.text⟩ :: l : List Part).length 3), w2, by rw [takeL, takeT, if_neg c3, if_neg c3, if_neg c1]; first | done | rfl⟩, hq⟩
    · refine TC.skip ?_
      refine TQ.then ?_
      refine TC.seq ?_
      refine TC.region ?_   -- region 9 edit.go:177
      refine TL.opV rfl (op_loadS tst_api_Part rfl m1 rfl) ?_
      refine TL.hp (fun _ h => h.pick2) ?_
      refine TL.opX0 (OpX.storeS tst_api_Part rfl rfl rfl rfl rfl (List.all_eq_true.1 rfl)) ?_; rintro _ _ rfl
      refine TL.nil ?_
      refine TQ.then ?_
      refine TC.ret ?_
      refine retc tst_api_Part rfl rfl m0 rfl (fun w' hp => ?_)
      have hq := (hp.drop2.tail.pick2.pick1.pick2)
      first
        | exact ⟨_, _, rfl, ⟨by simp only [takeQ, if_pos c1]; rfl, vl, vt, by rw [takeL, takeT, if_pos c2, if_pos c2, if_pos c1]; first | done | rfl⟩, hq⟩
        | exact ⟨_, _, rfl, ⟨by simp only [takeQ, if_pos c1]; rfl, vl, vt, by rw [takeL, takeT, if_neg c2, if_neg c2, if_pos c1]; first | done | rfl⟩, hq⟩
        | exact ⟨_, _, rfl, ⟨by simp only [takeQ, if_neg c1]; rfl, vl, vt, by rw [takeL, takeT, if_pos c3, if_pos c3, if_neg c1]; first | done | rfl⟩, hq⟩
        | exact ⟨_, _, rfl, ⟨by simp only [takeQ, if_neg c1]; rfl, vl, vt, by rw [takeL, takeT, if_neg c3, if_neg c3, if_neg c1]; first | done | rfl⟩, hq⟩

theorem over_x (e : List Part) (v : Value) (hs : ∀ p ∈ e, p.text.size ≤ 70368744177664) (hl : e.length ≤ 1099511627776) (hr : Rdb L v 3 e.length (encs e)) :
    CallX Tryd.prog 65 [v] S w0 (L) (fun u L' => ∃ g vl vt, u = .pointer (some ⟨g, 0, none⟩) ∧ L' = .blk g (.cells [vl, vt].toArray 96 (0, 0)) :: .win vl 47 3 e.length (encs e) :: .rd vt 1 (loadT e []).length ((loadT e []).map (Value.int .i32)) :: L) := by
  intro w hp
  refine calls_start Tryd.func65 rfl rfl rfl (hp) ?_
  refine TC.seq ?_
  refine TC.region ?_   -- region 0 edit.go:142
  refine TL.opP rfl (op_assign rfl) ?_
  refine TL.nil ?_
  refine TQ.then ?_
  refine TC.seq ?_
  refine TC.region ?_   -- region 1 edit.go:143
  refine TL.opX rfl (OpX.buildSlice (ps := #[]) rfl (bs_api_Part_0 )) ?_; rintro _ _ ⟨g4, rfl, rfl⟩
  refine TL.hp (fun _ h => blk_row (k := 3) (m := 0) h rfl (by decide)) ?_
  refine TL.opP rfl (op_move rfl) ?_
  refine TL.opX rfl (OpX.append (bytes := 32) tsl_api_Part (by decide) (by decide) rfl hr.cons (encs_one _) (by omega) (zs := encs e) rfl) ?_; rintro v1 _ rfl
  refine TL.know (fun _ h => row1 h) (fun o1 => ?_)
  refine TL.hp (fun _ h => row_win (by rw [Nat.zero_add] at h; exact h)) ?_
  refine TL.hp (fun _ h => rd_nil 21 1 h) ?_
  refine TL.opP rfl (op_build (ps := #[(0, _)]) rfl (bl_edit_walk_0 _)) ?_
  refine TL.opX rfl (OpX.box (cs := [v1, .slice none 0 0]) rfl rfl) ?_; rintro _ _ ⟨g8, rfl, rfl⟩
  refine TL.opP rfl (op_assign rfl) ?_
  refine TL.nil ?_
  refine TQ.then ?_
  refine TC.seq ?_
  refine TC.region ?_   -- region 2 edit.go:144
  refine TL.opP rfl (op_move rfl) ?_
  refine TL.hp (fun _ h => h.pick1.pick2.pick2) ?_
  refine TL.opX rfl (OpX.callX en_72 rfl (load_x e [] _ _ _ hs)) ?_; rintro _ _ ⟨rfl, w2, rfl⟩
  refine TL.nil ?_
  refine TQ.then ?_
  refine TC.seq ?_
  refine TC.region ?_   -- region 3 edit.go:145
  refine TL.opP rfl (op_move rfl) ?_
  refine TL.opP rfl (op_assign rfl) ?_
  refine TL.nil ?_
  refine TQ.then ?_
  refine TC.ret ?_
  refine ret1 rfl rfl (fun w' hp => ?_)
  exact ⟨_, _, rfl, ⟨g8, v1, w2, rfl, rfl⟩, (hp)⟩

end Go.SK
