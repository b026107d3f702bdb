/- Walks: layer 17, histories that no call made. -/
import Derived.Test.YtnleenjmnndphaaDoorE41
set_option linter.unusedVariables false
set_option linter.unusedSimpArgs false
set_option maxRecDepth 100000
namespace Go.SK
open Go Go.RowKit Go.Proofs
variable {S : Nat → Prop} {w0 : World} {F L : List Res}
theorem hist_eqo (o : Option Addr) (w : World) : (binOp .eql 52 (.pointer o) (.pointer none)).run Tryd.prog w = .ok (.bool (decide (o = none))) w := by cases o <;> kernel_rfl
theorem rhist_eqo (o : Option Addr) (w : World) : (binOp .eql 68 (.pointer o) (.pointer none)).run Tryd.prog w = .ok (.bool (decide (o = none))) w := by cases o <;> kernel_rfl
theorem rdb_nil (L : List Res) (sz : Nat) : Rdb L (.slice none 0 0) sz 0 [] := fun S w0 w h => ⟨by simp, none, 0, rfl, Nat.le_refl _, Nat.zero_le _, by simp, by simp⟩
theorem lkVal' {vals : List Value} {i k : Nat} {d x : Value} (h : i < vals.length) (hx : vals.getD i d = x) (hk : k = i) : vals[k]? = some x := by
  subst hk
  rw [List.getD_eq_getElem?_getD, List.getElem?_eq_getElem h] at hx
  rw [List.getElem?_eq_getElem h]
  exact congrArg some hx
theorem xdead_x  :
    CallX Tryd.prog 69 [.pointer none] S w0 (F) (fun u L' => u = .bool true ∧ L' = F) := by
  intro w hp
  refine calls_start Tryd.func69 rfl rfl rfl (hp) ?_
  refine TC.seq ?_
  refine TC.region ?_   -- region 0 undo.go:52
  refine TL.opP rfl (op_assign rfl) ?_
  refine TL.nil ?_
  refine TQ.then ?_
  refine TC.seq ?_
  refine TC.region ?_   -- region 1 undo.go:52
  refine TL.opP rfl (op_move rfl) ?_
  refine TL.opP rfl (op_eqPtr rfl (hist_eqo none)) ?_
  refine TL.opP rfl (op_move rfl) ?_
  refine TL.gFt rfl rfl rfl ?_
  refine TL.gFt rfl rfl rfl ?_
  refine TL.gFt rfl rfl rfl ?_
  refine TL.gFt rfl rfl rfl ?_
  refine TL.gFt rfl rfl rfl ?_
  refine TL.opP rfl (by first | exact op_pickT rfl rfl | exact op_pickF rfl rfl) ?_
  refine TL.opP rfl (op_assign rfl) ?_
  refine TL.nil ?_
  refine TQ.then ?_
  refine TC.ret ?_
  refine ret1 rfl rfl (fun w' hp => ?_)
  exact ⟨_, _, rfl, ⟨rfl, rfl⟩, (hp)⟩

theorem xlen_x (x : Value) (hd : CallX Tryd.prog 69 [x] S w0 F (fun u L' => u = .bool true ∧ L' = F)) :
    CallX Tryd.prog 44 [x] S w0 (F) (fun u L' => u = .tuple #[.int .i64 0, .int .i64 0] ∧ L' = F) := by
  intro w hp
  refine calls_start Tryd.func44 rfl rfl rfl (hp) ?_
  refine TC.seq ?_
  refine TC.region ?_   -- region 0 undo.go:55
  refine TL.opP rfl (op_assign rfl) ?_
  refine TL.opP rfl (op_assign rfl) ?_
  refine TL.nil ?_
  refine TQ.then ?_
  refine TC.seq ?_
  refine TC.seq ?_
  refine TC.region ?_   -- region 1 undo.go:56
  refine TL.opP rfl (op_move rfl) ?_
  refine TL.opX rfl (OpX.callX en_69 rfl (hd)) ?_; rintro _ _ ⟨rfl, rfl⟩
  refine TL.nil ?_
  refine TQ.then ?_
  first | refine TC.condD rfl (fun c1 => ?_) (fun c1 => ?_) | refine TC.condB rfl (fun c1 => ?_) (fun c1 => ?_)
  · refine TC.seq ?_
    refine TC.region ?_   -- region 2 undo.go:57
    refine TL.opP rfl (op_assign rfl) ?_
    refine TL.opP rfl (op_assign rfl) ?_
    refine TL.nil ?_
    refine TQ.then ?_
    refine TC.ret ?_
    refine TQ.then_ret ?_
    refine ret2 rfl rfl rfl (fun w' hp => ?_)
    exact ⟨_, _, rfl, ⟨rfl, rfl⟩, (hp)⟩
  · exact absurd c1 (by decide)

theorem xsize_x (x : Value) (hd : CallX Tryd.prog 69 [x] S w0 F (fun u L' => u = .bool true ∧ L' = F)) :
    CallX Tryd.prog 42 [x] S w0 (F) (fun u L' => u = .int .i64 0 ∧ L' = F) := by
  intro w hp
  refine calls_start Tryd.func42 rfl rfl rfl (hp) ?_
  refine TC.seq ?_
  refine TC.region ?_   -- region 0 undo.go:62
  refine TL.opP rfl (op_assign rfl) ?_
  refine TL.nil ?_
  refine TQ.then ?_
  refine TC.seq ?_
  refine TC.seq ?_
  refine TC.region ?_   -- region 1 undo.go:63
  refine TL.opP rfl (op_move rfl) ?_
  refine TL.opX rfl (OpX.callX en_69 rfl (hd)) ?_; rintro _ _ ⟨rfl, rfl⟩
  refine TL.nil ?_
  refine TQ.then ?_
  first | refine TC.condD rfl (fun c1 => ?_) (fun c1 => ?_) | refine TC.condB rfl (fun c1 => ?_) (fun c1 => ?_)
  · refine TC.seq ?_
    refine TC.region ?_   -- region 2 undo.go:64
    refine TL.opP rfl (op_assign rfl) ?_
    refine TL.nil ?_
    refine TQ.then ?_
    refine TC.ret ?_
    refine TQ.then_ret ?_
    refine ret1 rfl rfl (fun w' hp => ?_)
    exact ⟨_, _, rfl, ⟨rfl, rfl⟩, (hp)⟩
  · exact absurd c1 (by decide)

theorem xmine_x (x : Value) (v : Value) (s : ByteArray) (hd : CallX Tryd.prog 69 [x] S w0 F (fun u L' => u = .bool true ∧ L' = F)) :
    CallX Tryd.prog 35 [x, v, .string s] S w0 (F) (fun u L' => u = .int .i64 6 ∧ L' = F) := by
  intro w hp
  refine calls_start Tryd.func35 rfl rfl rfl (hp) ?_
  refine TC.seq ?_
  refine TC.region ?_   -- region 0 undo.go:79
  refine TL.opP rfl (op_assign rfl) ?_
  refine TL.nil ?_
  refine TQ.then ?_
  refine TC.seq ?_
  refine TC.seq ?_
  refine TC.region ?_   -- region 1 undo.go:80
  refine TL.opP rfl (op_move rfl) ?_
  refine TL.opX rfl (OpX.callX en_69 rfl (hd)) ?_; rintro _ _ ⟨rfl, rfl⟩
  refine TL.nil ?_
  refine TQ.then ?_
  first | refine TC.condD rfl (fun c1 => ?_) (fun c1 => ?_) | refine TC.condB rfl (fun c1 => ?_) (fun c1 => ?_)
  · refine TC.seq ?_
    refine TC.region ?_   -- region 2 undo.go:81
    refine TL.opP rfl (op_assign rfl) ?_
    refine TL.nil ?_
    refine TQ.then ?_
    refine TC.ret ?_
    refine TQ.then_ret ?_
    refine ret1 rfl rfl (fun w' hp => ?_)
    exact ⟨_, _, rfl, ⟨rfl, rfl⟩, (hp)⟩
  · exact absurd c1 (by decide)

theorem xtheirs_x (x : Value) (v : Value) (hd : CallX Tryd.prog 69 [x] S w0 F (fun u L' => u = .bool true ∧ L' = F)) :
    CallX Tryd.prog 36 [x, v] S w0 (F) (fun u L' => u = .int .i64 6 ∧ L' = F) := by
  intro w hp
  refine calls_start Tryd.func36 rfl rfl rfl (hp) ?_
  refine TC.seq ?_
  refine TC.region ?_   -- region 0 undo.go:96
  refine TL.opP rfl (op_assign rfl) ?_
  refine TL.nil ?_
  refine TQ.then ?_
  refine TC.seq ?_
  refine TC.seq ?_
  refine TC.region ?_   -- region 1 undo.go:97
  refine TL.opP rfl (op_move rfl) ?_
  refine TL.opX rfl (OpX.callX en_69 rfl (hd)) ?_; rintro _ _ ⟨rfl, rfl⟩
  refine TL.nil ?_
  refine TQ.then ?_
  first | refine TC.condD rfl (fun c1 => ?_) (fun c1 => ?_) | refine TC.condB rfl (fun c1 => ?_) (fun c1 => ?_)
  · refine TC.seq ?_
    refine TC.region ?_   -- region 2 undo.go:98
    refine TL.opP rfl (op_assign rfl) ?_
    refine TL.nil ?_
    refine TQ.then ?_
    refine TC.ret ?_
    refine TQ.then_ret ?_
    refine ret1 rfl rfl (fun w' hp => ?_)
    exact ⟨_, _, rfl, ⟨rfl, rfl⟩, (hp)⟩
  · exact absurd c1 (by decide)

theorem xclear_x (x : Value) (n : Int) (hd : CallX Tryd.prog 69 [x] S w0 F (fun u L' => u = .bool true ∧ L' = F)) :
    CallX Tryd.prog 50 [x, .int .i64 n] S w0 (F) (fun u L' => u = .int .i64 6 ∧ L' = F) := by
  intro w hp
  refine calls_start Tryd.func50 rfl rfl rfl (hp) ?_
  refine TC.seq ?_
  refine TC.region ?_   -- region 0 undo.go:158
  refine TL.opP rfl (op_assign rfl) ?_
  refine TL.nil ?_
  refine TQ.then ?_
  refine TC.seq ?_
  refine TC.block ?_
  refine TC.seq ?_
  refine TC.region ?_   -- region 1 undo.go:160
  refine TL.opP rfl (op_move rfl) ?_
  refine TL.opX rfl (OpX.callX en_69 rfl (hd)) ?_; rintro _ _ ⟨rfl, rfl⟩
  refine TL.opP rfl (op_assign rfl) ?_
  refine TL.nil ?_
  refine TQ.then ?_
  first | refine TC.condD rfl (fun c1 => ?_) (fun c1 => ?_) | refine TC.condB rfl (fun c1 => ?_) (fun c1 => ?_)
  · refine TC.seq ?_
    refine TC.region ?_   -- region 2 undo.go:161
    refine TL.opP rfl (op_assign rfl) ?_
    refine TL.nil ?_
    refine TQ.then ?_
    refine TC.ret ?_
    refine TQ.block_ret ?_
    refine TQ.then_ret ?_
    refine ret1 rfl rfl (fun w' hp => ?_)
    exact ⟨_, _, rfl, ⟨rfl, rfl⟩, (hp)⟩
  · exact absurd c1 (by decide)

theorem xmove_x (x : Value) (s : ByteArray) (hd : CallX Tryd.prog 69 [x] S w0 F (fun u L' => u = .bool true ∧ L' = F)) :
    CallX Tryd.prog 73 [x, .slice none 0 0, .slice none 0 0, .string s] S w0 (F) (fun u L' => u = .tuple #[.slice none 0 0, .slice none 0 0, .slice none 0 0, .int .i64 6] ∧ L' = F) := by
  intro w hp
  refine calls_start Tryd.func73 rfl rfl rfl (hp) ?_
  refine TC.seq ?_
  refine TC.region ?_   -- region 0 undo.go:114
  refine TL.opP rfl (op_assign rfl) ?_
  refine TL.opP rfl (op_assign rfl) ?_
  refine TL.opP rfl (op_assign rfl) ?_
  refine TL.opP rfl (op_assign rfl) ?_
  refine TL.nil ?_
  refine TQ.then ?_
  refine TC.seq ?_
  refine TC.block ?_
  refine TC.seq ?_
  refine TC.region ?_   -- region 1 undo.go:116
  refine TL.opP rfl (op_move rfl) ?_
  refine TL.opX rfl (OpX.callX en_69 rfl (hd)) ?_; rintro _ _ ⟨rfl, rfl⟩
  refine TL.opP rfl (op_assign rfl) ?_
  refine TL.nil ?_
  refine TQ.then ?_
  first | refine TC.condD rfl (fun c1 => ?_) (fun c1 => ?_) | refine TC.condB rfl (fun c1 => ?_) (fun c1 => ?_)
  · refine TC.seq ?_
    refine TC.region ?_   -- region 2 undo.go:117
    refine TL.opP rfl (op_assign rfl) ?_
    refine TL.opP rfl (op_assign rfl) ?_
    refine TL.opP rfl (op_assign rfl) ?_
    refine TL.opP rfl (op_assign rfl) ?_
    refine TL.nil ?_
    refine TQ.then ?_
    refine TC.ret ?_
    refine TQ.block_ret ?_
    refine TQ.then_ret ?_
    refine ret4 rfl rfl rfl rfl rfl (fun w' hp => ?_)
    exact ⟨_, _, rfl, ⟨rfl, rfl⟩, (hp)⟩
  · exact absurd c1 (by decide)

theorem xundo_x (x : Value) (s : ByteArray) (hd : CallX Tryd.prog 69 [x] S w0 F (fun u L' => u = .bool true ∧ L' = F)) :
    CallX Tryd.prog 37 [x, .string s] S w0 (F) (fun u L' => u = .tuple #[.slice none 0 0, .int .i64 6] ∧ L' = F) := by
  intro w hp
  refine calls_start Tryd.func37 rfl rfl rfl (hp) ?_
  refine TC.seq ?_
  refine TC.region ?_   -- region 0 undo.go:133
  refine TL.opP rfl (op_assign rfl) ?_
  refine TL.opP rfl (op_assign rfl) ?_
  refine TL.nil ?_
  refine TQ.then ?_
  refine TC.seq ?_
  refine TC.region ?_   -- region 1 undo.go:134
  refine TL.opP rfl (op_assign rfl) ?_
  refine TL.opP rfl (op_assign rfl) ?_
  refine TL.nil ?_
  refine TQ.then ?_
  refine TC.seq ?_
  refine TC.seq ?_
  refine TC.region ?_   -- region 2 undo.go:135
  refine TL.opP rfl (op_move rfl) ?_
  refine TL.opX rfl (OpX.callX en_69 rfl (hd)) ?_; rintro _ _ ⟨rfl, rfl⟩
  refine TL.opP rfl (op_not rfl rfl) ?_
  refine TL.nil ?_
  refine TQ.then ?_
  first | refine TC.condD rfl (fun c1 => ?_) (fun c1 => ?_) | refine TC.condB rfl (fun c1 => ?_) (fun c1 => ?_)
  · exact absurd c1 (by decide)
  · refine TC.skip ?_
    refine TQ.then ?_
    refine TC.seq ?_
    refine TC.region ?_   -- region 4 undo.go:138
    refine TL.opP rfl (op_move rfl) ?_
    refine TL.opP rfl (op_move rfl) ?_
    refine TL.opP rfl (op_move rfl) ?_
    refine TL.opP rfl (op_move rfl) ?_
    refine TL.opX rfl (OpX.callX en_73 rfl (xmove_x x s hd)) ?_; rintro _ _ ⟨rfl, rfl⟩
    refine TL.opP rfl (op_move rfl) ?_
    refine TL.opP rfl (op_extract rfl rfl) ?_
    refine TL.opP rfl (op_extract rfl rfl) ?_
    refine TL.opP rfl (op_extract rfl rfl) ?_
    refine TL.opP rfl (op_extract rfl rfl) ?_
    refine TL.opP rfl (op_assign rfl) ?_
    refine TL.opP rfl (op_assign rfl) ?_
    refine TL.opP rfl (op_assign rfl) ?_
    refine TL.opP rfl (op_assign rfl) ?_
    refine TL.nil ?_
    refine TQ.then ?_
    refine TC.seq ?_
    refine TC.seq ?_
    refine TC.region ?_   -- region 5 undo.go:139
    refine TL.opP rfl (op_move rfl) ?_
    refine TL.opP rfl (op_eql rfl rfl) ?_
    refine TL.nil ?_
    refine TQ.then ?_
    first | refine TC.condD rfl (fun c2 => ?_) (fun c2 => ?_) | refine TC.condB rfl (fun c2 => ?_) (fun c2 => ?_)
    · exact absurd c2 (by decide)
    · refine TC.skip ?_
      refine TQ.then ?_
      refine TC.seq ?_
      refine TC.region ?_   -- region 7 undo.go:142
      refine TL.opP rfl (op_move rfl) ?_
      refine TL.opP rfl (op_move rfl) ?_
      refine TL.opP rfl (op_assign rfl) ?_
      refine TL.opP rfl (op_assign rfl) ?_
      refine TL.nil ?_
      refine TQ.then ?_
      refine TC.ret ?_
      refine ret2 rfl rfl rfl (fun w' hp => ?_)
      exact ⟨_, _, rfl, ⟨rfl, rfl⟩, (hp)⟩

theorem xredo_x (x : Value) (s : ByteArray) (hd : CallX Tryd.prog 69 [x] S w0 F (fun u L' => u = .bool true ∧ L' = F)) :
    CallX Tryd.prog 38 [x, .string s] S w0 (F) (fun u L' => u = .tuple #[.slice none 0 0, .int .i64 6] ∧ L' = F) := by
  intro w hp
  refine calls_start Tryd.func38 rfl rfl rfl (hp) ?_
  refine TC.seq ?_
  refine TC.region ?_   -- region 0 undo.go:145
  refine TL.opP rfl (op_assign rfl) ?_
  refine TL.opP rfl (op_assign rfl) ?_
  refine TL.nil ?_
  refine TQ.then ?_
  refine TC.seq ?_
  refine TC.region ?_   -- region 1 undo.go:146
  refine TL.opP rfl (op_assign rfl) ?_
  refine TL.opP rfl (op_assign rfl) ?_
  refine TL.nil ?_
  refine TQ.then ?_
  refine TC.seq ?_
  refine TC.seq ?_
  refine TC.region ?_   -- region 2 undo.go:147
  refine TL.opP rfl (op_move rfl) ?_
  refine TL.opX rfl (OpX.callX en_69 rfl (hd)) ?_; rintro _ _ ⟨rfl, rfl⟩
  refine TL.opP rfl (op_not rfl rfl) ?_
  refine TL.nil ?_
  refine TQ.then ?_
  first | refine TC.condD rfl (fun c1 => ?_) (fun c1 => ?_) | refine TC.condB rfl (fun c1 => ?_) (fun c1 => ?_)
  · exact absurd c1 (by decide)
  · refine TC.skip ?_
    refine TQ.then ?_
    refine TC.seq ?_
    refine TC.region ?_   -- region 4 undo.go:150
    refine TL.opP rfl (op_move rfl) ?_
    refine TL.opP rfl (op_move rfl) ?_
    refine TL.opP rfl (op_move rfl) ?_
    refine TL.opP rfl (op_move rfl) ?_
    refine TL.opX rfl (OpX.callX en_73 rfl (xmove_x x s hd)) ?_; rintro _ _ ⟨rfl, rfl⟩
    refine TL.opP rfl (op_move rfl) ?_
    refine TL.opP rfl (op_extract rfl rfl) ?_
    refine TL.opP rfl (op_extract rfl rfl) ?_
    refine TL.opP rfl (op_extract rfl rfl) ?_
    refine TL.opP rfl (op_extract rfl rfl) ?_
    refine TL.opP rfl (op_assign rfl) ?_
    refine TL.opP rfl (op_assign rfl) ?_
    refine TL.opP rfl (op_assign rfl) ?_
    refine TL.opP rfl (op_assign rfl) ?_
    refine TL.nil ?_
    refine TQ.then ?_
    refine TC.seq ?_
    refine TC.seq ?_
    refine TC.region ?_   -- region 5 undo.go:151
    refine TL.opP rfl (op_move rfl) ?_
    refine TL.opP rfl (op_eql rfl rfl) ?_
    refine TL.nil ?_
    refine TQ.then ?_
    first | refine TC.condD rfl (fun c2 => ?_) (fun c2 => ?_) | refine TC.condB rfl (fun c2 => ?_) (fun c2 => ?_)
    · exact absurd c2 (by decide)
    · refine TC.skip ?_
      refine TQ.then ?_
      refine TC.seq ?_
      refine TC.region ?_   -- region 7 undo.go:154
      refine TL.opP rfl (op_move rfl) ?_
      refine TL.opP rfl (op_move rfl) ?_
      refine TL.opP rfl (op_assign rfl) ?_
      refine TL.opP rfl (op_assign rfl) ?_
      refine TL.nil ?_
      refine TQ.then ?_
      refine TC.ret ?_
      refine ret2 rfl rfl rfl (fun w' hp => ?_)
      exact ⟨_, _, rfl, ⟨rfl, rfl⟩, (hp)⟩

theorem xnew_x (n : Int) :
    CallX Tryd.prog 52 [.int .i64 n] S w0 (L) (fun u L' => ∃ o : Option Addr, u = .tuple #[.pointer o, .int .i64 (if n < 0 ∨ 1048576 < n then 1 else 0)] ∧ (o = none ↔ n < 0 ∨ 1048576 < n) ∧ L' = L) := by
  intro w hp
  refine calls_start Tryd.func52 rfl rfl rfl (hp) ?_
  refine TC.seq ?_
  refine TC.region ?_   -- region 0 undo.go:45
  refine TL.opP rfl (op_assign rfl) ?_
  refine TL.opP rfl (op_assign rfl) ?_
  refine TL.nil ?_
  refine TQ.then ?_
  refine TC.seq ?_
  refine TC.seq ?_
  refine TC.region ?_   -- region 1 undo.go:46
  refine TL.opP rfl (op_move rfl) ?_
  refine TL.opP rfl (op_lss rfl rfl) ?_
  refine TL.opP rfl (op_move rfl) ?_
  first | refine TL.splitD (fun c1 => ?_) (fun c1 => ?_) | refine TL.splitB (fun c1 => ?_) (fun c1 => ?_)
  · refine TL.gFt rfl rfl rfl ?_
    refine TL.gFt rfl rfl rfl ?_
    refine TL.opP rfl (op_pickT rfl rfl) ?_
    refine TL.nil ?_
    refine TQ.then ?_
    refine TC.condT rfl ?_
    refine TC.seq ?_
    refine TC.region ?_   -- region 2 undo.go:47
    refine TL.opP rfl (op_assign rfl) ?_
    refine TL.opP rfl (op_assign rfl) ?_
    refine TL.nil ?_
    refine TQ.then ?_
    refine TC.ret ?_
    refine TQ.then_ret ?_
    refine ret2 rfl rfl rfl (fun w' hp => ?_)
    first
      | (have hb : n < 0 ∨ 1048576 < n := by omega
         exact ⟨_, _, rfl, ⟨none, by rw [if_pos hb], iff_of_true rfl hb, rfl⟩, (hp)⟩)
      | (have hb : ¬ (n < 0 ∨ 1048576 < n) := by omega
         exact ⟨_, _, rfl, ⟨_, by rw [if_neg hb], iff_of_false (by simp) hb, rfl⟩, (hp)⟩)
  · refine TL.gT rfl rfl ?_
    refine TL.opP rfl (op_move rfl) ?_
    refine TL.gT rfl rfl ?_
    refine TL.opP rfl (op_gtr rfl rfl) ?_
    refine TL.opP rfl (op_pickF rfl rfl) ?_
    refine TL.nil ?_
    refine TQ.then ?_
    first | refine TC.condD rfl (fun c2 => ?_) (fun c2 => ?_) | refine TC.condB rfl (fun c2 => ?_) (fun c2 => ?_)
    · refine TC.seq ?_
      refine TC.region ?_   -- region 2 undo.go:47
      refine TL.opP rfl (op_assign rfl) ?_
      refine TL.opP rfl (op_assign rfl) ?_
      refine TL.nil ?_
      refine TQ.then ?_
      refine TC.ret ?_
      refine TQ.then_ret ?_
      refine ret2 rfl rfl rfl (fun w' hp => ?_)
      first
        | (have hb : n < 0 ∨ 1048576 < n := by omega
           exact ⟨_, _, rfl, ⟨none, by rw [if_pos hb], iff_of_true rfl hb, rfl⟩, (hp)⟩)
        | (have hb : ¬ (n < 0 ∨ 1048576 < n) := by omega
           exact ⟨_, _, rfl, ⟨_, by rw [if_neg hb], iff_of_false (by simp) hb, rfl⟩, (hp)⟩)
    · refine TC.skip ?_
      refine TQ.then ?_
      refine TC.seq ?_
      refine TC.region ?_   -- region 3 undo.go:49
      refine TL.opP rfl (op_move rfl) ?_
      refine TL.opP rfl (op_build (ps := #[(2, _), (3, _)]) rfl (bl_undo_History_23 _ _)) ?_
      refine TL.opX rfl (OpX.box (cs := [.slice none 0 0, .slice none 0 0, .int .i64 n, .bool true]) rfl rfl) ?_; rintro _ _ ⟨g12, rfl, rfl⟩
      refine TL.opP rfl (op_assign rfl) ?_
      refine TL.opP rfl (op_assign rfl) ?_
      refine TL.nil ?_
      refine TQ.then ?_
      refine TC.ret ?_
      refine ret2 rfl rfl rfl (fun w' hp => ?_)
      first
        | (have hb : n < 0 ∨ 1048576 < n := by omega
           exact ⟨_, _, rfl, ⟨none, by rw [if_pos hb], iff_of_true rfl hb, rfl⟩, (hp.tail)⟩)
        | (have hb : ¬ (n < 0 ∨ 1048576 < n) := by omega
           exact ⟨_, _, rfl, ⟨_, by rw [if_neg hb], iff_of_false (by simp) hb, rfl⟩, (hp.tail)⟩)

theorem xrnew_x (n : Int) :
    CallX Tryd.prog 51 [.int .i64 n] S w0 (L) (fun u L' => ∃ o : Option Addr, u = .tuple #[.pointer o, .int .i64 (if n < 0 ∨ 1048576 < n then 1 else 0)] ∧ (o = none ↔ n < 0 ∨ 1048576 < n) ∧ L' = L) := by
  intro w hp
  refine calls_start Tryd.func51 rfl rfl rfl (hp) ?_
  refine TC.seq ?_
  refine TC.region ?_   -- region 0 ref.go:25
  refine TL.opP rfl (op_assign rfl) ?_
  refine TL.opP rfl (op_assign rfl) ?_
  refine TL.nil ?_
  refine TQ.then ?_
  refine TC.seq ?_
  refine TC.seq ?_
  refine TC.region ?_   -- region 1 ref.go:26
  refine TL.opP rfl (op_move rfl) ?_
  refine TL.opP rfl (op_lss rfl rfl) ?_
  refine TL.opP rfl (op_move rfl) ?_
  first | refine TL.splitD (fun c1 => ?_) (fun c1 => ?_) | refine TL.splitB (fun c1 => ?_) (fun c1 => ?_)
  · refine TL.gFt rfl rfl rfl ?_
    refine TL.gFt rfl rfl rfl ?_
    refine TL.opP rfl (op_pickT rfl rfl) ?_
    refine TL.nil ?_
    refine TQ.then ?_
    refine TC.condT rfl ?_
    refine TC.seq ?_
    refine TC.region ?_   -- region 2 ref.go:27
    refine TL.opP rfl (op_assign rfl) ?_
    refine TL.opP rfl (op_assign rfl) ?_
    refine TL.nil ?_
    refine TQ.then ?_
    refine TC.ret ?_
    refine TQ.then_ret ?_
    refine ret2 rfl rfl rfl (fun w' hp => ?_)
    first
      | (have hb : n < 0 ∨ 1048576 < n := by omega
         exact ⟨_, _, rfl, ⟨none, by rw [if_pos hb], iff_of_true rfl hb, rfl⟩, (hp)⟩)
      | (have hb : ¬ (n < 0 ∨ 1048576 < n) := by omega
         exact ⟨_, _, rfl, ⟨_, by rw [if_neg hb], iff_of_false (by simp) hb, rfl⟩, (hp)⟩)
  · refine TL.gT rfl rfl ?_
    refine TL.opP rfl (op_move rfl) ?_
    refine TL.gT rfl rfl ?_
    refine TL.opP rfl (op_gtr rfl rfl) ?_
    refine TL.opP rfl (op_pickF rfl rfl) ?_
    refine TL.nil ?_
    refine TQ.then ?_
    first | refine TC.condD rfl (fun c2 => ?_) (fun c2 => ?_) | refine TC.condB rfl (fun c2 => ?_) (fun c2 => ?_)
    · refine TC.seq ?_
      refine TC.region ?_   -- region 2 ref.go:27
      refine TL.opP rfl (op_assign rfl) ?_
      refine TL.opP rfl (op_assign rfl) ?_
      refine TL.nil ?_
      refine TQ.then ?_
      refine TC.ret ?_
      refine TQ.then_ret ?_
      refine ret2 rfl rfl rfl (fun w' hp => ?_)
      first
        | (have hb : n < 0 ∨ 1048576 < n := by omega
           exact ⟨_, _, rfl, ⟨none, by rw [if_pos hb], iff_of_true rfl hb, rfl⟩, (hp)⟩)
        | (have hb : ¬ (n < 0 ∨ 1048576 < n) := by omega
           exact ⟨_, _, rfl, ⟨_, by rw [if_neg hb], iff_of_false (by simp) hb, rfl⟩, (hp)⟩)
    · refine TC.skip ?_
      refine TQ.then ?_
      refine TC.seq ?_
      refine TC.region ?_   -- region 3 ref.go:29
      refine TL.opP rfl (op_move rfl) ?_
      refine TL.opP rfl (op_build (ps := #[(2, _)]) rfl (bl_sealskinref17_History_2 _)) ?_
      refine TL.opX rfl (OpX.box (cs := [.slice none 0 0, .slice none 0 0, .int .i64 n]) rfl rfl) ?_; rintro _ _ ⟨g12, rfl, rfl⟩
      refine TL.opP rfl (op_assign rfl) ?_
      refine TL.opP rfl (op_assign rfl) ?_
      refine TL.nil ?_
      refine TQ.then ?_
      refine TC.ret ?_
      refine ret2 rfl rfl rfl (fun w' hp => ?_)
      first
        | (have hb : n < 0 ∨ 1048576 < n := by omega
           exact ⟨_, _, rfl, ⟨none, by rw [if_pos hb], iff_of_true rfl hb, rfl⟩, (hp.tail)⟩)
        | (have hb : ¬ (n < 0 ∨ 1048576 < n) := by omega
           exact ⟨_, _, rfl, ⟨_, by rw [if_neg hb], iff_of_false (by simp) hb, rfl⟩, (hp.tail)⟩)

def hblk (g : Nat) : Res := .blk g (.cells [.slice none 0 0, .slice none 0 0, .int .i64 0, .bool false].toArray 78 (0, 0))
theorem dead_each {g i : Nat} {x : Value} (hi : i < 2) (hx : ([.pointer none, .pointer (some ⟨g, 0, none⟩)] : List Value).getD i .nilFunc = x) :
    CallX Tryd.prog 69 [x] S w0 (.blk g (.cells [.slice none 0 0, .slice none 0 0, .int .i64 0, .bool false].toArray 78 (0, 0)) :: F) (fun u L' => u = .bool true ∧ L' = .blk g (.cells [.slice none 0 0, .slice none 0 0, .int .i64 0, .bool false].toArray 78 (0, 0)) :: F) := by
  obtain rfl | rfl : i = 0 ∨ i = 1 := by omega
  · have h : (.pointer none : Value) = x := hx
    subst h; exact xdead_x
  · have h : (.pointer (some ⟨g, 0, none⟩) : Value) = x := hx
    subst h; exact dead_x (.slice none 0 0) (.slice none 0 0) 0 false g
theorem bs_sealskinlaw17_Do_1 (d : DoE) : ∀ w : World, (Instr.buildSlice 47 1 #[(0, .agg #[.int .i64 d.op, .int .i64 d.n, d.v])]).run Tryd.prog w = .ok (.slice (some ⟨w.heap.size, 0, none⟩) 1 1) (w.alloc (.cells (encs [d]).toArray 50 (0, 0))) := by
  intro w
  obtain ⟨a, b, v, e, h⟩ := d
  cases v <;> first | (cases h; done) | kernel_rfl
end Go.SK
