/- Layer 12: a pattern that no call made. -/
import Derived.Test.YtpomdenbgdgbhaaDoorE76
set_option linter.unusedVariables false
set_option linter.unusedSimpArgs false
set_option maxRecDepth 100000
namespace Go.SK
open Go Go.RowKit Go.Proofs
variable {S : Nat → Prop} {w0 : World} {F L : List Res}
theorem rdb_nil (L : List Res) (sz : Nat) : Rdb L (.slice none 0 0) sz 0 [] := fun S w0 w h => ⟨by simp, none, 0, rfl, Nat.le_refl _, Nat.zero_le _, by simp, by simp⟩
theorem lkVal' {vals : List Value} {i k : Nat} {d x : Value} (h : i < vals.length) (hx : vals.getD i d = x) (hk : k = i) : vals[k]? = some x := by
  subst hk
  rw [List.getD_eq_getElem?_getD, List.getElem?_eq_getElem h] at hx
  rw [List.getElem?_eq_getElem h]
  exact congrArg some hx
theorem nfind0_x (s : ByteArray) (n : Int) :
    CallX Tryd.prog 50 [.pointer none, .string s, .int .i64 n] S w0 (F) (fun u L' => u = .tuple #[nilS, .int .i64 6] ∧ L' = F) := by
 intro w hp
 refine calls_start Tryd.func50 rfl rfl rfl (hp) ?_
 refine TC.seq (TC.region (TL.opP rfl (op_assign rfl) (TL.opP rfl (op_assign rfl) (TL.nil (TQ.then (TC.seq (TC.seq (TC.region (TL.opP rfl (op_move rfl) (TL.opP rfl (op_eqPtr rfl (pat_eqo none)) (TL.opP rfl (op_move rfl) (TL.gFt rfl rfl rfl (TL.gFt rfl rfl rfl (TL.gFt rfl rfl rfl (TL.gFt rfl rfl rfl (TL.gFt rfl rfl rfl (TL.opP rfl (by first | exact op_pickT rfl rfl | exact op_pickF rfl rfl) (TL.nil (TQ.then ?_)))))))))))))))))))
 first | refine TC.condD rfl (fun c1 => ?_) (fun c1 => ?_) | refine TC.condB rfl (fun c1 => ?_) (fun c1 => ?_)
 ·refine TC.seq (TC.region (TL.opP rfl (op_assign rfl) (TL.opP rfl (op_assign rfl) (TL.nil (TQ.then (TC.ret (TQ.then_ret ?_)))))))
  refine ret2 rfl rfl rfl (fun w' hp => ?_)
  exact ⟨_, _, rfl, ⟨rfl, rfl⟩, (hp)⟩
 ·first | exact absurd rfl c1 | exact absurd c1 (by decide)

theorem nfind1_x (g : Nat) (s : ByteArray) (n : Int) :
    CallX Tryd.prog 50 [ptrV g, .string s, .int .i64 n] S w0 (.blk g (.cells [.slice none 0 0, .int .i64 0, .bool false].toArray 81 (0, 0)) :: F) (fun u L' => u = .tuple #[nilS, .int .i64 6] ∧ L' = .blk g (.cells [.slice none 0 0, .int .i64 0, .bool false].toArray 81 (0, 0)) :: F) := by
 intro w hp
 refine calls_start Tryd.func50 rfl rfl rfl (hp) ?_
 refine TC.seq (TC.region (TL.opP rfl (op_assign rfl) (TL.opP rfl (op_assign rfl) (TL.nil (TQ.then (TC.seq (TC.seq (TC.region (TL.opP rfl (op_move rfl) (TL.opP rfl (op_eqPtr rfl (pat_eqo _)) (TL.opP rfl (op_move rfl) (TL.gT rfl rfl (TL.opP rfl (op_move rfl) (TL.gT rfl rfl (TL.opP rfl (op_nilCheck rfl) (TL.gT rfl rfl (TL.opP rfl (op_field fld_match_Pattern_made rfl) (TL.gT rfl rfl (TL.opV rfl (op_load ts_bool rfl m0 rfl) (TL.gT rfl rfl (TL.opP rfl (op_not rfl rfl) (TL.opP rfl (by first | exact op_pickT rfl rfl | exact op_pickF rfl rfl) (TL.nil (TQ.then ?_))))))))))))))))))))))))
 first | refine TC.condD rfl (fun c1 => ?_) (fun c1 => ?_) | refine TC.condB rfl (fun c1 => ?_) (fun c1 => ?_)
 ·refine TC.seq (TC.region (TL.opP rfl (op_assign rfl) (TL.opP rfl (op_assign rfl) (TL.nil (TQ.then (TC.ret (TQ.then_ret ?_)))))))
  refine ret2 rfl rfl rfl (fun w' hp => ?_)
  exact ⟨_, _, rfl, ⟨rfl, rfl⟩, (hp)⟩
 ·exact absurd c1 (by decide)

theorem ngr0_x  :
    CallX Tryd.prog 56 [.pointer none] S w0 (F) (fun u L' => u = .int .i64 0 ∧ L' = F) := by
 intro w hp
 refine calls_start Tryd.func56 rfl rfl rfl (hp) ?_
 refine TC.seq (TC.region (TL.opP rfl (op_assign rfl) (TL.nil (TQ.then (TC.seq (TC.seq (TC.region (TL.opP rfl (op_move rfl) (TL.opP rfl (op_eqPtr rfl (pat_eqo none)) (TL.nil (TQ.then ?_)))))))))))
 first | refine TC.condD rfl (fun c1 => ?_) (fun c1 => ?_) | refine TC.condB rfl (fun c1 => ?_) (fun c1 => ?_)
 ·refine TC.seq (TC.region (TL.opP rfl (op_assign rfl) (TL.nil (TQ.then (TC.ret (TQ.then_ret ?_))))))
  refine ret1 rfl rfl (fun w' hp => ?_)
  exact ⟨_, _, rfl, ⟨rfl, rfl⟩, (hp)⟩
 ·exact absurd rfl c1

theorem ngr1_x (g : Nat) :
    CallX Tryd.prog 56 [ptrV g] S w0 (.blk g (.cells [.slice none 0 0, .int .i64 0, .bool false].toArray 81 (0, 0)) :: F) (fun u L' => u = .int .i64 0 ∧ L' = .blk g (.cells [.slice none 0 0, .int .i64 0, .bool false].toArray 81 (0, 0)) :: F) := by
 intro w hp
 refine calls_start Tryd.func56 rfl rfl rfl (hp) ?_
 refine TC.seq (TC.region (TL.opP rfl (op_assign rfl) (TL.nil (TQ.then (TC.seq (TC.seq (TC.region (TL.opP rfl (op_move rfl) (TL.opP rfl (op_eqPtr rfl (pat_eqo _)) (TL.nil (TQ.then ?_)))))))))))
 first | refine TC.condD rfl (fun c1 => ?_) (fun c1 => ?_) | refine TC.condB rfl (fun c1 => ?_) (fun c1 => ?_)
 ·cases c1
 ·refine TC.skip (TQ.then (TC.seq (TC.region (TL.opP rfl (op_move rfl) (TL.opP rfl (op_nilCheck rfl) (TL.opP rfl (op_field fld_match_Pattern_groups rfl) (TL.opV rfl (op_load ts_int rfl m0 rfl) (TL.opP rfl (op_assign rfl) (TL.nil (TQ.then (TC.ret ?_)))))))))))
  refine ret1 rfl rfl (fun w' hp => ?_)
  exact ⟨_, _, rfl, ⟨rfl, rfl⟩, (hp)⟩

theorem nall_x (x : Value) (s : ByteArray) (hf : ∀ n : Int, CallX Tryd.prog 50 [x, .string s, .int .i64 n] S w0 F (fun u L' => u = .tuple #[nilS, .int .i64 6] ∧ L' = F)) :
    CallX Tryd.prog 57 [x, .string s] S w0 (F) (fun u L' => u = .tuple #[nilS, .int .i64 6] ∧ L' = F) := by
 intro w hp
 refine calls_start Tryd.func57 rfl rfl rfl (hp) ?_
 refine TC.seq (TC.region (TL.opP rfl (op_assign rfl) (TL.opP rfl (op_assign rfl) (TL.nil (TQ.then (TC.seq (TC.region (TL.opP rfl (op_assign rfl) (TL.nil (TQ.then (TC.seq (TC.region (TL.opP rfl (op_assign rfl) (TL.nil (TQ.then (TC.block (TC.loop (ι := Nat) (fun i => [(0, x), (1, .string s), (7, .int .i64 0)]) (fun i => F) (fun i => i = 0) (fun i => i) (0) (rfl) ⟨rfl, rfl, rfl, trivial⟩ (fun _ h => h) ?_)))))))))))))))))
 rintro i rfl
 refine TC.block (TC.seq (TC.region (TL.opP rfl (op_move rfl) (TL.opP rfl (op_move rfl) (TL.opP rfl (op_move rfl) ?_)))))
 refine TL.opX rfl (OpX.callX en_50 rfl (hf 0)) ?_; rintro _ _ ⟨rfl, rfl⟩
 refine TL.opP rfl (op_move rfl) (TL.opP rfl (op_extract rfl rfl) (TL.opP rfl (op_extract rfl rfl) (TL.opP rfl (op_assign rfl) (TL.opP rfl (op_assign rfl) (TL.nil (TQ.then (TC.seq (TC.seq (TC.region (TL.opP rfl (op_move rfl) (TL.opP rfl (op_neq rfl rfl) (TL.nil (TQ.then ?_)))))))))))))
 first | refine TC.condD rfl (fun c1 => ?_) (fun c1 => ?_) | refine TC.condB rfl (fun c1 => ?_) (fun c1 => ?_)
 ·refine TC.seq (TC.region (TL.opP rfl (op_move rfl) (TL.opP rfl (op_assign rfl) (TL.opP rfl (op_assign rfl) (TL.nil (TQ.then (TC.ret (TQ.then_ret (TQ.block_ret (TQ.loop_ret (TQ.block_ret ?_)))))))))))
  refine ret2 rfl rfl rfl (fun w' hp => ?_)
  exact ⟨_, _, rfl, ⟨rfl, rfl⟩, (hp)⟩
 ·exact absurd (by decide) c1

theorem nswap_x (x : Value) (s q : ByteArray) (hf : ∀ n : Int, CallX Tryd.prog 50 [x, .string s, .int .i64 n] S w0 F (fun u L' => u = .tuple #[nilS, .int .i64 6] ∧ L' = F)) :
    CallX Tryd.prog 52 [x, .string s, .string q] S w0 (F) (fun u L' => u = .tuple #[nilS, .int .i64 6] ∧ L' = F) := by
 intro w hp
 refine calls_start Tryd.func52 rfl rfl rfl (hp) ?_
 refine TC.seq (TC.region (TL.opP rfl (op_assign rfl) (TL.opP rfl (op_assign rfl) (TL.nil (TQ.then (TC.seq (TC.region (TL.opP rfl (op_move rfl) (TL.opP rfl (op_move rfl) ?_)))))))))
 refine TL.opX rfl (OpX.callX en_57 rfl (nall_x x s hf)) ?_; rintro _ _ ⟨rfl, rfl⟩
 refine TL.opP rfl (op_move rfl) (TL.opP rfl (op_extract rfl rfl) (TL.opP rfl (op_extract rfl rfl) (TL.opP rfl (op_assign rfl) (TL.opP rfl (op_assign rfl) (TL.nil (TQ.then (TC.seq (TC.seq (TC.region (TL.opP rfl (op_move rfl) (TL.opP rfl (op_neq rfl rfl) (TL.nil (TQ.then ?_)))))))))))))
 first | refine TC.condD rfl (fun c1 => ?_) (fun c1 => ?_) | refine TC.condB rfl (fun c1 => ?_) (fun c1 => ?_)
 ·refine TC.seq (TC.region (TL.opP rfl (op_move rfl) (TL.opP rfl (op_assign rfl) (TL.opP rfl (op_assign rfl) (TL.nil (TQ.then (TC.ret (TQ.then_ret ?_))))))))
  refine ret2 rfl rfl rfl (fun w' hp => ?_)
  exact ⟨_, _, rfl, ⟨rfl, rfl⟩, (hp)⟩
 ·exact absurd (by decide) c1

abbrev noPat (g : Nat) : Res := .blk g (.cells [nilS, .int .i64 0, .bool false].toArray 81 (0, 0))
theorem nfind_each {g i : Nat} {x : Value} (s : ByteArray) (n : Int) (hi : i < 2) (hx : ([.pointer none, ptrV g] : List Value).getD i .nilFunc = x) :
    CallX Tryd.prog 50 [x, .string s, .int .i64 n] S w0 (noPat g :: F) (fun u L' => u = .tuple #[nilS, .int .i64 6] ∧ L' = noPat g :: F) := by
  obtain rfl | rfl : i = 0 ∨ i = 1 := by omega
  · have h : (.pointer none : Value) = x := hx
    subst h; exact nfind0_x s n
  · have h : ptrV g = x := hx
    subst h; exact nfind1_x g s n
theorem ngr_each {g i : Nat} {x : Value} (hi : i < 2) (hx : ([.pointer none, ptrV g] : List Value).getD i .nilFunc = x) :
    CallX Tryd.prog 56 [x] S w0 (noPat g :: F) (fun u L' => u = .int .i64 0 ∧ L' = noPat g :: F) := by
  obtain rfl | rfl : i = 0 ∨ i = 1 := by omega
  · have h : (.pointer none : Value) = x := hx
    subst h; exact ngr0_x
  · have h : ptrV g = x := hx
    subst h; exact ngr1_x g
end Go.SK
