/- Walks: layer 10, what two texts have together. -/
import Derived.Test.YtnleenjmnndphaaDoorMF
import Derived.Test.YtnleenjmnndphaaDoorK8
import Derived.Test.YtnleenjmnndphaaDoorMH
import Derived.Laws.OwnMore
set_option linter.unusedVariables false
set_option linter.unusedSimpArgs false
set_option maxRecDepth 100000
namespace Go.SK
open Go Go.RowKit Go.Proofs
variable {S : Nat → Prop} {w0 : World} {F L : List Res}
section
variable {P : Program} {n : Nat} {l : FrL} {dst : Option Tmp} {x y : Operand} {ty : TypeId} {pos : String} {af : Array Edge} {gd : Option (Nat × Bool)} {t t' : TypeId}
theorem op_unrune1 {d' : Nat} {k : IntKind} {c : Int} (ht : (P.underlying t).isSome = true) (hs : P.underlying d' = some .string) (hx : evO l x = some (.int k c)) : OpP P n l ⟨dst, .convert t d' x, ty, pos, af, gd⟩ (chv c) := by
  have := op_unrune (P := P) (n := n) (l := l) (dst := dst) (ty := ty) (pos := pos) (af := af) (gd := gd) ht hs hx
  rw [enc_one] at this; exact this
theorem op_addU16 {a b r : Int} (hx : evO l x = some (.int .u16 a)) (hy : evO l y = some (.int .u16 b)) (hr : a + b = r) (h0 : 0 ≤ r) (h1 : r < 65536) : OpP P n l ⟨dst, .binOp .add t x y t', ty, pos, af, gd⟩ (.int .u16 r) := by
  have := op_addK (P := P) (n := n) (dst := dst) (ty := ty) (pos := pos) (af := af) (gd := gd) (t := t) (t' := t') hx hy
  rw [hr, show IntKind.u16.wrap r = r by simp only [IntKind.wrap, IntKind.bits, IntKind.signed]; simp; omega] at this; exact this
theorem op_maxN {k : IntKind} {a b : Nat} {ags : Array Operand} {ts : Array TypeId} (has : evOs l ags.toList = some [.int k (a : Int), .int k (b : Int)]) : OpP P n l ⟨dst, .call { callee := .builtin .max, args := ags, argTypes := ts }, ty, pos, af, gd⟩ (.int k ((max a b : Nat) : Int)) := by
  have := op_max (P := P) (n := n) (dst := dst) (ty := ty) (pos := pos) (af := af) (gd := gd) (ts := ts) has
  rw [show (if (b : Int) > (a : Int) then (b : Int) else (a : Int)) = ((max a b : Nat) : Int) by split <;> omega] at this; exact this
end
theorem one1 {v : Value} (h : v.oneCell' = true) : ∀ u ∈ [v], u.oneCell' = true := fun u hu => by rw [List.mem_singleton.1 hu]; exact h
theorem made_u16 (n : Nat) : (madeCells (Value.int .u16 0).cells (n * 1)).toList = (List.replicate n 0).map iv16 := by
  rw [Nat.mul_one, List.map_replicate]
  exact toList_madeCells_one _ n
theorem made_i64 (n : Nat) : (madeCells (Value.int .i64 0).cells (n * 1)).toList = (List.replicate n 0).map iv64 := by
  rw [Nat.mul_one, List.map_replicate]
  exact toList_madeCells_one _ n
theorem drunes_x (s : ByteArray) (hs : s.size ≤ 70368744177664) (hT : tabs ∈ L) :
    CallX Tryd.prog 91 [.string s] S w0 (L) (fun u L' => ∃ v' l', u = .tuple #[v', .int .i64 (ckT s)] ∧ (ckT s = 0 → l' = dec s) ∧ L' = .rd v' 1 (l').length ((l').map (Value.int .i32)) :: L) := by
  intro w hp
  have hdl := dec_len s
  refine calls_start Tryd.func91 rfl rfl rfl (hp) ?_
  refine TC.seq ?_
  refine TC.region ?_   -- region 0 diff.go:39
  refine TL.opP rfl (op_assign rfl) ?_
  refine TL.opP rfl (op_assign rfl) ?_
  refine TL.nil ?_
  refine TQ.then ?_
  refine TC.seq ?_
  refine TC.seq ?_
  refine TC.region ?_   -- region 1 diff.go:40
  refine TL.opP rfl (op_move rfl) ?_
  refine TL.callq rfl en_32 rfl (fun w2 hp => valid_calls _ _ (tabs_at hp hT) (by omega)) ?_
  refine TL.opP rfl (op_not rfl rfl) ?_
  refine TL.nil ?_
  refine TQ.then ?_
  first | refine TC.condD rfl (fun c1 => ?_) (fun c1 => ?_) | refine TC.condB rfl (fun c1 => ?_) (fun c1 => ?_)
  · refine TC.seq ?_
    refine TC.region ?_   -- region 2 diff.go:41
    refine TL.opP rfl (op_assign rfl) ?_
    refine TL.opP rfl (op_assign rfl) ?_
    refine TL.nil ?_
    refine TQ.then ?_
    refine TC.ret ?_
    refine TQ.then_ret ?_
    refine ret2 rfl rfl rfl (fun w' hp => ?_)
    first
      | (have hk : ckT s = 21 := if_pos (by simpa using c1)
         exact ⟨_, _, rfl, ⟨.slice none 0 0, [], by rw [hk], by rw [hk]; intro h; omega, rfl⟩, rd_nil 4 1 (hp)⟩)
      | (have hk : ckT s = 4 := by unfold ckT; rw [if_neg (by simpa using c1), if_pos c2]
         exact ⟨_, _, rfl, ⟨.slice none 0 0, [], by rw [hk], by rw [hk]; intro h; omega, rfl⟩, rd_nil 4 1 (hp)⟩)
      | (have hk : ckT s = 0 := by unfold ckT; rw [if_neg (by simpa using c1), if_neg c2]
         exact ⟨_, _, rfl, ⟨_, _, by rw [hk], fun _ => rfl, rfl⟩, (hp)⟩)
  · refine TC.skip ?_
    refine TQ.then ?_
    refine TC.seq ?_
    refine TC.seq ?_
    refine TC.region ?_   -- region 3 diff.go:43
    refine TL.opP rfl (op_move rfl) ?_
    refine TL.callq rfl en_27 rfl (fun w2 hp => rcount_calls _ _ (by omega)) ?_
    refine TL.opP rfl (op_gtr rfl rfl) ?_
    refine TL.nil ?_
    refine TQ.then ?_
    first | refine TC.condD rfl (fun c2 => ?_) (fun c2 => ?_) | refine TC.condB rfl (fun c2 => ?_) (fun c2 => ?_)
    · refine TC.seq ?_
      refine TC.region ?_   -- region 4 diff.go:44
      refine TL.opP rfl (op_assign rfl) ?_
      refine TL.opP rfl (op_assign rfl) ?_
      refine TL.nil ?_
      refine TQ.then ?_
      refine TC.ret ?_
      refine TQ.then_ret ?_
      refine ret2 rfl rfl rfl (fun w' hp => ?_)
      first
        | (have hk : ckT s = 21 := if_pos (by simpa using c1)
           exact ⟨_, _, rfl, ⟨.slice none 0 0, [], by rw [hk], by rw [hk]; intro h; omega, rfl⟩, rd_nil 4 1 (hp)⟩)
        | (have hk : ckT s = 4 := by unfold ckT; rw [if_neg (by simpa using c1), if_pos c2]
           exact ⟨_, _, rfl, ⟨.slice none 0 0, [], by rw [hk], by rw [hk]; intro h; omega, rfl⟩, rd_nil 4 1 (hp)⟩)
        | (have hk : ckT s = 0 := by unfold ckT; rw [if_neg (by simpa using c1), if_neg c2]
           exact ⟨_, _, rfl, ⟨_, _, by rw [hk], fun _ => rfl, rfl⟩, (hp)⟩)
    · refine TC.skip ?_
      refine TQ.then ?_
      refine TC.seq ?_
      refine TC.region ?_   -- region 5 diff.go:46
      refine TL.opP rfl (op_move rfl) ?_
      refine TL.opX rfl (OpX.runes un_string tsl_int32 un_int32 rfl (by omega)) ?_; rintro v1 _ rfl
      refine TL.know (fun _ h => row1 h) (fun o1 => ?_)
      refine TL.hp (fun _ h => row_rd h) ?_
      refine TL.opP rfl (op_assign rfl) ?_
      refine TL.opP rfl (op_assign rfl) ?_
      refine TL.nil ?_
      refine TQ.then ?_
      refine TC.ret ?_
      refine ret2 rfl rfl rfl (fun w' hp => ?_)
      first
        | (have hk : ckT s = 21 := if_pos (by simpa using c1)
           exact ⟨_, _, rfl, ⟨.slice none 0 0, [], by rw [hk], by rw [hk]; intro h; omega, rfl⟩, rd_nil 4 1 (hp)⟩)
        | (have hk : ckT s = 4 := by unfold ckT; rw [if_neg (by simpa using c1), if_pos c2]
           exact ⟨_, _, rfl, ⟨.slice none 0 0, [], by rw [hk], by rw [hk]; intro h; omega, rfl⟩, rd_nil 4 1 (hp)⟩)
        | (have hk : ckT s = 0 := by unfold ckT; rw [if_neg (by simpa using c1), if_neg c2]
           exact ⟨_, _, rfl, ⟨_, _, by rw [hk], fun _ => rfl, rfl⟩, (hp)⟩)

theorem dpair_x (s t : ByteArray) (hs : s.size ≤ 70368744177664) (ht : t.size ≤ 70368744177664) (hT : tabs ∈ L) :
    CallX Tryd.prog 55 [.string s, .string t] S w0 (L) (fun u L' => ∃ v1 v2 l1 l2, u = .tuple #[v1, v2, .int .i64 (ck2 s t)] ∧ (ck2 s t = 0 → l1 = dec s ∧ l2 = dec t) ∧ L' = .rd v1 1 (l1).length ((l1).map (Value.int .i32)) :: .rd v2 1 (l2).length ((l2).map (Value.int .i32)) :: L) := by
  intro w hp
  refine calls_start Tryd.func55 rfl rfl rfl (hp) ?_
  refine TC.seq ?_
  refine TC.region ?_   -- region 0 diff.go:50
  refine TL.opP rfl (op_assign rfl) ?_
  refine TL.opP rfl (op_assign rfl) ?_
  refine TL.opP rfl (op_assign rfl) ?_
  refine TL.nil ?_
  refine TQ.then ?_
  refine TC.seq ?_
  refine TC.region ?_   -- region 1 diff.go:51
  refine TL.opP rfl (op_move rfl) ?_
  refine TL.opX rfl (OpX.callX en_91 rfl (drunes_x s (by omega) hT)) ?_; rintro _ _ ⟨v1, l1, rfl, h1, rfl⟩
  refine TL.opP rfl (op_move rfl) ?_
  refine TL.opP rfl (op_extract rfl rfl) ?_
  refine TL.opP rfl (op_extract rfl rfl) ?_
  refine TL.opP rfl (op_assign rfl) ?_
  refine TL.opP rfl (op_assign rfl) ?_
  refine TL.nil ?_
  refine TQ.then ?_
  refine TC.seq ?_
  refine TC.seq ?_
  refine TC.region ?_   -- region 2 diff.go:52
  refine TL.opP rfl (op_move rfl) ?_
  refine TL.opP rfl (op_neq rfl rfl) ?_
  refine TL.nil ?_
  refine TQ.then ?_
  first | refine TC.condD rfl (fun c1 => ?_) (fun c1 => ?_) | refine TC.condB rfl (fun c1 => ?_) (fun c1 => ?_)
  · refine TC.seq ?_
    refine TC.region ?_   -- region 3 diff.go:53
    refine TL.opP rfl (op_move rfl) ?_
    refine TL.opP rfl (op_assign rfl) ?_
    refine TL.opP rfl (op_assign rfl) ?_
    refine TL.opP rfl (op_assign rfl) ?_
    refine TL.nil ?_
    refine TQ.then ?_
    refine TC.ret ?_
    refine TQ.then_ret ?_
    refine ret3 rfl rfl rfl rfl (fun w' hp => ?_)
    first
      | (have hk : ck2 s t = ckT s := if_neg c1
         exact ⟨_, _, rfl, ⟨.slice none 0 0, .slice none 0 0, [], [], by rw [hk]; rfl, by rw [hk]; intro h; exact absurd h c1, rfl⟩, rd_nil 4 1 (rd_nil 4 1 (hp.tail))⟩)
      | (have hk : ck2 s t = ckT t := if_pos (by simpa using c1)
         exact ⟨_, _, rfl, ⟨_, _, _, _, by rw [hk]; rfl, by rw [hk]; intro h; exact ⟨h1 (by simpa using c1), «hbb?» h⟩, rfl⟩, (hp.tail)⟩)
  · refine TC.skip ?_
    refine TQ.then ?_
    refine TC.seq ?_
    refine TC.region ?_   -- region 4 diff.go:55
    refine TL.opP rfl (op_move rfl) ?_
    refine TL.opX rfl (OpX.callX en_91 rfl (drunes_x t (by omega) (.tail _ hT))) ?_; rintro _ _ ⟨v2, l2, rfl, h2, rfl⟩
    refine TL.opP rfl (op_move rfl) ?_
    refine TL.opP rfl (op_extract rfl rfl) ?_
    refine TL.opP rfl (op_extract rfl rfl) ?_
    refine TL.opP rfl (op_assign rfl) ?_
    refine TL.opP rfl (op_assign rfl) ?_
    refine TL.nil ?_
    refine TQ.then ?_
    refine TC.seq ?_
    refine TC.region ?_   -- region 5 diff.go:56
    refine TL.opP rfl (op_move rfl) ?_
    refine TL.opP rfl (op_move rfl) ?_
    refine TL.opP rfl (op_move rfl) ?_
    refine TL.opP rfl (op_assign rfl) ?_
    refine TL.opP rfl (op_assign rfl) ?_
    refine TL.opP rfl (op_assign rfl) ?_
    refine TL.nil ?_
    refine TQ.then ?_
    refine TC.ret ?_
    refine ret3 rfl rfl rfl rfl (fun w' hp => ?_)
    first
      | (have hk : ck2 s t = ckT s := if_neg c1
         exact ⟨_, _, rfl, ⟨.slice none 0 0, .slice none 0 0, [], [], by rw [hk]; rfl, by rw [hk]; intro h; exact absurd h c1, rfl⟩, rd_nil 4 1 (rd_nil 4 1 (hp.pick1))⟩)
      | (have hk : ck2 s t = ckT t := if_pos (by simpa using c1)
         exact ⟨_, _, rfl, ⟨_, _, _, _, by rw [hk]; rfl, by rw [hk]; intro h; exact ⟨h1 (by simpa using c1), h2 h⟩, rfl⟩, (hp.pick1)⟩)

theorem dfront_x (a b : List Int) (va vb : Value) (ra : Rdb L va 1 a.length (a.map (Value.int .i32))) (rb : Rdb L vb 1 b.length (b.map (Value.int .i32))) :
    CallX Tryd.prog 56 [va, vb] S w0 (L) (fun u L' => ∃ n : Nat, u = .int .i64 (n : Int) ∧ (n ≤ a.length ∧ n ≤ b.length ∧ a.take n = b.take n) ∧ L' = L) := by
  intro w hp
  have hla := ra.lenLe hp
  have hlb := rb.lenLe hp
  refine calls_start Tryd.func56 rfl rfl rfl (hp) ?_
  refine TC.seq ?_
  refine TC.region ?_   -- region 0 diff.go:60
  refine TL.opP rfl (op_assign rfl) ?_
  refine TL.nil ?_
  refine TQ.then ?_
  refine TC.seq ?_
  refine TC.region ?_   -- region 1 diff.go:61
  refine TL.opP rfl (op_assign rfl) ?_
  refine TL.nil ?_
  refine TQ.then ?_
  refine TC.seq ?_
  refine TC.block ?_
  refine TC.loop (ι := Nat) (fun n => [(0, va), (1, vb), (5, .int .i64 (n : Int))]) (fun n => L) (fun n => n ≤ a.length ∧ n ≤ b.length ∧ a.take n = b.take n) (fun n => a.length - n) (0) (⟨Nat.zero_le _, Nat.zero_le _, rfl⟩) ⟨rfl, rfl, rfl, trivial⟩ (fun _ h => h) ?_
  rintro n hI
  have hI1 := hI.1
  have hI2 := hI.2.1
  refine TC.seq ?_
  refine TC.seq ?_
  refine TC.draw [] (.cons (.p, 0) (.cons (.p, 1) (.cons (.p, 3) (.cons (.t, 2) (.cons (.t, 4) (.cons (.p, 5) (.cons (.p, 6) (.cons (.p, 7) (.cons (.p, 8) (.cons (.p, 9) (.cons (.p, 12) (.cons (.p, 13) (.cons (.t, 10) (.cons (.t, 11) (.cons (.t, 14) (.cons (.t, 15) (.cons (.p, 16) (.cons (.p, 17) (.nil))))))))))))))))))) mo (by kernel_rfl) ?_   -- region 2 diff.go:62
  refine TR.p rfl rfl wt0 (op_move rfl) ?_
  refine TR.p rfl rfl wt0 (op_move rfl) ?_
  refine TR.p rfl rfl wt0 (op_move rfl) ?_
  refine TR.t rfl rfl wt0 (op_lenV rfl un_sl_int32 rfl ra) (fun _ h => h) ?_
  refine TR.t rfl rfl wt0 (op_lenV rfl un_sl_int32 rfl rb) (fun _ h => h) ?_
  refine TR.p rfl rfl wt0 (op_min rfl) ?_
  refine TR.p rfl rfl wt0 (op_lss rfl rfl) ?_
  refine TR.p rfl rfl wt0 (op_move rfl) ?_
  first | refine TR.splitD (fun c1 => ?_) (fun c1 => ?_) | refine TR.splitB (fun c1 => ?_) (fun c1 => ?_)
  · have hna : n < a.length := by split at c1 <;> omega
    have hnb : n < b.length := by split at c1 <;> omega
    refine TR.p rfl rfl (by exact wtT rfl rfl) (op_move rfl) ?_
    refine TR.p rfl rfl (by exact wtT rfl rfl) (op_move rfl) ?_
    refine TR.p rfl rfl (by exact wtT rfl rfl) (op_move rfl) ?_
    refine TR.p rfl rfl (by exact wtT rfl rfl) (op_move rfl) ?_
    refine TR.t rfl rfl (by exact wtT rfl rfl) (op_index tsl_int32 rfl ra rfl (by omega) (by omega)) (fun _ h => h) ?_
    refine TR.t rfl rfl (by exact wtT rfl rfl) (op_loadR ts_int32 rfl ra (lkM (i := n) (d := 0) (by omega) rfl (by omega))) (fun _ h => h) ?_
    refine TR.t rfl rfl (by exact wtT rfl rfl) (op_index tsl_int32 rfl rb rfl (by omega) (by omega)) (fun _ h => h) ?_
    refine TR.t rfl rfl (by exact wtT rfl rfl) (op_loadR ts_int32 rfl rb (lkM (i := n) (d := 0) (by omega) rfl (by omega))) (fun _ h => h) ?_
    refine TR.p rfl rfl (by exact wtT rfl rfl) (op_eql rfl rfl) ?_
    refine TR.p rfl rfl wt0 (op_pickT rfl rfl) ?_
    refine TR.nil ?_
    refine TQ.then ?_
    first | refine TC.condD rfl (fun c2 => ?_) (fun c2 => ?_) | refine TC.condB rfl (fun c2 => ?_) (fun c2 => ?_)
    · refine TC.skip ?_
      refine TQ.then ?_
      refine TC.block ?_
      refine TC.region ?_   -- region 3 diff.go:63
      refine TL.opP rfl (op_move rfl) ?_
      refine TL.opP rfl (op_add rfl rfl rfl (by first | omega | (split <;> omega)) (by first | omega | (split <;> omega))) ?_
      refine TL.opP rfl (op_assign rfl) ?_
      refine TL.nil ?_
      refine TQ.block_normal ?_
      exact TQ.round (n + 1) (⟨by omega, by omega, front_step hI.2.2 (by omega) (by omega) c2⟩) (by omega) ⟨rfl, rfl, rfl, trivial⟩ (fun _ h => h)
    · refine TC.exit ?_
      refine TQ.then_exit ?_
      refine TQ.loop_exit ?_
      refine TQ.block_hit ?_
      refine TQ.then ?_
      refine TC.seq ?_
      refine TC.region ?_   -- region 4 diff.go:65
      refine TL.opP rfl (op_move rfl) ?_
      refine TL.opP rfl (op_assign rfl) ?_
      refine TL.nil ?_
      refine TQ.then ?_
      refine TC.ret ?_
      refine ret1 rfl rfl (fun w' hp => ?_)
      exact ⟨_, _, rfl, ⟨_, rfl, hI, rfl⟩, (hp)⟩
  · refine TR.off rfl rfl (by exact wtFf rfl rfl) ?_
    refine TR.off rfl rfl (by exact wtFf rfl rfl) ?_
    refine TR.off rfl rfl (by exact wtFf rfl rfl) ?_
    refine TR.off rfl rfl (by exact wtFf rfl rfl) ?_
    refine TR.offT rfl rfl (by exact wtFf rfl rfl) (fun _ h => h) ?_
    refine TR.offT rfl rfl (by exact wtFf rfl rfl) (fun _ h => h) ?_
    refine TR.offT rfl rfl (by exact wtFf rfl rfl) (fun _ h => h) ?_
    refine TR.offT rfl rfl (by exact wtFf rfl rfl) (fun _ h => h) ?_
    refine TR.off rfl rfl (by exact wtFf rfl rfl) ?_
    refine TR.p rfl rfl wt0 (op_pickF rfl rfl) ?_
    refine TR.nil ?_
    refine TQ.then ?_
    refine TC.condF rfl ?_
    refine TC.exit ?_
    refine TQ.then_exit ?_
    refine TQ.loop_exit ?_
    refine TQ.block_hit ?_
    refine TQ.then ?_
    refine TC.seq ?_
    refine TC.region ?_   -- region 4 diff.go:65
    refine TL.opP rfl (op_move rfl) ?_
    refine TL.opP rfl (op_assign rfl) ?_
    refine TL.nil ?_
    refine TQ.then ?_
    refine TC.ret ?_
    refine ret1 rfl rfl (fun w' hp => ?_)
    exact ⟨_, _, rfl, ⟨_, rfl, hI, rfl⟩, (hp)⟩

theorem dat_x (X : List Nat) (wd i k : Nat) (g : Nat) (lv : Value) (hb : i * wd + k < X.length) (hX : X.length ≤ 4611686018427387904) :
    CallX Tryd.prog 58 [.pointer (some ⟨g, 0, none⟩), .int .i64 (i : Int), .int .i64 (k : Int)] S w0 (.blk g (.cells [lv, .int .i64 ((wd : Int))].toArray 139 (0, 0)) :: .row lv 90 1 (X).length ((X).map iv16) :: F) (fun u L' => u = iv16 (X.getD (i * wd + k) 0) ∧ L' = .blk g (.cells [lv, .int .i64 ((wd : Int))].toArray 139 (0, 0)) :: .row lv 90 1 (X).length ((X).map iv16) :: F) := by
  intro w hp
  refine calls_start Tryd.func58 rfl rfl rfl (hp) ?_
  refine TC.seq ?_
  refine TC.region ?_   -- region 0 diff.go:21
  refine TL.opP rfl (op_assign rfl) ?_
  refine TL.nil ?_
  refine TQ.then ?_
  refine TC.seq ?_
  refine TC.draw [] (.cons (.p, 0) (.cons (.p, 1) (.cons (.p, 2) (.cons (.p, 4) (.cons (.p, 5) (.cons (.p, 6) (.cons (.p, 7) (.cons (.p, 10) (.cons (.t, 3) (.cons (.t, 8) (.cons (.p, 9) (.cons (.p, 11) (.cons (.t, 12) (.cons (.t, 13) (.cons (.p, 14) (.nil)))))))))))))))) mo (by kernel_rfl) ?_   -- region 1 diff.go:21
  refine TR.p rfl rfl wt0 (op_move rfl) ?_
  refine TR.p rfl rfl wt0 (op_nilCheck rfl) ?_
  refine TR.p rfl rfl wt0 (op_field fld_diff_table_l rfl) ?_
  refine TR.p rfl rfl wt0 (op_move rfl) ?_
  refine TR.p rfl rfl wt0 (op_move rfl) ?_
  refine TR.p rfl rfl wt0 (op_nilCheck rfl) ?_
  refine TR.p rfl rfl wt0 (op_field fld_diff_table_wide rfl) ?_
  refine TR.p rfl rfl wt0 (op_move rfl) ?_
  refine TR.t rfl rfl wt0 (op_load ts_sl_uint16 rfl m0 rfl) (fun _ h => h) ?_
  refine TR.t rfl rfl wt0 (op_load ts_int rfl m0 rfl) (fun _ h => h) ?_
  refine TR.p rfl rfl wt0 (op_mul (r := ((i * wd : Nat) : Int)) rfl rfl (Int.natCast_mul _ _).symm (by omega) (by omega)) ?_
  refine TR.p rfl rfl wt0 (op_add (r := ((i * wd + k : Nat) : Int)) rfl rfl (Int.natCast_add _ _).symm (by omega) (by omega)) ?_
  refine TR.t rfl rfl wt0 (op_index tsl_uint16 rfl rw1 rfl (by omega) (by omega)) (fun _ h => h) ?_
  refine TR.t rfl rfl wt0 (op_loadR ts_uint16 rfl rw1 (lkM (i := i * wd + k) (d := 0) hb rfl (by omega))) (fun _ h => h) ?_
  refine TR.p rfl rfl wt0 (op_assign rfl) ?_
  refine TR.nil ?_
  refine TQ.then ?_
  refine TC.ret ?_
  refine ret1 rfl rfl (fun w' hp => ?_)
  exact ⟨_, _, rfl, ⟨rfl, rfl⟩, (hp)⟩

theorem dfill_x (a b : List Int) (va vb : Value) (ha : a.length ≤ 1024) (hb : b.length ≤ 1024) (ra : Rdb L va 1 a.length (a.map (Value.int .i32))) (rb : Rdb L vb 1 b.length (b.map (Value.int .i32))) :
    CallX Tryd.prog 57 [va, vb] S w0 (L) (fun u L' => ∃ g lv X, u = .pointer (some ⟨g, 0, none⟩) ∧ TZ a b 0 b.length X ∧ L' = .blk g (.cells [lv, .int .i64 (((b.length + 1 : Nat) : Int))].toArray 139 (0, 0)) :: .row lv 90 1 (X).length ((X).map iv16) :: L) := by
  intro w hp
  have hsq : (a.length + 1) * (b.length + 1) ≤ 1025 * 1025 := Nat.mul_le_mul (by omega) (by omega)
  refine calls_start Tryd.func57 rfl rfl rfl (hp) ?_
  refine TC.seq ?_
  refine TC.region ?_   -- region 0 diff.go:24
  refine TL.opP rfl (op_assign rfl) ?_
  refine TL.nil ?_
  refine TQ.then ?_
  refine TC.seq ?_
  refine TC.region ?_   -- region 1 diff.go:25
  refine TL.opP rfl (op_move rfl) ?_
  refine TL.opV rfl (op_lenV rfl un_sl_int32 rfl ra) ?_
  refine TL.opP rfl (op_add rfl rfl rfl (by omega) (by omega)) ?_
  refine TL.opP rfl (op_move rfl) ?_
  refine TL.opV rfl (op_lenV rfl un_sl_int32 rfl rb) ?_
  refine TL.opP rfl (op_add rfl rfl rfl (by omega) (by omega)) ?_
  refine TL.opP rfl (op_mul (r := (((a.length + 1) * (b.length + 1) : Nat) : Int)) rfl rfl (Int.natCast_mul _ _).symm (by omega) (by omega)) ?_
  refine TL.opX rfl (OpX.make (m := ((a.length + 1) * (b.length + 1))) (zs := ((List.replicate ((a.length + 1) * (b.length + 1)) 0).map iv16)) tsl_uint16 rfl rfl rfl (by decide) (by omega) (made_u16 _)) ?_; rintro v1 _ rfl
  refine TL.know (fun _ h => row1 h) (fun o1 => ?_)
  refine TL.hp (fun _ h => row_lenM h) ?_
  refine TL.opP rfl (op_move rfl) ?_
  refine TL.opV rfl (op_lenV rfl un_sl_int32 rfl rb.cons) ?_
  refine TL.opP rfl (op_add rfl rfl rfl (by omega) (by omega)) ?_
  refine TL.opP rfl (op_build (ps := #[(0, _), (1, _)]) rfl (bl_diff_table_01 _ _)) ?_
  refine TL.opX rfl (OpX.box (cs := [v1, .int .i64 ((b.length + 1 : Nat) : Int)]) rfl rfl) ?_; rintro _ _ ⟨g21, rfl, rfl⟩
  refine TL.opP rfl (op_assign rfl) ?_
  refine TL.nil ?_
  refine TQ.then ?_
  refine TC.seq ?_
  refine TC.seq ?_
  refine TC.region ?_   -- region 2 diff.go:26
  refine TL.opP rfl (op_move rfl) ?_
  refine TL.opV rfl (op_lenV rfl un_sl_int32 rfl ra.cons.cons) ?_
  refine TL.opP rfl (op_sub rfl rfl rfl (by omega) (by omega)) ?_
  refine TL.opP rfl (op_assign rfl) ?_
  refine TL.nil ?_
  refine TQ.then ?_
  refine TC.block ?_
  refine TC.loop (ι := Nat × List Nat) (fun (m, X) => [(0, va), (1, vb), (5, .pointer (some ⟨g21, 0, none⟩)), (6, .int .i64 ((m : Int) - 1))]) (fun (m, X) => .blk g21 (.cells [v1, .int .i64 (((b.length + 1 : Nat) : Int))].toArray 139 (0, 0)) :: .row v1 90 1 (X).length ((X).map iv16) :: L) (fun (m, X) => TZ a b m b.length X) (fun (m, X) => m) ((a.length, List.replicate ((a.length + 1) * (b.length + 1)) 0)) ((TZ.start a b)) ⟨rfl, rfl, rfl, rfl, trivial⟩ (fun _ h => h) ?_
  rintro ⟨m, X⟩ (hI : TZ a b m b.length X)
  have hml := hI.mle
  have hXl := hI.len
  show TC _ _ _ _ [(0, va), (1, vb), (5, .pointer (some ⟨g21, 0, none⟩)), (6, .int .i64 ((m : Int) - 1))] _ _ (.blk g21 (.cells [v1, .int .i64 (((b.length + 1 : Nat) : Int))].toArray 139 (0, 0)) :: .row v1 90 1 (X).length ((X).map iv16) :: L)
  refine TC.seq ?_
  refine TC.seq ?_
  refine TC.region ?_   -- region 3 diff.go:26
  refine TL.opP rfl (op_move rfl) ?_
  refine TL.opP rfl (op_geq rfl rfl) ?_
  refine TL.nil ?_
  refine TQ.then ?_
  first | refine TC.condD rfl (fun c1 => ?_) (fun c1 => ?_) | refine TC.condB rfl (fun c1 => ?_) (fun c1 => ?_)
  · refine TC.re (t := 6) (v' := .int .i64 ((m - 1 : Nat) : Int)) rfl (ire (by omega)) ?_
    refine TC.skip ?_
    refine TQ.then ?_
    refine TC.seq ?_
    refine TC.block ?_
    refine TC.seq ?_
    refine TC.region ?_   -- region 5 diff.go:27
    refine TL.opP rfl (op_move rfl) ?_
    refine TL.opV rfl (op_lenV rfl un_sl_int32 rfl rb.cons.cons) ?_
    refine TL.opP rfl (op_sub rfl rfl rfl (by omega) (by omega)) ?_
    refine TL.opP rfl (op_assign rfl) ?_
    refine TL.nil ?_
    refine TQ.then ?_
    refine TC.block ?_
    refine TC.loop (ι := Nat × List Nat) (fun (q, Y) => [(0, va), (1, vb), (5, .pointer (some ⟨g21, 0, none⟩)), (6, .int .i64 ((m - 1 : Nat) : Int)), (7, .int .i64 ((q : Int) - 1))]) (fun (q, Y) => .blk g21 (.cells [v1, .int .i64 (((b.length + 1 : Nat) : Int))].toArray 139 (0, 0)) :: .row v1 90 1 (Y).length ((Y).map iv16) :: L) (fun (q, Y) => TZ a b m q Y ∧ q ≤ b.length) (fun (q, Y) => q) ((b.length, X)) (⟨hI, Nat.le_refl _⟩) ⟨rfl, rfl, rfl, rfl, rfl, trivial⟩ (fun _ h => h) ?_
    rintro ⟨q, Y⟩ ⟨hJ, hq⟩
    have hYl := hJ.len
    show TC _ _ _ _ [(0, va), (1, vb), (5, .pointer (some ⟨g21, 0, none⟩)), (6, .int .i64 ((m - 1 : Nat) : Int)), (7, .int .i64 ((q : Int) - 1))] _ _ (.blk g21 (.cells [v1, .int .i64 (((b.length + 1 : Nat) : Int))].toArray 139 (0, 0)) :: .row v1 90 1 (Y).length ((Y).map iv16) :: L)
    refine TC.seq ?_
    refine TC.seq ?_
    refine TC.region ?_   -- region 6 diff.go:27
    refine TL.opP rfl (op_move rfl) ?_
    refine TL.opP rfl (op_geq rfl rfl) ?_
    refine TL.nil ?_
    refine TQ.then ?_
    first | refine TC.condD rfl (fun c2 => ?_) (fun c2 => ?_) | refine TC.condB rfl (fun c2 => ?_) (fun c2 => ?_)
    · refine TC.re (t := 7) (v' := .int .i64 ((q - 1 : Nat) : Int)) rfl (ire (by omega)) ?_
      obtain ⟨b1', e1⟩ := hJ.at_ (i := m) (k := q - 1) hml (by omega) (.inl (Nat.le_refl _))
      obtain ⟨b2', e2⟩ := hJ.at_ (i := m - 1) (k := q) (by omega) hq (.inr (.inl ⟨by omega, Nat.le_refl _⟩))
      obtain ⟨b3', e3⟩ := hJ.at_ (i := m) (k := q) hml hq (.inl (Nat.le_refl _))
      obtain ⟨hlt, hst2⟩ := hJ.step (by omega) (by omega) hq
      have hle := lc_le a b m q
      have hrec := lc_rec (a := a) (b := b) (i := m - 1) (k := q - 1) (by omega) (by omega)
      have hm1 : m - 1 + 1 = m := by omega
      have hq1 : q - 1 + 1 = q := by omega
      rw [hm1, hq1] at hrec
      refine TC.skip ?_
      refine TQ.then ?_
      refine TC.seq ?_
      refine TC.block ?_
      refine TC.seq ?_
      refine TC.region ?_   -- region 8 diff.go:28
      refine TL.opP rfl (op_move rfl) ?_
      refine TL.opP rfl (op_move rfl) ?_
      refine TL.opP rfl (op_add (r := ((m : Nat) : Int)) rfl rfl (by omega) (by omega) (by omega)) ?_
      refine TL.opP rfl (op_move rfl) ?_
      refine TL.opX rfl (OpX.callX en_58 rfl (dat_x Y (b.length + 1) (m) (q - 1) _ _ b1' (by omega))) ?_; rintro _ _ ⟨rfl, rfl⟩
      refine TL.opP rfl (op_move rfl) ?_
      refine TL.opP rfl (op_move rfl) ?_
      refine TL.opP rfl (op_move rfl) ?_
      refine TL.opP rfl (op_add (r := ((q : Nat) : Int)) rfl rfl (by omega) (by omega) (by omega)) ?_
      refine TL.opX rfl (OpX.callX en_58 rfl (dat_x Y (b.length + 1) (m - 1) (q) _ _ b2' (by omega))) ?_; rintro _ _ ⟨rfl, rfl⟩
      refine TL.opP rfl (op_max rfl) ?_
      refine TL.opP rfl (op_assign rfl) ?_
      refine TL.nil ?_
      refine TQ.then ?_
      refine TC.join1 [(0, va), (1, vb), (5, .pointer (some ⟨g21, 0, none⟩)), (6, .int .i64 ((m - 1 : Nat) : Int)), (7, .int .i64 ((q - 1 : Nat) : Int)), (8, iv16 (lc a b (m - 1) (q - 1)))] (.blk g21 (.cells [v1, .int .i64 (((b.length + 1 : Nat) : Int))].toArray 139 (0, 0)) :: .row v1 90 1 (Y).length ((Y).map iv16) :: L) ?_ ?_
      · refine TC.seq ?_
        refine TC.draw [] (.cons (.p, 0) (.cons (.p, 1) (.cons (.p, 4) (.cons (.p, 5) (.cons (.t, 2) (.cons (.t, 3) (.cons (.t, 6) (.cons (.t, 7) (.cons (.p, 8) (.nil)))))))))) mo (by kernel_rfl) ?_   -- region 9 diff.go:29
        refine TR.p rfl rfl wt0 (op_move rfl) ?_
        refine TR.p rfl rfl wt0 (op_move rfl) ?_
        refine TR.p rfl rfl wt0 (op_move rfl) ?_
        refine TR.p rfl rfl wt0 (op_move rfl) ?_
        refine TR.t rfl rfl wt0 (op_index tsl_int32 rfl ra.cons.cons rfl (by omega) (by omega)) (fun _ h => h) ?_
        refine TR.t rfl rfl wt0 (op_loadR ts_int32 rfl ra.cons.cons (lkM (i := m - 1) (d := 0) (by omega) rfl (by omega))) (fun _ h => h) ?_
        refine TR.t rfl rfl wt0 (op_index tsl_int32 rfl rb.cons.cons rfl (by omega) (by omega)) (fun _ h => h) ?_
        refine TR.t rfl rfl wt0 (op_loadR ts_int32 rfl rb.cons.cons (lkM (i := q - 1) (d := 0) (by omega) rfl (by omega))) (fun _ h => h) ?_
        refine TR.p rfl rfl wt0 (op_eql rfl rfl) ?_
        refine TR.nil ?_
        refine TQ.then ?_
        first | refine TC.condD rfl (fun c3 => ?_) (fun c3 => ?_) | refine TC.condB rfl (fun c3 => ?_) (fun c3 => ?_)
        · refine TC.region ?_   -- region 10 diff.go:30
          refine TL.opP rfl (op_move rfl) ?_
          refine TL.opP rfl (op_move rfl) ?_
          refine TL.opP rfl (op_add (r := ((m : Nat) : Int)) rfl rfl (by omega) (by omega) (by omega)) ?_
          refine TL.opP rfl (op_move rfl) ?_
          refine TL.opP rfl (op_add (r := ((q : Nat) : Int)) rfl rfl (by omega) (by omega) (by omega)) ?_
          refine TL.opX rfl (OpX.callX en_58 rfl (dat_x Y (b.length + 1) (m) (q) _ _ b3' (by omega))) ?_; rintro _ _ ⟨rfl, rfl⟩
          refine TL.opP rfl (op_addU16 rfl rfl rfl (by rw [e3]; omega) (by rw [e3]; omega)) ?_
          refine TL.opP rfl (op_assign rfl) ?_
          refine TL.nil ?_
          exact TQ.join1 ⟨rfl, rfl, rfl, rfl, rfl, gi rfl (by first | (rw [hrec, if_pos c3, e3]; omega) | (rw [hrec, if_neg c3, e1, e2]; omega) | (rw [hrec, if_pos c3, e3, hm1, hq1]; omega) | (rw [hrec, if_neg c3, e1, e2, hm1, hq1]; omega)), trivial⟩ (fun _ h => h)
        · refine TC.skip ?_
          exact TQ.join1 ⟨rfl, rfl, rfl, rfl, rfl, gi rfl (by first | (rw [hrec, if_pos c3, e3]; omega) | (rw [hrec, if_neg c3, e1, e2]; omega) | (rw [hrec, if_pos c3, e3, hm1, hq1]; omega) | (rw [hrec, if_neg c3, e1, e2, hm1, hq1]; omega)), trivial⟩ (fun _ h => h)
      · refine TC.draw [14] (.cons (.p, 0) (.cons (.p, 1) (.cons (.p, 2) (.cons (.p, 4) (.cons (.p, 5) (.cons (.p, 6) (.cons (.p, 7) (.cons (.p, 10) (.cons (.p, 12) (.cons (.t, 3) (.cons (.t, 8) (.cons (.p, 9) (.cons (.p, 11) (.cons (.t, 13) (.cons (.z, 14) (.nil)))))))))))))))) mo (by kernel_rfl) ?_   -- region 11 diff.go:32
        refine TR.p rfl rfl wt0 (op_move rfl) ?_
        refine TR.p rfl rfl wt0 (op_nilCheck rfl) ?_
        refine TR.p rfl rfl wt0 (op_field fld_diff_table_l rfl) ?_
        refine TR.p rfl rfl wt0 (op_move rfl) ?_
        refine TR.p rfl rfl wt0 (op_move rfl) ?_
        refine TR.p rfl rfl wt0 (op_nilCheck rfl) ?_
        refine TR.p rfl rfl wt0 (op_field fld_diff_table_wide rfl) ?_
        refine TR.p rfl rfl wt0 (op_move rfl) ?_
        refine TR.p rfl rfl wt0 (op_move rfl) ?_
        refine TR.t rfl rfl wt0 (op_load ts_sl_uint16 rfl m0 rfl) (fun _ h => h) ?_
        refine TR.t rfl rfl wt0 (op_load ts_int rfl m0 rfl) (fun _ h => h) ?_
        refine TR.p rfl rfl wt0 (op_mul (r := (((m - 1) * (b.length + 1) : Nat) : Int)) rfl rfl (Int.natCast_mul _ _).symm (by omega) (by omega)) ?_
        refine TR.p rfl rfl wt0 (op_add (r := (((m - 1) * (b.length + 1) + (q - 1) : Nat) : Int)) rfl rfl (Int.natCast_add _ _).symm (by omega) (by omega)) ?_
        refine TR.t rfl rfl wt0 (op_index tsl_uint16 rfl rw1 rfl (by omega) (by omega)) (fun _ h => h) ?_
        refine TR.hp (fun _ h => h.pick1) ?_
        refine TR.z0 rfl wt0 (OpX.storeRow (k := 1) (fun w => by kernel_rfl) rfl rfl rfl (ys := [iv16 (lc a b (m - 1) (q - 1))]) rfl (by decide) (List.all_eq_true.1 rfl) (by omega) (stM (i := (m - 1) * (b.length + 1) + (q - 1)) (by omega) (by omega))) ?_; rintro _ _ rfl
        refine TR.hp (fun _ h => row_lenM h) ?_
        refine TR.nil ?_
        refine TQ.block_normal ?_
        refine TQ.then ?_
        refine TC.region ?_   -- region 7 diff.go:27
        refine TL.opP rfl (op_move rfl) ?_
        refine TL.opP rfl (op_sub rfl rfl rfl (by omega) (by omega)) ?_
        refine TL.opP rfl (op_assign rfl) ?_
        refine TL.nil ?_
        exact TQ.round (q - 1, Y.set ((m - 1) * (b.length + 1) + (q - 1)) (lc a b (m - 1) (q - 1))) (⟨hst2, by show q - 1 ≤ _; omega⟩) (by show q - 1 < q; omega) ⟨rfl, rfl, rfl, rfl, gi rfl (by omega), trivial⟩ (fun _ h => h.pick1)
    · obtain rfl : q = 0 := by omega
      refine TC.exit ?_
      refine TQ.then_exit ?_
      refine TQ.loop_exit ?_
      refine TQ.block_hit ?_
      refine TQ.block_normal ?_
      refine TQ.then ?_
      refine TC.region ?_   -- region 4 diff.go:26
      refine TL.opP rfl (op_move rfl) ?_
      refine TL.opP rfl (op_sub rfl rfl rfl (by omega) (by omega)) ?_
      refine TL.opP rfl (op_assign rfl) ?_
      refine TL.nil ?_
      exact TQ.round (m - 1, Y) (hJ.row (by omega)) (by show m - 1 < m; omega) ⟨rfl, rfl, rfl, gi rfl (by omega), trivial⟩ (fun _ h => h)
  · refine TC.exit ?_
    refine TQ.then_exit ?_
    refine TQ.loop_exit ?_
    refine TQ.block_hit ?_
    refine TQ.then ?_
    refine TC.seq ?_
    refine TC.region ?_   -- region 12 diff.go:35
    refine TL.opP rfl (op_move rfl) ?_
    refine TL.opP rfl (op_assign rfl) ?_
    refine TL.nil ?_
    refine TQ.then ?_
    refine TC.ret ?_
    refine ret1 rfl rfl (fun w' hp => ?_)
    obtain rfl : m = 0 := by omega
    exact ⟨_, _, rfl, ⟨_, _, _, rfl, hI, rfl⟩, (hp)⟩

theorem diff_x (s t : ByteArray) (hs : s.size ≤ 70368744177664) (ht : t.size ≤ 70368744177664) (hT : tabs ∈ L) :
    CallX Tryd.prog 19 [.string s, .string t] S w0 (L) (fun u L' => ∃ v', u = .tuple #[v', .int .i64 (diffE s t)] ∧ L' = .row v' 36 3 (diffF s t).length (encs (diffF s t)) :: L) := by
  intro w hp
  refine calls_start Tryd.func19 rfl rfl rfl (hp) ?_
  refine TC.seq ?_
  refine TC.region ?_   -- region 0 diff.go:69
  refine TL.opP rfl (op_assign rfl) ?_
  refine TL.opP rfl (op_assign rfl) ?_
  refine TL.nil ?_
  refine TQ.then ?_
  refine TC.seq ?_
  refine TC.region ?_   -- region 1 diff.go:70
  refine TL.opP rfl (op_move rfl) ?_
  refine TL.opP rfl (op_move rfl) ?_
  refine TL.opX rfl (OpX.callX en_55 rfl (dpair_x s t (by omega) (by omega) hT)) ?_; rintro _ _ ⟨v11, v21, l11, l21, rfl, hl1, rfl⟩
  refine TL.opP rfl (op_move rfl) ?_
  refine TL.opP rfl (op_extract rfl rfl) ?_
  refine TL.opP rfl (op_extract rfl rfl) ?_
  refine TL.opP rfl (op_extract rfl rfl) ?_
  refine TL.opP rfl (op_assign rfl) ?_
  refine TL.opP rfl (op_assign rfl) ?_
  refine TL.opP rfl (op_assign rfl) ?_
  refine TL.nil ?_
  refine TQ.then ?_
  refine TC.seq ?_
  refine TC.seq ?_
  refine TC.region ?_   -- region 2 diff.go:71
  refine TL.opP rfl (op_move rfl) ?_
  refine TL.opP rfl (op_neq rfl rfl) ?_
  refine TL.nil ?_
  refine TQ.then ?_
  first | refine TC.condD rfl (fun c1 => ?_) (fun c1 => ?_) | refine TC.condB rfl (fun c1 => ?_) (fun c1 => ?_)
  · refine TC.seq ?_
    refine TC.region ?_   -- region 3 diff.go:72
    refine TL.opP rfl (op_move rfl) ?_
    refine TL.opP rfl (op_assign rfl) ?_
    refine TL.opP rfl (op_assign rfl) ?_
    refine TL.nil ?_
    refine TQ.then ?_
    refine TC.ret ?_
    refine TQ.then_ret ?_
    refine ret2 rfl rfl rfl (fun w' hp => ?_)
    first
      | exact ⟨_, _, rfl, ⟨.slice none 0 0, rfl, by rw [diffF_nz c1]; rfl⟩, new_nil _ 3 (hp.drop1.tail)⟩
      | exact ⟨_, _, rfl, ⟨_, by rw [show diffE s t = 0 from hz], by rw [hres]⟩, (hp.drop1.tail)⟩
  · have hz : ck2 s t = 0 := by simpa using c1
    obtain ⟨rfl, rfl⟩ := hl1 hz
    obtain ⟨_, _, hdl1, hdl2, _, hbs0⟩ := diffE_z hz
    refine TC.skip ?_
    refine TQ.then ?_
    refine TC.seq ?_
    refine TC.region ?_   -- region 4 diff.go:74
    refine TL.opP rfl (op_move rfl) ?_
    refine TL.opP rfl (op_move rfl) ?_
    refine TL.opX rfl (OpX.callX en_56 rfl (dfront_x (dec s) (dec t) _ _ rd0 rd1)) ?_; rintro _ _ ⟨n3, rfl, ⟨hf1, hf2, hf3⟩, rfl⟩
    refine TL.opP rfl (op_assign rfl) ?_
    refine TL.nil ?_
    refine TQ.then ?_
    refine TC.seq ?_
    refine TC.region ?_   -- region 5 diff.go:75
    refine TL.opP rfl (op_move rfl) ?_
    refine TL.opP rfl (op_build (ps := #[(0, _), (1, _)]) rfl (bl_api_Part_01 _ _)) ?_
    refine TL.opX rfl (OpX.buildSlice (ps := #[(0, _)]) rfl (bs_api_Part_1 (keepP (n3 : Int)))) ?_; rintro _ _ ⟨g29, rfl, rfl⟩
    refine TL.hp (fun _ h => blk_row (k := 3) (m := 1) h rfl (by decide)) ?_
    refine TL.opP rfl (op_assign rfl) ?_
    refine TL.nil ?_
    refine TQ.then ?_
    refine TC.join (ι := Nat × List Int × List Int × Value × Value) (fun (n, a, b, xv, yv) => [(6, xv), (7, yv), (10, .slice (some ⟨g29, 0, none⟩) 1 1)]) (fun (n, a, b, xv, yv) => .row (.slice (some ⟨g29, 0, none⟩) 1 1) 36 3 (keepP (n : Int) :: []).length (encs (keepP (n : Int) :: [])) :: .rd xv 1 (a).length ((a).map (Value.int .i32)) :: .rd yv 1 (b).length ((b).map (Value.int .i32)) :: L) (fun (n, a, b, xv, yv) => normF (keepP (n : Int) :: dp a b) = diffF s t ∧ a.length ≤ 1024 ∧ b.length ≤ 1024 ∧ ∀ y ∈ b, scalar y) ?_ ?_
    · refine TC.draw [] (.cons (.p, 0) (.cons (.p, 1) (.cons (.p, 3) (.cons (.p, 4) (.cons (.t, 2) (.cons (.p, 6) (.cons (.t, 5) (.cons (.p, 7) (.nil))))))))) mo (by kernel_rfl) ?_   -- region 6 diff.go:76
      refine TR.p rfl rfl wt0 (op_move rfl) ?_
      refine TR.p rfl rfl wt0 (op_move rfl) ?_
      refine TR.p rfl rfl wt0 (op_move rfl) ?_
      refine TR.p rfl rfl wt0 (op_move rfl) ?_
      refine TR.t rfl rfl wt0 (op_cut n3 (dec s).length tsl_int32 rfl rd1 (vlo := (some _)) (vhi := none) rfl rfl (.inr ⟨_, _, rfl, by omega⟩) (.inl ⟨rfl, rfl⟩) (by omega) (by omega)) (fun _ h => h) ?_
      refine TR.p rfl rfl wt0 (op_assign rfl) ?_
      refine TR.t rfl rfl wt0 (op_cut n3 (dec t).length tsl_int32 rfl rd2 (vlo := (some _)) (vhi := none) rfl rfl (.inr ⟨_, _, rfl, by omega⟩) (.inl ⟨rfl, rfl⟩) (by omega) (by omega)) (fun _ h => h) ?_
      refine TR.p rfl rfl wt0 (op_assign rfl) ?_
      refine TR.hp (fun _ h => (rd_drop ((rd_drop h.pick1 n3 hf1).pick2) n3 hf2)) ?_
      refine TR.nil ?_
      exact TQ.join (n3, (dec s).drop n3, (dec t).drop n3, (Value.cut v11 n3 (dec s).length 1), (Value.cut v21 n3 (dec t).length 1)) (⟨by rw [diff_front hf1 hf2 hf3 (by omega)]; exact (if_pos hz).symm, by rw [List.length_drop]; omega, by rw [List.length_drop]; omega, fun y hy => hbs0 y (List.mem_of_mem_drop hy)⟩) ⟨rfl, rfl, rfl, trivial⟩ (fun _ h => h.pick1.pick2)
    · rintro ⟨n, a, b, xv, yv⟩ ⟨hnf, hal, hbl, hbs⟩
      show TC _ _ _ _ [(6, xv), (7, yv), (10, .slice (some ⟨g29, 0, none⟩) 1 1)] _ _ (.row (.slice (some ⟨g29, 0, none⟩) 1 1) 36 3 (keepP (n : Int) :: []).length (encs (keepP (n : Int) :: [])) :: .rd xv 1 (a).length ((a).map (Value.int .i32)) :: .rd yv 1 (b).length ((b).map (Value.int .i32)) :: L)
      refine TC.seq ?_
      refine TC.region ?_   -- region 7 diff.go:77
      refine TL.opP rfl (op_move rfl) ?_
      refine TL.opP rfl (op_move rfl) ?_
      refine TL.opX rfl (OpX.callX en_57 rfl (dfill_x a b _ _ hal hbl rd1 rd2)) ?_; rintro _ _ ⟨g, lv, X, rfl, hX, rfl⟩
      refine TL.opP rfl (op_assign rfl) ?_
      refine TL.nil ?_
      refine TQ.then ?_
      refine TC.seq ?_
      refine TC.region ?_   -- region 8 diff.go:78
      refine TL.opP rfl (op_assign rfl) ?_
      refine TL.opP rfl (op_assign rfl) ?_
      refine TL.nil ?_
      refine TQ.then ?_
      refine TC.seq ?_
      refine TC.block ?_
      refine TC.loop (ι := Nat × Nat × List Part × Value) (fun (i, k, ps, pv) => [(6, xv), (7, yv), (10, pv), (11, .pointer (some ⟨g, 0, none⟩)), (12, .int .i64 (i : Int)), (13, .int .i64 (k : Int))]) (fun (i, k, ps, pv) => .row (pv) 36 3 (keepP (n : Int) :: ps).length (encs (keepP (n : Int) :: ps)) :: .blk g (.cells [lv, .int .i64 (((b.length + 1 : Nat) : Int))].toArray 139 (0, 0)) :: .row lv 90 1 (X).length ((X).map iv16) :: .rd xv 1 (a).length ((a).map (Value.int .i32)) :: .rd yv 1 (b).length ((b).map (Value.int .i32)) :: L) (fun (i, k, ps, pv) => DI a b i k ps) (fun (i, k, ps, pv) => (a.length - i) + (b.length - k)) ((0, 0, [], .slice (some ⟨g29, 0, none⟩) 1 1)) ((DI.start a b)) ⟨rfl, rfl, rfl, rfl, rfl, rfl, trivial⟩ (fun _ h => h.pick4.pick4.pick3.pick3.pick4) ?_
      rintro ⟨i, k, ps, pv⟩ (hI : DI a b i k ps)
      have hil := hI.ile
      have hkl := hI.kle
      have hpl := hI.len hbs
      show TC _ _ _ _ [(6, xv), (7, yv), (10, pv), (11, .pointer (some ⟨g, 0, none⟩)), (12, .int .i64 (i : Int)), (13, .int .i64 (k : Int))] _ _ (.row (pv) 36 3 (keepP (n : Int) :: ps).length (encs (keepP (n : Int) :: ps)) :: .blk g (.cells [lv, .int .i64 (((b.length + 1 : Nat) : Int))].toArray 139 (0, 0)) :: .row lv 90 1 (X).length ((X).map iv16) :: .rd xv 1 (a).length ((a).map (Value.int .i32)) :: .rd yv 1 (b).length ((b).map (Value.int .i32)) :: L)
      refine TC.seq ?_
      refine TC.join1 [(6, xv), (7, yv), (10, pv), (11, .pointer (some ⟨g, 0, none⟩)), (12, .int .i64 (i : Int)), (13, .int .i64 (k : Int)), (48, .bool (decide (i < a.length ∨ k < b.length)))] (.row (pv) 36 3 (keepP (n : Int) :: ps).length (encs (keepP (n : Int) :: ps)) :: .blk g (.cells [lv, .int .i64 (((b.length + 1 : Nat) : Int))].toArray 139 (0, 0)) :: .row lv 90 1 (X).length ((X).map iv16) :: .rd xv 1 (a).length ((a).map (Value.int .i32)) :: .rd yv 1 (b).length ((b).map (Value.int .i32)) :: L) ?_ ?_
      · refine TC.region ?_   -- region 9 diff.go:79
        refine TL.opP rfl (op_move rfl) ?_
        refine TL.opP rfl (op_move rfl) ?_
        refine TL.opV rfl (op_lenV rfl un_sl_int32 rfl rd3) ?_
        refine TL.opP rfl (op_lss rfl rfl) ?_
        refine TL.opP rfl (op_move rfl) ?_
        first | refine TL.splitD (fun c2 => ?_) (fun c2 => ?_) | refine TL.splitB (fun c2 => ?_) (fun c2 => ?_)
        · refine TL.gFt rfl rfl rfl ?_
          refine TL.gFt rfl rfl rfl ?_
          refine TL.gFt rfl rfl rfl ?_
          refine TL.gFt rfl rfl rfl ?_
          refine TL.opP rfl (op_pickT rfl rfl) ?_
          refine TL.nil ?_
          exact TQ.join1 ⟨rfl, rfl, rfl, rfl, rfl, rfl, gb rfl (by first | exact (decide_eq_true (by omega)).symm | exact (decide_eq_false (by omega)).symm | exact decide_eq_decide.2 (by omega) | exact decide_eq_decide.2 ⟨fun h => ⟨by omega, by omega, h⟩, fun h => h.2.2⟩), trivial⟩ (fun _ h => h)
        · refine TL.gT rfl rfl ?_
          refine TL.opP rfl (op_move rfl) ?_
          refine TL.gT rfl rfl ?_
          refine TL.opP rfl (op_move rfl) ?_
          refine TL.gT rfl rfl ?_
          refine TL.opV rfl (op_lenV rfl un_sl_int32 rfl rd4) ?_
          refine TL.gT rfl rfl ?_
          refine TL.opP rfl (op_lss rfl rfl) ?_
          refine TL.opP rfl (op_pickF rfl rfl) ?_
          refine TL.nil ?_
          exact TQ.join1 ⟨rfl, rfl, rfl, rfl, rfl, rfl, gb rfl (by first | exact (decide_eq_true (by omega)).symm | exact (decide_eq_false (by omega)).symm | exact decide_eq_decide.2 (by omega) | exact decide_eq_decide.2 ⟨fun h => ⟨by omega, by omega, h⟩, fun h => h.2.2⟩), trivial⟩ (fun _ h => h)
      · first | refine TC.condD rfl (fun c3 => ?_) (fun c3 => ?_) | refine TC.condB rfl (fun c3 => ?_) (fun c3 => ?_)
        · refine TC.skip ?_
          refine TQ.then ?_
          refine TC.block ?_
          refine TC.block ?_
          refine TC.join1 [(6, xv), (7, yv), (10, pv), (11, .pointer (some ⟨g, 0, none⟩)), (12, .int .i64 (i : Int)), (13, .int .i64 (k : Int)), (60, .bool (decide (i < a.length ∧ k < b.length ∧ a.getD i 0 = b.getD k 0)))] (.row (pv) 36 3 (keepP (n : Int) :: ps).length (encs (keepP (n : Int) :: ps)) :: .blk g (.cells [lv, .int .i64 (((b.length + 1 : Nat) : Int))].toArray 139 (0, 0)) :: .row lv 90 1 (X).length ((X).map iv16) :: .rd xv 1 (a).length ((a).map (Value.int .i32)) :: .rd yv 1 (b).length ((b).map (Value.int .i32)) :: L) ?_ ?_
          · refine TC.draw [] (.cons (.p, 0) (.cons (.p, 1) (.cons (.t, 2) (.cons (.p, 3) (.cons (.p, 4) (.cons (.p, 5) (.cons (.p, 6) (.cons (.t, 7) (.cons (.p, 8) (.cons (.p, 9) (.cons (.p, 10) (.cons (.p, 11) (.cons (.p, 12) (.cons (.p, 15) (.cons (.p, 16) (.cons (.t, 13) (.cons (.t, 14) (.cons (.t, 17) (.cons (.t, 18) (.cons (.p, 19) (.cons (.p, 20) (.cons (.p, 21) (.nil))))))))))))))))))))))) mo (by kernel_rfl) ?_   -- region 12 diff.go:81
            refine TR.p rfl rfl wt0 (op_move rfl) ?_
            refine TR.p rfl rfl wt0 (op_move rfl) ?_
            refine TR.t rfl rfl wt0 (op_lenV rfl un_sl_int32 rfl rd3) (fun _ h => h) ?_
            refine TR.p rfl rfl wt0 (op_lss rfl rfl) ?_
            refine TR.p rfl rfl wt0 (op_move rfl) ?_
            first | refine TR.splitD (fun c4 => ?_) (fun c4 => ?_) | refine TR.splitB (fun c4 => ?_) (fun c4 => ?_)
            · refine TR.p rfl rfl (by exact wtT rfl rfl) (op_move rfl) ?_
              refine TR.p rfl rfl (by exact wtT rfl rfl) (op_move rfl) ?_
              refine TR.t rfl rfl (by exact wtT rfl rfl) (op_lenV rfl un_sl_int32 rfl rd4) (fun _ h => h) ?_
              refine TR.p rfl rfl (by exact wtT rfl rfl) (op_lss rfl rfl) ?_
              refine TR.p rfl rfl wt0 (op_pickT rfl rfl) ?_
              refine TR.p rfl rfl wt0 (op_move rfl) ?_
              first | refine TR.splitD (fun c5 => ?_) (fun c5 => ?_) | refine TR.splitB (fun c5 => ?_) (fun c5 => ?_)
              · refine TR.p rfl rfl (by exact wtT rfl rfl) (op_move rfl) ?_
                refine TR.p rfl rfl (by exact wtT rfl rfl) (op_move rfl) ?_
                refine TR.p rfl rfl (by exact wtT rfl rfl) (op_move rfl) ?_
                refine TR.p rfl rfl (by exact wtT rfl rfl) (op_move rfl) ?_
                refine TR.t rfl rfl (by exact wtT rfl rfl) (op_index tsl_int32 rfl rd3 rfl (by omega) (by omega)) (fun _ h => h) ?_
                refine TR.t rfl rfl (by exact wtT rfl rfl) (op_loadR ts_int32 rfl rd3 (lkM (i := i) (d := 0) (by omega) rfl (by omega))) (fun _ h => h) ?_
                refine TR.t rfl rfl (by exact wtT rfl rfl) (op_index tsl_int32 rfl rd4 rfl (by omega) (by omega)) (fun _ h => h) ?_
                refine TR.t rfl rfl (by exact wtT rfl rfl) (op_loadR ts_int32 rfl rd4 (lkM (i := k) (d := 0) (by omega) rfl (by omega))) (fun _ h => h) ?_
                refine TR.p rfl rfl (by exact wtT rfl rfl) (op_eql rfl rfl) ?_
                refine TR.p rfl rfl wt0 (op_pickT rfl rfl) ?_
                refine TR.p rfl rfl wt0 (op_assign rfl) ?_
                refine TR.nil ?_
                exact TQ.join1 ⟨rfl, rfl, rfl, rfl, rfl, rfl, gb rfl (by first | exact (decide_eq_true (by omega)).symm | exact (decide_eq_false (by omega)).symm | exact decide_eq_decide.2 (by omega) | exact decide_eq_decide.2 ⟨fun h => ⟨by omega, by omega, h⟩, fun h => h.2.2⟩), trivial⟩ (fun _ h => h)
              · refine TR.off rfl rfl (by exact wtFf rfl rfl) ?_
                refine TR.off rfl rfl (by exact wtFf rfl rfl) ?_
                refine TR.off rfl rfl (by exact wtFf rfl rfl) ?_
                refine TR.off rfl rfl (by exact wtFf rfl rfl) ?_
                refine TR.offT rfl rfl (by exact wtFf rfl rfl) (fun _ h => h) ?_
                refine TR.offT rfl rfl (by exact wtFf rfl rfl) (fun _ h => h) ?_
                refine TR.offT rfl rfl (by exact wtFf rfl rfl) (fun _ h => h) ?_
                refine TR.offT rfl rfl (by exact wtFf rfl rfl) (fun _ h => h) ?_
                refine TR.off rfl rfl (by exact wtFf rfl rfl) ?_
                refine TR.p rfl rfl wt0 (op_pickF rfl rfl) ?_
                refine TR.p rfl rfl wt0 (op_assign rfl) ?_
                refine TR.nil ?_
                exact TQ.join1 ⟨rfl, rfl, rfl, rfl, rfl, rfl, gb rfl (by first | exact (decide_eq_true (by omega)).symm | exact (decide_eq_false (by omega)).symm | exact decide_eq_decide.2 (by omega) | exact decide_eq_decide.2 ⟨fun h => ⟨by omega, by omega, h⟩, fun h => h.2.2⟩), trivial⟩ (fun _ h => h)
            · refine TR.off rfl rfl (by exact wtFf rfl rfl) ?_
              refine TR.off rfl rfl (by exact wtFf rfl rfl) ?_
              refine TR.offT rfl rfl (by exact wtFf rfl rfl) (fun _ h => h) ?_
              refine TR.off rfl rfl (by exact wtFf rfl rfl) ?_
              refine TR.p rfl rfl wt0 (op_pickF rfl rfl) ?_
              refine TR.p rfl rfl wt0 (op_move rfl) ?_
              refine TR.off rfl rfl (by exact wtFf rfl rfl) ?_
              refine TR.off rfl rfl (by exact wtFf rfl rfl) ?_
              refine TR.off rfl rfl (by exact wtFf rfl rfl) ?_
              refine TR.off rfl rfl (by exact wtFf rfl rfl) ?_
              refine TR.offT rfl rfl (by exact wtFf rfl rfl) (fun _ h => h) ?_
              refine TR.offT rfl rfl (by exact wtFf rfl rfl) (fun _ h => h) ?_
              refine TR.offT rfl rfl (by exact wtFf rfl rfl) (fun _ h => h) ?_
              refine TR.offT rfl rfl (by exact wtFf rfl rfl) (fun _ h => h) ?_
              refine TR.off rfl rfl (by exact wtFf rfl rfl) ?_
              refine TR.p rfl rfl wt0 (op_pickF rfl rfl) ?_
              refine TR.p rfl rfl wt0 (op_assign rfl) ?_
              refine TR.nil ?_
              exact TQ.join1 ⟨rfl, rfl, rfl, rfl, rfl, rfl, gb rfl (by first | exact (decide_eq_true (by omega)).symm | exact (decide_eq_false (by omega)).symm | exact decide_eq_decide.2 (by omega) | exact decide_eq_decide.2 ⟨fun h => ⟨by omega, by omega, h⟩, fun h => h.2.2⟩), trivial⟩ (fun _ h => h)
          · first | refine TC.condD rfl (fun c6 => ?_) (fun c6 => ?_) | refine TC.condB rfl (fun c6 => ?_) (fun c6 => ?_)
            · refine TC.seq ?_
              refine TC.region ?_   -- region 13 diff.go:82
              refine TL.opP rfl (op_move rfl) ?_
              refine TL.opP rfl (op_build (ps := #[(0, _), (1, _)]) rfl (bl_api_Part_01 _ _)) ?_
              refine TL.opX rfl (OpX.buildSlice (ps := #[(0, _)]) rfl (bs_api_Part_1 keep1)) ?_; rintro _ _ ⟨g84, rfl, rfl⟩
              refine TL.hp (fun _ h => blk_row (k := 3) (m := 1) h rfl (by decide)) ?_
              refine TL.hp (fun _ h => h.pick1) ?_
              refine TL.opX rfl (OpX.append (bytes := 32) tsl_api_Part (by decide) (by decide) rfl rw1 (encs_one _) (by simp only [List.length_cons]; omega) (zs := encs (keepP (n : Int) :: (ps ++ [keep1]))) (encs_append (keepP (n : Int) :: ps) [keep1]).symm) ?_; rintro v4 _ rfl
              refine TL.know (fun _ h => row1 h) (fun o4 => ?_)
              refine TL.hp (fun _ h => row_len3 h) ?_
              refine TL.opP rfl (op_assign rfl) ?_
              refine TL.nil ?_
              refine TQ.then ?_
              refine TC.region ?_   -- region 14 diff.go:83
              refine TL.opP rfl (op_move rfl) ?_
              refine TL.opP rfl (op_add rfl rfl rfl (by omega) (by omega)) ?_
              refine TL.opP rfl (op_move rfl) ?_
              refine TL.opP rfl (op_add rfl rfl rfl (by omega) (by omega)) ?_
              refine TL.opP rfl (op_assign rfl) ?_
              refine TL.opP rfl (op_assign rfl) ?_
              refine TL.nil ?_
              refine TQ.block_normal ?_
              refine TQ.block_normal ?_
              exact TQ.round (i + 1, k + 1, ps ++ [keep1], v4) (hI.keep c6.1 c6.2.1 c6.2.2) (by dsimp only; omega) ⟨rfl, rfl, rfl, rfl, rfl, rfl, trivial⟩ (fun _ h => h.drop1)
            · refine TC.join1 [(6, xv), (7, yv), (10, pv), (11, .pointer (some ⟨g, 0, none⟩)), (12, .int .i64 (i : Int)), (13, .int .i64 (k : Int)), (90, .bool (decide (b.length ≤ k ∨ (i < a.length ∧ lc a b i (k + 1) ≤ lc a b (i + 1) k))))] (.row (pv) 36 3 (keepP (n : Int) :: ps).length (encs (keepP (n : Int) :: ps)) :: .blk g (.cells [lv, .int .i64 (((b.length + 1 : Nat) : Int))].toArray 139 (0, 0)) :: .row lv 90 1 (X).length ((X).map iv16) :: .rd xv 1 (a).length ((a).map (Value.int .i32)) :: .rd yv 1 (b).length ((b).map (Value.int .i32)) :: L) ?_ ?_
              · refine TC.region ?_   -- region 15 diff.go:84
                refine TL.opP rfl (op_move rfl) ?_
                refine TL.opP rfl (op_move rfl) ?_
                refine TL.opV rfl (op_lenV rfl un_sl_int32 rfl rd4) ?_
                refine TL.opP rfl (op_eql rfl rfl) ?_
                refine TL.opP rfl (op_move rfl) ?_
                first | refine TL.splitD (fun c7 => ?_) (fun c7 => ?_) | refine TL.splitB (fun c7 => ?_) (fun c7 => ?_)
                · refine TL.gFt rfl rfl rfl ?_
                  refine TL.gFt rfl rfl rfl ?_
                  refine TL.gFt rfl rfl rfl ?_
                  refine TL.gFt rfl rfl rfl ?_
                  refine TL.gFt rfl rfl rfl ?_
                  refine TL.gU rfl rfl rfl ?_
                  refine TL.gU rfl rfl rfl ?_
                  refine TL.gU rfl rfl rfl ?_
                  refine TL.gU rfl rfl rfl ?_
                  refine TL.gU rfl rfl rfl ?_
                  refine TL.gU rfl rfl rfl ?_
                  refine TL.gU rfl rfl rfl ?_
                  refine TL.gU rfl rfl rfl ?_
                  refine TL.gU rfl rfl rfl ?_
                  refine TL.gU rfl rfl rfl ?_
                  refine TL.gU rfl rfl rfl ?_
                  refine TL.gFt rfl rfl rfl ?_
                  refine TL.opP rfl (op_pickT rfl rfl) ?_
                  refine TL.opP rfl (op_assign rfl) ?_
                  refine TL.nil ?_
                  exact TQ.join1 ⟨rfl, rfl, rfl, rfl, rfl, rfl, gb rfl (by first | exact (decide_eq_true (by omega)).symm | exact (decide_eq_false (by omega)).symm | exact decide_eq_decide.2 (by omega) | exact decide_eq_decide.2 ⟨fun h => ⟨by omega, by omega, h⟩, fun h => h.2.2⟩), trivial⟩ (fun _ h => h)
                · refine TL.gT rfl rfl ?_
                  refine TL.opP rfl (op_move rfl) ?_
                  refine TL.gT rfl rfl ?_
                  refine TL.opP rfl (op_move rfl) ?_
                  refine TL.gT rfl rfl ?_
                  refine TL.opV rfl (op_lenV rfl un_sl_int32 rfl rd3) ?_
                  refine TL.gT rfl rfl ?_
                  refine TL.opP rfl (op_lss rfl rfl) ?_
                  refine TL.gT rfl rfl ?_
                  refine TL.opP rfl (op_move rfl) ?_
                  first | refine TL.splitD (fun c8 => ?_) (fun c8 => ?_) | refine TL.splitB (fun c8 => ?_) (fun c8 => ?_)
                  · obtain ⟨b1', g1⟩ := hX.at_ (i := i + 1) (k := k) (by omega) (by omega) (.inl (Nat.zero_le _))
                    obtain ⟨b2', g2⟩ := hX.at_ (i := i) (k := k + 1) (by omega) (by omega) (.inl (Nat.zero_le _))
                    have hXl := hX.len
                    have hsq : (a.length + 1) * (b.length + 1) ≤ 1025 * 1025 := Nat.mul_le_mul (by omega) (by omega)
                    refine TL.gT rfl rfl ?_
                    refine TL.opP rfl (op_move rfl) ?_
                    refine TL.gT rfl rfl ?_
                    refine TL.opP rfl (op_move rfl) ?_
                    refine TL.gT rfl rfl ?_
                    refine TL.opP rfl (op_add rfl rfl rfl (by omega) (by omega)) ?_
                    refine TL.gT rfl rfl ?_
                    refine TL.opP rfl (op_move rfl) ?_
                    refine TL.gT rfl rfl ?_
                    refine TL.hp (fun _ h => h.pick2.pick2) ?_
                    refine TL.opX rfl (OpX.callX en_58 rfl (dat_x X (b.length + 1) (i + 1) (k) _ _ b1' (by omega))) ?_; rintro _ _ ⟨rfl, rfl⟩
                    refine TL.gT rfl rfl ?_
                    refine TL.opP rfl (op_move rfl) ?_
                    refine TL.gT rfl rfl ?_
                    refine TL.opP rfl (op_move rfl) ?_
                    refine TL.gT rfl rfl ?_
                    refine TL.opP rfl (op_move rfl) ?_
                    refine TL.gT rfl rfl ?_
                    refine TL.opP rfl (op_add rfl rfl rfl (by omega) (by omega)) ?_
                    refine TL.gT rfl rfl ?_
                    refine TL.opX rfl (OpX.callX en_58 rfl (dat_x X (b.length + 1) (i) (k + 1) _ _ b2' (by omega))) ?_; rintro _ _ ⟨rfl, rfl⟩
                    refine TL.gT rfl rfl ?_
                    refine TL.opP rfl (op_geq rfl rfl) ?_
                    refine TL.gT rfl rfl ?_
                    refine TL.opP rfl (op_pickT rfl rfl) ?_
                    refine TL.opP rfl (op_pickF rfl rfl) ?_
                    refine TL.opP rfl (op_assign rfl) ?_
                    refine TL.nil ?_
                    exact TQ.join1 ⟨rfl, rfl, rfl, rfl, rfl, rfl, gb rfl (by first | exact (decide_eq_true (by omega)).symm | exact (decide_eq_false (by omega)).symm | exact decide_eq_decide.2 (by omega) | exact decide_eq_decide.2 ⟨fun h => ⟨by omega, by omega, h⟩, fun h => h.2.2⟩), trivial⟩ (fun _ h => h.pick4.pick4.pick3.pick3.pick4)
                  · refine TL.gFf rfl rfl rfl ?_
                    refine TL.gFf rfl rfl rfl ?_
                    refine TL.gFf rfl rfl rfl ?_
                    refine TL.gFf rfl rfl rfl ?_
                    refine TL.gFf rfl rfl rfl ?_
                    refine TL.gFf rfl rfl rfl ?_
                    refine TL.gFf rfl rfl rfl ?_
                    refine TL.gFf rfl rfl rfl ?_
                    refine TL.gFf rfl rfl rfl ?_
                    refine TL.gFf rfl rfl rfl ?_
                    refine TL.gFf rfl rfl rfl ?_
                    refine TL.gT rfl rfl ?_
                    refine TL.opP rfl (op_pickF rfl rfl) ?_
                    refine TL.opP rfl (op_pickF rfl rfl) ?_
                    refine TL.opP rfl (op_assign rfl) ?_
                    refine TL.nil ?_
                    exact TQ.join1 ⟨rfl, rfl, rfl, rfl, rfl, rfl, gb rfl (by first | exact (decide_eq_true (by omega)).symm | exact (decide_eq_false (by omega)).symm | exact decide_eq_decide.2 (by omega) | exact decide_eq_decide.2 ⟨fun h => ⟨by omega, by omega, h⟩, fun h => h.2.2⟩), trivial⟩ (fun _ h => h)
              · first | refine TC.condD rfl (fun c9 => ?_) (fun c9 => ?_) | refine TC.condB rfl (fun c9 => ?_) (fun c9 => ?_)
                · refine TC.seq ?_
                  refine TC.region ?_   -- region 16 diff.go:85
                  refine TL.opP rfl (op_move rfl) ?_
                  refine TL.opP rfl (op_build (ps := #[(0, _), (1, _)]) rfl (bl_api_Part_01 _ _)) ?_
                  refine TL.opX rfl (OpX.buildSlice (ps := #[(0, _)]) rfl (bs_api_Part_1 drop1)) ?_; rintro _ _ ⟨g116, rfl, rfl⟩
                  refine TL.hp (fun _ h => blk_row (k := 3) (m := 1) h rfl (by decide)) ?_
                  refine TL.hp (fun _ h => h.pick1) ?_
                  refine TL.opX rfl (OpX.append (bytes := 32) tsl_api_Part (by decide) (by decide) rfl rw1 (encs_one _) (by simp only [List.length_cons]; omega) (zs := encs (keepP (n : Int) :: (ps ++ [drop1]))) (encs_append (keepP (n : Int) :: ps) [drop1]).symm) ?_; rintro v7 _ rfl
                  refine TL.know (fun _ h => row1 h) (fun o7 => ?_)
                  refine TL.hp (fun _ h => row_len3 h) ?_
                  refine TL.opP rfl (op_assign rfl) ?_
                  refine TL.nil ?_
                  refine TQ.then ?_
                  refine TC.region ?_   -- region 17 diff.go:86
                  refine TL.opP rfl (op_move rfl) ?_
                  refine TL.opP rfl (op_add rfl rfl rfl (by omega) (by omega)) ?_
                  refine TL.opP rfl (op_assign rfl) ?_
                  refine TL.nil ?_
                  refine TQ.block_normal ?_
                  refine TQ.block_normal ?_
                  exact TQ.round (i + 1, k, ps ++ [drop1], v7) (hI.drop (by omega) (by rcases c9 with h | h; exact .inl h; exact .inr ⟨fun w => c6 ⟨h.1, w.1, w.2⟩, h.2⟩)) (by dsimp only; omega) ⟨rfl, rfl, rfl, rfl, rfl, rfl, trivial⟩ (fun _ h => h.drop1)
                · refine TC.seq ?_
                  refine TC.region ?_   -- region 10 diff.go:88
                  refine TL.opP rfl (op_move rfl) ?_
                  refine TL.opP rfl (op_move rfl) ?_
                  refine TL.opP rfl (op_move rfl) ?_
                  refine TL.opV rfl (op_index tsl_int32 rfl rd4 rfl (by omega) (by omega)) ?_
                  refine TL.opV rfl (op_loadR ts_int32 rfl rd4 (lkM (i := k) (d := 0) (by omega) rfl (by omega))) ?_
                  refine TL.opP rfl (op_unrune1 rfl un_string rfl) ?_
                  refine TL.opP rfl (op_build (ps := #[(0, _), (1, _), (2, _)]) rfl (bl_api_Part_012 _ _ _)) ?_
                  refine TL.opX rfl (OpX.buildSlice (ps := #[(0, _)]) rfl (bs_api_Part_1 (put1 (b.getD k 0)))) ?_; rintro _ _ ⟨g56, rfl, rfl⟩
                  refine TL.hp (fun _ h => blk_row (k := 3) (m := 1) h rfl (by decide)) ?_
                  refine TL.hp (fun _ h => h.pick1) ?_
                  refine TL.opX rfl (OpX.append (bytes := 32) tsl_api_Part (by decide) (by decide) rfl rw1 (encs_one _) (by simp only [List.length_cons]; omega) (zs := encs (keepP (n : Int) :: (ps ++ [put1 (b.getD k 0)]))) (encs_append (keepP (n : Int) :: ps) [put1 (b.getD k 0)]).symm) ?_; rintro v8 _ rfl
                  refine TL.know (fun _ h => row1 h) (fun o8 => ?_)
                  refine TL.hp (fun _ h => row_len3 h) ?_
                  refine TL.opP rfl (op_assign rfl) ?_
                  refine TL.nil ?_
                  refine TQ.then ?_
                  refine TC.region ?_   -- region 11 diff.go:89
                  refine TL.opP rfl (op_move rfl) ?_
                  refine TL.opP rfl (op_add rfl rfl rfl (by omega) (by omega)) ?_
                  refine TL.opP rfl (op_assign rfl) ?_
                  refine TL.nil ?_
                  refine TQ.block_normal ?_
                  refine TQ.block_normal ?_
                  exact TQ.round (i, k + 1, ps ++ [put1 (b.getD k 0)], v8) (hI.put (by omega) (by rcases Nat.lt_or_ge i a.length with h | h; exact .inr ⟨fun w => c6 ⟨h, by omega, w⟩, fun w => c9 (.inr ⟨h, w⟩)⟩; exact .inl h)) (by dsimp only; omega) ⟨rfl, rfl, rfl, rfl, rfl, rfl, trivial⟩ (fun _ h => h.drop1)
        · have hres : normF (keepP (n : Int) :: ps) = diffF s t := by rw [hI.stop (by omega) (by omega)]; exact hnf
          refine TC.exit ?_
          refine TQ.then_exit ?_
          refine TQ.loop_exit ?_
          refine TQ.block_hit ?_
          refine TQ.then ?_
          refine TC.seq ?_
          refine TC.region ?_   -- region 18 diff.go:92
          refine TL.opP rfl (op_move rfl) ?_
          refine TL.opX rfl (OpX.callX en_59 rfl (norm_x (keepP (n : Int) :: ps) _ (fun p hp => by rcases List.mem_cons.1 hp with rfl | hp; (show (⟨#[]⟩ : ByteArray).size < _; decide); exact small_of (hI.fits hbs) p hp) (by simp only [List.length_cons]; omega) (.tail _ (.tail _ (.tail _ (.tail _ (.tail _ hT))))) rw0)) ?_; rintro w9 _ ⟨_, rfl, rfl⟩
          refine TL.opP rfl (op_assign rfl) ?_
          refine TL.opP rfl (op_assign rfl) ?_
          refine TL.nil ?_
          refine TQ.then ?_
          refine TC.ret ?_
          refine ret2 rfl rfl rfl (fun w' hp => ?_)
          first
            | exact ⟨_, _, rfl, ⟨.slice none 0 0, rfl, by rw [diffF_nz c1]; rfl⟩, new_nil _ 3 (hp.drop5.drop4.drop3.drop2.drop1)⟩
            | exact ⟨_, _, rfl, ⟨_, by rw [show diffE s t = 0 from hz], by rw [hres]⟩, (hp.drop5.drop4.drop3.drop2.drop1)⟩

theorem kept_x (s t : ByteArray) (hs : s.size ≤ 70368744177664) (ht : t.size ≤ 70368744177664) (hT : tabs ∈ L) :
    CallX Tryd.prog 28 [.string s, .string t] S w0 (L) (fun u L' => u = .tuple #[.int .i64 (keptF s t), .int .i64 (diffE s t)] ∧ L' = L) := by
  intro w hp
  refine calls_start Tryd.func28 rfl rfl rfl (hp) ?_
  refine TC.seq ?_
  refine TC.region ?_   -- region 0 diff.go:96
  refine TL.opP rfl (op_assign rfl) ?_
  refine TL.opP rfl (op_assign rfl) ?_
  refine TL.nil ?_
  refine TQ.then ?_
  refine TC.seq ?_
  refine TC.region ?_   -- region 1 diff.go:97
  refine TL.opP rfl (op_move rfl) ?_
  refine TL.opP rfl (op_move rfl) ?_
  refine TL.opX rfl (OpX.callX en_55 rfl (dpair_x s t (by omega) (by omega) hT)) ?_; rintro _ _ ⟨v11, v21, l11, l21, rfl, hl1, rfl⟩
  refine TL.opP rfl (op_move rfl) ?_
  refine TL.opP rfl (op_extract rfl rfl) ?_
  refine TL.opP rfl (op_extract rfl rfl) ?_
  refine TL.opP rfl (op_extract rfl rfl) ?_
  refine TL.opP rfl (op_assign rfl) ?_
  refine TL.opP rfl (op_assign rfl) ?_
  refine TL.opP rfl (op_assign rfl) ?_
  refine TL.nil ?_
  refine TQ.then ?_
  refine TC.seq ?_
  refine TC.seq ?_
  refine TC.region ?_   -- region 2 diff.go:98
  refine TL.opP rfl (op_move rfl) ?_
  refine TL.opP rfl (op_neq rfl rfl) ?_
  refine TL.nil ?_
  refine TQ.then ?_
  first | refine TC.condD rfl (fun c1 => ?_) (fun c1 => ?_) | refine TC.condB rfl (fun c1 => ?_) (fun c1 => ?_)
  · refine TC.seq ?_
    refine TC.region ?_   -- region 3 diff.go:99
    refine TL.opP rfl (op_move rfl) ?_
    refine TL.opP rfl (op_assign rfl) ?_
    refine TL.opP rfl (op_assign rfl) ?_
    refine TL.nil ?_
    refine TQ.then ?_
    refine TC.ret ?_
    refine TQ.then_ret ?_
    refine ret2 rfl rfl rfl (fun w' hp => ?_)
    first
      | exact ⟨_, _, rfl, ⟨by rw [show keptF s t = 0 from if_neg c1]; rfl, rfl⟩, (hp.drop1.tail)⟩
      | exact ⟨_, _, rfl, ⟨by rw [show diffE s t = 0 from hz, show keptF s t = _ from if_pos hz]; rfl, rfl⟩, (hp.drop1.tail)⟩
  · have hz : ck2 s t = 0 := by simpa using c1
    obtain ⟨rfl, rfl⟩ := hl1 hz
    obtain ⟨_, _, hdl1, hdl2, _, hbs0⟩ := diffE_z hz
    refine TC.skip ?_
    refine TQ.then ?_
    refine TC.seq ?_
    refine TC.region ?_   -- region 4 diff.go:101
    refine TL.opP rfl (op_move rfl) ?_
    refine TL.opV rfl (op_lenV rfl un_sl_int32 rfl rd1) ?_
    refine TL.opP rfl (op_add rfl rfl rfl (by omega) (by omega)) ?_
    refine TL.opX rfl (OpX.make (m := ((dec t).length + 1)) (zs := ((List.replicate ((dec t).length + 1) 0).map iv64)) tsl_int rfl rfl (by omega) (by decide) (by omega) (made_i64 _)) ?_; rintro v2 _ rfl
    refine TL.know (fun _ h => row1 h) (fun o2 => ?_)
    refine TL.hp (fun _ h => by rw [lrow_last (dec s)] at h; exact row_lenM h) ?_
    refine TL.opP rfl (op_assign rfl) ?_
    refine TL.nil ?_
    refine TQ.then ?_
    refine TC.seq ?_
    refine TC.seq ?_
    refine TC.region ?_   -- region 5 diff.go:102
    refine TL.opP rfl (op_move rfl) ?_
    refine TL.opV rfl (op_lenV rfl un_sl_int32 rfl rd1) ?_
    refine TL.opP rfl (op_sub rfl rfl rfl (by omega) (by omega)) ?_
    refine TL.opP rfl (op_assign rfl) ?_
    refine TL.nil ?_
    refine TQ.then ?_
    refine TC.block ?_
    refine TC.loop (ι := Nat × Value) (fun (m, av) => [(6, v11), (7, v21), (9, av), (10, .int .i64 ((m : Int) - 1))]) (fun (m, av) => .row av 3 1 (lrow (dec s) (dec t) m).length ((lrow (dec s) (dec t) m).map iv64) :: .rd v11 1 (dec s).length ((dec s).map (Value.int .i32)) :: .rd v21 1 (dec t).length ((dec t).map (Value.int .i32)) :: L) (fun (m, av) => m ≤ (dec s).length) (fun (m, av) => m) (((dec s).length, v2)) (Nat.le_refl _) ⟨rfl, rfl, rfl, rfl, trivial⟩ (fun _ h => h) ?_
    rintro ⟨m, av⟩ (hm : m ≤ (dec s).length)
    show TC _ _ _ _ [(6, v11), (7, v21), (9, av), (10, .int .i64 ((m : Int) - 1))] _ _ (.row av 3 1 (lrow (dec s) (dec t) m).length ((lrow (dec s) (dec t) m).map iv64) :: .rd v11 1 (dec s).length ((dec s).map (Value.int .i32)) :: .rd v21 1 (dec t).length ((dec t).map (Value.int .i32)) :: L)
    refine TC.seq ?_
    refine TC.seq ?_
    refine TC.region ?_   -- region 6 diff.go:102
    refine TL.opP rfl (op_move rfl) ?_
    refine TL.opP rfl (op_geq rfl rfl) ?_
    refine TL.nil ?_
    refine TQ.then ?_
    first | refine TC.condD rfl (fun c2 => ?_) (fun c2 => ?_) | refine TC.condB rfl (fun c2 => ?_) (fun c2 => ?_)
    · refine TC.re (t := 10) (v' := .int .i64 ((m - 1 : Nat) : Int)) rfl (ire (by omega)) ?_
      refine TC.skip ?_
      refine TQ.then ?_
      refine TC.seq ?_
      refine TC.block ?_
      refine TC.seq ?_
      refine TC.region ?_   -- region 8 diff.go:103
      refine TL.opP rfl (op_move rfl) ?_
      refine TL.opV rfl (op_lenV rfl un_sl_int32 rfl rd2) ?_
      refine TL.opP rfl (op_add rfl rfl rfl (by omega) (by omega)) ?_
      refine TL.opX rfl (OpX.make (m := ((dec t).length + 1)) (zs := ((List.replicate ((dec t).length + 1) 0).map iv64)) tsl_int rfl rfl (by omega) (by decide) (by omega) (made_i64 _)) ?_; rintro v3 _ rfl
      refine TL.know (fun _ h => row1 h) (fun o3 => ?_)
      refine TL.hp (fun _ h => row_lenM h) ?_
      refine TL.opP rfl (op_assign rfl) ?_
      refine TL.nil ?_
      refine TQ.then ?_
      refine TC.seq ?_
      refine TC.seq ?_
      refine TC.region ?_   -- region 9 diff.go:104
      refine TL.opP rfl (op_move rfl) ?_
      refine TL.opV rfl (op_lenV rfl un_sl_int32 rfl rd3) ?_
      refine TL.opP rfl (op_sub rfl rfl rfl (by omega) (by omega)) ?_
      refine TL.opP rfl (op_assign rfl) ?_
      refine TL.nil ?_
      refine TQ.then ?_
      refine TC.block ?_
      refine TC.loop (ι := Nat × List Nat) (fun (q, X) => [(6, v11), (7, v21), (9, av), (10, .int .i64 ((m - 1 : Nat) : Int)), (11, v3), (12, .int .i64 ((q : Int) - 1))]) (fun (q, X) => .row v3 3 1 (X).length ((X).map iv64) :: .row av 3 1 (lrow (dec s) (dec t) m).length ((lrow (dec s) (dec t) m).map iv64) :: .rd v11 1 (dec s).length ((dec s).map (Value.int .i32)) :: .rd v21 1 (dec t).length ((dec t).map (Value.int .i32)) :: L) (fun (q, X) => KI (dec s) (dec t) (m - 1) q X ∧ q ≤ (dec t).length) (fun (q, X) => q) (((dec t).length, List.replicate ((dec t).length + 1) 0)) (⟨KI.start _ _ _, Nat.le_refl _⟩) ⟨rfl, rfl, rfl, rfl, rfl, rfl, trivial⟩ (fun _ h => h) ?_
      rintro ⟨q, X⟩ ⟨hJ, hq⟩
      have hXl := hJ.len
      show TC _ _ _ _ [(6, v11), (7, v21), (9, av), (10, .int .i64 ((m - 1 : Nat) : Int)), (11, v3), (12, .int .i64 ((q : Int) - 1))] _ _ (.row v3 3 1 (X).length ((X).map iv64) :: .row av 3 1 (lrow (dec s) (dec t) m).length ((lrow (dec s) (dec t) m).map iv64) :: .rd v11 1 (dec s).length ((dec s).map (Value.int .i32)) :: .rd v21 1 (dec t).length ((dec t).map (Value.int .i32)) :: L)
      refine TC.seq ?_
      refine TC.seq ?_
      refine TC.region ?_   -- region 10 diff.go:104
      refine TL.opP rfl (op_move rfl) ?_
      refine TL.opP rfl (op_geq rfl rfl) ?_
      refine TL.nil ?_
      refine TQ.then ?_
      first | refine TC.condD rfl (fun c3 => ?_) (fun c3 => ?_) | refine TC.condB rfl (fun c3 => ?_) (fun c3 => ?_)
      · refine TC.re (t := 12) (v' := .int .i64 ((q - 1 : Nat) : Int)) rfl (ire (by omega)) ?_
        have hg1 := hJ.get hq (Nat.le_refl q)
        have hst := hJ.step (by omega) hq
        have hle1 := lc_le (dec s) (dec t) m q
        have hrec := lc_rec (a := dec s) (b := dec t) (i := m - 1) (k := q - 1) (by omega) (by omega)
        rw [show m - 1 + 1 = m by omega, show q - 1 + 1 = q by omega] at hrec
        refine TC.skip ?_
        refine TQ.then ?_
        refine TC.seq ?_
        refine TC.block ?_
        refine TC.seq ?_
        refine TC.draw [13] (.cons (.p, 0) (.cons (.p, 1) (.cons (.p, 2) (.cons (.p, 3) (.cons (.p, 6) (.cons (.p, 7) (.cons (.p, 8) (.cons (.t, 4) (.cons (.t, 5) (.cons (.t, 9) (.cons (.t, 10) (.cons (.p, 11) (.cons (.t, 12) (.cons (.z, 13) (.nil))))))))))))))) mo (by kernel_rfl) ?_   -- region 12 diff.go:105
        refine TR.p rfl rfl wt0 (op_move rfl) ?_
        refine TR.p rfl rfl wt0 (op_move rfl) ?_
        refine TR.p rfl rfl wt0 (op_move rfl) ?_
        refine TR.p rfl rfl wt0 (op_move rfl) ?_
        refine TR.p rfl rfl wt0 (op_move rfl) ?_
        refine TR.p rfl rfl wt0 (op_move rfl) ?_
        refine TR.p rfl rfl wt0 (op_add (r := ((q : Nat) : Int)) rfl rfl (by omega) (by omega) (by omega)) ?_
        refine TR.t rfl rfl wt0 (op_index tsl_int rfl rw1 rfl (by first | omega | (rw [lrow_len]; omega)) (by first | omega | (rw [lrow_len]; omega))) (fun _ h => h) ?_
        refine TR.t rfl rfl wt0 (op_loadR ts_int rfl rw1 (lkM (i := q - 1) (d := 0) (by rw [lrow_len]; omega) (lrow_get (by omega)) (by omega))) (fun _ h => h) ?_
        refine TR.t rfl rfl wt0 (op_index tsl_int rfl rw0 rfl (by omega) (by omega)) (fun _ h => h) ?_
        refine TR.t rfl rfl wt0 (op_loadR ts_int rfl rw0 (lkM (i := q) (d := 0) (by omega) hg1 (by omega))) (fun _ h => h) ?_
        refine TR.p rfl rfl wt0 (op_maxN rfl) ?_
        refine TR.t rfl rfl wt0 (op_index tsl_int rfl rw0 rfl (by omega) (by omega)) (fun _ h => h) ?_
        refine TR.z0 rfl wt0 (OpX.storeRow (k := 1) (fun w => by kernel_rfl) rfl rfl rfl (ys := [iv64 (max (lc (dec s) (dec t) m (q - 1)) (lc (dec s) (dec t) (m - 1) q))]) rfl (by decide) (List.all_eq_true.1 rfl) (by omega) (stM (i := q - 1) (by omega) (by omega))) ?_; rintro _ _ rfl
        refine TR.hp (fun _ h => row_lenM h) ?_
        refine TR.nil ?_
        refine TQ.then ?_
        refine TC.seq ?_
        refine TC.draw [] (.cons (.p, 0) (.cons (.p, 1) (.cons (.p, 4) (.cons (.p, 5) (.cons (.t, 2) (.cons (.t, 3) (.cons (.t, 6) (.cons (.t, 7) (.cons (.p, 8) (.nil)))))))))) mo (by kernel_rfl) ?_   -- region 13 diff.go:106
        refine TR.p rfl rfl wt0 (op_move rfl) ?_
        refine TR.p rfl rfl wt0 (op_move rfl) ?_
        refine TR.p rfl rfl wt0 (op_move rfl) ?_
        refine TR.p rfl rfl wt0 (op_move rfl) ?_
        refine TR.t rfl rfl wt0 (op_index tsl_int32 rfl rd2 rfl (by omega) (by omega)) (fun _ h => h) ?_
        refine TR.t rfl rfl wt0 (op_loadR ts_int32 rfl rd2 (lkM (i := m - 1) (d := 0) (by omega) rfl (by omega))) (fun _ h => h) ?_
        refine TR.t rfl rfl wt0 (op_index tsl_int32 rfl rd3 rfl (by omega) (by omega)) (fun _ h => h) ?_
        refine TR.t rfl rfl wt0 (op_loadR ts_int32 rfl rd3 (lkM (i := q - 1) (d := 0) (by omega) rfl (by omega))) (fun _ h => h) ?_
        refine TR.p rfl rfl wt0 (op_eql rfl rfl) ?_
        refine TR.nil ?_
        refine TQ.then ?_
        first | refine TC.condD rfl (fun c4 => ?_) (fun c4 => ?_) | refine TC.condB rfl (fun c4 => ?_) (fun c4 => ?_)
        · refine TC.region ?_   -- region 14 diff.go:107
          refine TL.opP rfl (op_move rfl) ?_
          refine TL.opP rfl (op_move rfl) ?_
          refine TL.opP rfl (op_move rfl) ?_
          refine TL.opP rfl (op_move rfl) ?_
          refine TL.opP rfl (op_add (r := ((q : Nat) : Int)) rfl rfl (by omega) (by omega) (by omega)) ?_
          refine TL.opV rfl (op_index tsl_int rfl rw1 rfl (by first | omega | (rw [lrow_len]; omega)) (by first | omega | (rw [lrow_len]; omega))) ?_
          refine TL.opV rfl (op_loadR ts_int rfl rw1 (lkM (i := q) (d := 0) (by rw [lrow_len]; omega) (lrow_get hq) (by omega))) ?_
          refine TL.opP rfl (op_add (r := ((lc (dec s) (dec t) m q + 1 : Nat) : Int)) rfl rfl rfl (by omega) (by omega)) ?_
          refine TL.opV rfl (op_index tsl_int rfl rw0 rfl (by first | omega | (rw [List.length_set]; omega)) (by first | omega | (rw [List.length_set]; omega))) ?_
          refine TL.opX0 (OpX.storeRow (k := 1) (fun w => by kernel_rfl) rfl rfl rfl (ys := [iv64 (lc (dec s) (dec t) m q + 1)]) rfl (by decide) (List.all_eq_true.1 rfl) (by rw [List.length_set]; omega) (stM (i := q - 1) (by rw [List.length_set]; omega) (by omega))) ?_; rintro _ _ rfl
          refine TL.hp (fun _ h => row_lenM h) ?_
          refine TL.nil ?_
          refine TQ.block_normal ?_
          refine TQ.then ?_
          refine TC.region ?_   -- region 11 diff.go:104
          refine TL.opP rfl (op_move rfl) ?_
          refine TL.opP rfl (op_sub rfl rfl rfl (by omega) (by omega)) ?_
          refine TL.opP rfl (op_assign rfl) ?_
          refine TL.nil ?_
          exact TQ.round (q - 1, (X.set (q - 1) (max (lc (dec s) (dec t) m (q - 1)) (lc (dec s) (dec t) (m - 1) q))).set (q - 1) (lc (dec s) (dec t) m q + 1)) (⟨by rw [List.set_set]; rw [hrec, if_pos c4] at hst; exact hst, by show q - 1 ≤ _; omega⟩) (by show q - 1 < q; omega) ⟨rfl, rfl, rfl, rfl, rfl, gi rfl (by omega), trivial⟩ (fun _ h => h)
        · refine TC.skip ?_
          refine TQ.block_normal ?_
          refine TQ.then ?_
          refine TC.region ?_   -- region 11 diff.go:104
          refine TL.opP rfl (op_move rfl) ?_
          refine TL.opP rfl (op_sub rfl rfl rfl (by omega) (by omega)) ?_
          refine TL.opP rfl (op_assign rfl) ?_
          refine TL.nil ?_
          exact TQ.round (q - 1, X.set (q - 1) (max (lc (dec s) (dec t) m (q - 1)) (lc (dec s) (dec t) (m - 1) q))) (⟨by rw [hrec, if_neg c4] at hst; exact hst, by show q - 1 ≤ _; omega⟩) (by show q - 1 < q; omega) ⟨rfl, rfl, rfl, rfl, rfl, gi rfl (by omega), trivial⟩ (fun _ h => h)
      · obtain rfl : q = 0 := by omega
        obtain rfl := hJ.stop
        refine TC.exit ?_
        refine TQ.then_exit ?_
        refine TQ.loop_exit ?_
        refine TQ.block_hit ?_
        refine TQ.then ?_
        refine TC.region ?_   -- region 15 diff.go:110
        refine TL.opP rfl (op_move rfl) ?_
        refine TL.opP rfl (op_assign rfl) ?_
        refine TL.nil ?_
        refine TQ.block_normal ?_
        refine TQ.then ?_
        refine TC.region ?_   -- region 7 diff.go:102
        refine TL.opP rfl (op_move rfl) ?_
        refine TL.opP rfl (op_sub rfl rfl rfl (by omega) (by omega)) ?_
        refine TL.opP rfl (op_assign rfl) ?_
        refine TL.nil ?_
        exact TQ.round (m - 1, v3) (by show m - 1 ≤ _; omega) (by show m - 1 < m; omega) ⟨rfl, rfl, rfl, gi rfl (by omega), trivial⟩ (fun _ h => h.drop1)
    · obtain rfl : m = 0 := by omega
      refine TC.exit ?_
      refine TQ.then_exit ?_
      refine TQ.loop_exit ?_
      refine TQ.block_hit ?_
      refine TQ.then ?_
      refine TC.seq ?_
      refine TC.region ?_   -- region 16 diff.go:112
      refine TL.opP rfl (op_move rfl) ?_
      refine TL.opV rfl (op_index tsl_int rfl rw0 rfl (by first | omega | (rw [lrow_len]; omega)) (by first | omega | (rw [lrow_len]; omega))) ?_
      refine TL.opV rfl (op_loadR ts_int rfl rw0 (lkM (i := 0) (d := 0) (by rw [lrow_len]; omega) (lrow_get (Nat.zero_le _)) (by omega))) ?_
      refine TL.opP rfl (op_assign rfl) ?_
      refine TL.opP rfl (op_assign rfl) ?_
      refine TL.nil ?_
      refine TQ.then ?_
      refine TC.ret ?_
      refine ret2 rfl rfl rfl (fun w' hp => ?_)
      first
        | exact ⟨_, _, rfl, ⟨by rw [show keptF s t = 0 from if_neg c1]; rfl, rfl⟩, (hp.drop2.drop1.tail)⟩
        | exact ⟨_, _, rfl, ⟨by rw [show diffE s t = 0 from hz, show keptF s t = _ from if_pos hz]; rfl, rfl⟩, (hp.drop2.drop1.tail)⟩

end Go.SK
