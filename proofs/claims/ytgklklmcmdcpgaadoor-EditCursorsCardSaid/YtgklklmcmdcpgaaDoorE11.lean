/- Walks: the laws' guards, and two functions of the library. -/
import Derived.Test.YtgklklmcmdcpgaaDoorE10
import Derived.Test.YtgklklmcmdcpgaaDoorP8
set_option linter.unusedVariables false
set_option linter.unusedSimpArgs false
set_option maxRecDepth 100000
namespace Go.SK
open Go Go.RowKit Go.Proofs
variable {S : Nat → Prop} {w0 : World} {F L : List Res}
theorem eq_nil_parts (m : Nat) (A : Option Addr) (c : Nat) (w : World) : (binOp .eql 23 (.slice A m c) (.slice none 0 0)).run Tryd.prog w = .ok (.bool (decide (A = none))) w := by
  cases A with
  | none => kernel_rfl
  | some a => kernel_rfl
theorem light_x (es : List (Value × List Part)) (vo : Value) (ho : Rdb L vo 1 es.length (es.map (·.1))) (hr : ∀ x ∈ es, Rdb L x.1 3 x.2.length (encs x.2)) :
    CallX Tryd.prog 26 [vo] S w0 (L) (fun u L' => ∃ b, u = .bool b ∧ (b = true → (∀ x ∈ es, Light x.2) ∧ lsum es ≤ 4096) ∧ L' = L) := by
  intro w hp
  have hlen := ho.lenLe hp
  refine calls_start Tryd.func26 rfl rfl rfl (hp) ?_
  refine TC.seq ?_
  refine TC.region ?_   -- region 0 law.go:21
  refine TL.opP rfl (op_assign rfl) ?_
  refine TL.nil ?_
  refine TQ.then ?_
  refine TC.seq ?_
  refine TC.region ?_   -- region 1 law.go:22
  refine TL.opP rfl (op_assign rfl) ?_
  refine TL.nil ?_
  refine TQ.then ?_
  refine TC.seq ?_
  refine TC.seq ?_
  refine TC.region ?_   -- region 2 law.go:23
  refine TL.opP rfl (op_move rfl) ?_
  refine TL.opV rfl (op_lenV rfl un_sl_sl_api_Part rfl ho) ?_
  refine TL.opP rfl (op_move rfl) ?_
  refine TL.nil ?_
  refine TQ.then ?_
  refine TC.block ?_
  refine TC.loop (ι := Nat × Int) (fun (k, n) => [(7, vo), (8, .int .i64 (es.length : Int)), (9, .int .i64 (k : Int)), (3, .int .i64 n)]) (fun (k, n) => L) (fun (k, n) => LInv es k n) (fun (k, n) => es.length - k) ((0, 0)) (LInv.start es) ⟨rfl, rfl, rfl, rfl, trivial⟩ (fun _ h => h) ?_
  rintro ⟨k, n⟩ (hI : LInv es k n)
  have hk := hI.kle
  have hn0 := hI.n0
  have hn1 := hI.n1
  show TC _ _ _ _ [(7, vo), (8, .int .i64 (es.length : Int)), (9, .int .i64 (k : Int)), (3, .int .i64 n)] _ _ (L)
  refine TC.seq ?_
  refine TC.region ?_   -- region 3 law.go:23
  refine TL.opP rfl (op_lss rfl rfl) ?_
  refine TL.nil ?_
  refine TQ.then ?_
  refine TC.seq ?_
  first | refine TC.condD rfl (fun c1 => ?_) (fun c1 => ?_) | refine TC.condB rfl (fun c1 => ?_) (fun c1 => ?_)
  · have hkl : k < es.length := by omega
    obtain ⟨x, hxk⟩ : ∃ x, es.getD k default = x := ⟨_, rfl⟩
    have he := hr x (getD_mem hkl hxk)
    refine TC.skip ?_
    refine TQ.then ?_
    refine TC.seq ?_
    refine TC.block ?_
    refine TC.seq ?_
    refine TC.region ?_   -- region 4 law.go:23
    refine TL.opV rfl (op_index tsl_sl_api_Part rfl ho rfl (by omega) (by omega)) ?_
    refine TL.opV rfl (op_loadR ts_sl_api_Part rfl ho (lkV hkl hxk (by omega))) ?_
    refine TL.know (fun _ h => he.lenLe h) (fun hxl0 => ?_)
    refine TL.opP rfl (op_assign rfl) ?_
    refine TL.nil ?_
    refine TQ.then ?_
    refine TC.seq ?_
    refine TC.seq ?_
    refine TC.region ?_   -- region 5 law.go:24
    refine TL.opP rfl (op_assign rfl) ?_
    refine TL.nil ?_
    refine TQ.then ?_
    refine TC.block ?_
    refine TC.loop (ι := Nat × Int) (fun (i, n') => [(7, vo), (8, .int .i64 (es.length : Int)), (9, .int .i64 (k : Int)), (3, .int .i64 n'), (5, x.1), (6, .int .i64 (i : Int))]) (fun (i, n') => L) (fun (i, n') => LIn x.2 n i n') (fun (i, n') => x.2.length - i) ((0, n)) (LIn.start x.2 hn1) ⟨rfl, rfl, rfl, rfl, rfl, rfl, trivial⟩ (fun _ h => h) ?_
    rintro ⟨i, n'⟩ (hJ : LIn x.2 n i n')
    have hil := hJ.ile
    have hm0 := hJ.m0
    have hm1 := hJ.m1
    have hxl : x.2.length ≤ 9223372036854775807 := hxl0
    show TC _ _ _ _ [(7, vo), (8, .int .i64 (es.length : Int)), (9, .int .i64 (k : Int)), (3, .int .i64 n'), (5, x.1), (6, .int .i64 (i : Int))] _ _ (L)
    refine TC.seq ?_
    refine TC.seq ?_
    refine TC.region ?_   -- region 6 law.go:24
    refine TL.opP rfl (op_move rfl) ?_
    refine TL.opP rfl (op_move rfl) ?_
    refine TL.opV rfl (op_lenV rfl un_sl_api_Part rfl he) ?_
    refine TL.opP rfl (op_lss rfl rfl) ?_
    refine TL.opP rfl (op_move rfl) ?_
    first | refine TL.splitD (fun c2 => ?_) (fun c2 => ?_) | refine TL.splitB (fun c2 => ?_) (fun c2 => ?_)
    · refine TL.gT rfl rfl ?_
      refine TL.opP rfl (op_move rfl) ?_
      refine TL.gT rfl rfl ?_
      refine TL.opP rfl (op_leq rfl rfl) ?_
      refine TL.opP rfl (op_pickT rfl rfl) ?_
      refine TL.opP rfl (op_move rfl) ?_
      first | refine TL.splitD (fun c3 => ?_) (fun c3 => ?_) | refine TL.splitB (fun c3 => ?_) (fun c3 => ?_)
      · refine TL.gT rfl rfl ?_
        refine TL.opP rfl (op_move rfl) ?_
        refine TL.gT rfl rfl ?_
        refine TL.opP rfl (op_leq rfl rfl) ?_
        refine TL.opP rfl (op_pickT rfl rfl) ?_
        refine TL.nil ?_
        refine TQ.then ?_
        first | refine TC.condD rfl (fun c4 => ?_) (fun c4 => ?_) | refine TC.condB rfl (fun c4 => ?_) (fun c4 => ?_)
        · have hi : i < x.2.length := by omega
          obtain ⟨p, hpk⟩ : ∃ p, x.2.getD i default = p := ⟨_, rfl⟩
          have hmn := minI_le (p.text.size : Int) 4096
          refine TC.skip ?_
          refine TQ.then ?_
          refine TC.seq ?_
          refine TC.block ?_
          refine TC.region ?_   -- region 8 law.go:25
          refine TL.opP rfl (op_move rfl) ?_
          refine TL.opP rfl (op_move rfl) ?_
          refine TL.opP rfl (op_move rfl) ?_
          refine TL.opV rfl (op_index tsl_api_Part rfl he rfl (by omega) (by omega)) ?_
          refine TL.opP rfl (op_fieldA fld_api_Part_Text rfl) ?_
          refine TL.opV rfl (op_loadR ts_string rfl he (lkP 2 hi hpk (by omega) (by decide) rfl)) ?_
          refine TL.opP rfl (op_slen rfl un_string rfl) ?_
          refine TL.opP rfl (op_min rfl) ?_
          refine TL.opP rfl (op_add rfl rfl rfl (by first | omega | (show _ ≤ n' + minI (p.text.size : Int) 4096; omega) | (show n' + minI (p.text.size : Int) 4096 ≤ _; omega)) (by first | omega | (show _ ≤ n' + minI (p.text.size : Int) 4096; omega) | (show n' + minI (p.text.size : Int) 4096 ≤ _; omega))) ?_
          refine TL.opP rfl (op_assign rfl) ?_
          refine TL.nil ?_
          refine TQ.block_normal ?_
          refine TQ.then ?_
          refine TC.region ?_   -- region 7 law.go:24
          refine TL.opP rfl (op_move rfl) ?_
          refine TL.opP rfl (op_add rfl rfl rfl (by first | omega | (show _ ≤ n' + minI (p.text.size : Int) 4096; omega) | (show n' + minI (p.text.size : Int) 4096 ≤ _; omega)) (by first | omega | (show _ ≤ n' + minI (p.text.size : Int) 4096; omega) | (show n' + minI (p.text.size : Int) 4096 ≤ _; omega))) ?_
          refine TL.opP rfl (op_assign rfl) ?_
          refine TL.nil ?_
          exact TQ.round (i + 1, n' + minI p.text.size 4096) (hJ.step hi hpk (by omega)) (by show _ - (i + 1) < _ - i; omega) ⟨rfl, rfl, rfl, rfl, rfl, rfl, trivial⟩ (fun _ h => h)
        · refine TC.exit ?_
          refine TQ.then_exit ?_
          refine TQ.loop_exit ?_
          refine TQ.block_hit ?_
          refine TQ.then ?_
          refine TC.seq ?_
          refine TC.region ?_   -- region 9 law.go:27
          refine TL.opP rfl (op_move rfl) ?_
          refine TL.opV rfl (op_lenV rfl un_sl_api_Part rfl he) ?_
          refine TL.opP rfl (op_gtr rfl rfl) ?_
          refine TL.nil ?_
          refine TQ.then ?_
          first | refine TC.condD rfl (fun c5 => ?_) (fun c5 => ?_) | refine TC.condB rfl (fun c5 => ?_) (fun c5 => ?_)
          · refine TC.seq ?_
            refine TC.region ?_   -- region 10 law.go:28
            refine TL.opP rfl (op_assign rfl) ?_
            refine TL.nil ?_
            refine TQ.then ?_
            refine TC.ret ?_
            refine TQ.block_ret ?_
            refine TQ.then_ret ?_
            refine TQ.loop_ret ?_
            refine TQ.block_ret ?_
            refine TQ.then_ret ?_
            refine ret1 rfl rfl (fun w' hp => ?_)
            first
              | exact ⟨_, _, rfl, ⟨_, rfl, fun h => absurd h (by decide), rfl⟩, (hp)⟩
              | exact ⟨_, _, rfl, ⟨_, rfl, fun h => hI.stop (by omega) (by simpa using h), rfl⟩, (hp)⟩
          · refine TC.skip ?_
            refine TQ.block_normal ?_
            refine TQ.then ?_
            refine TC.region ?_   -- region 11 law.go:23
            refine TL.opP rfl (op_add rfl rfl rfl (by first | omega | (show _ ≤ n' + minI (p.text.size : Int) 4096; omega) | (show n' + minI (p.text.size : Int) 4096 ≤ _; omega)) (by first | omega | (show _ ≤ n' + minI (p.text.size : Int) 4096; omega) | (show n' + minI (p.text.size : Int) 4096 ≤ _; omega))) ?_
            refine TL.opP rfl (op_move rfl) ?_
            refine TL.nil ?_
            exact TQ.round (k + 1, n') (hI.step hkl (by rw [hxk]; exact hJ) (by rw [hxk]; omega) (by rw [hxk]; intro hn4; omega)) (by show _ - (k + 1) < _ - k; omega) ⟨rfl, rfl, rfl, rfl, trivial⟩ (fun _ h => h)
      · refine TL.gFf rfl rfl rfl ?_
        refine TL.gFf rfl rfl rfl ?_
        refine TL.opP rfl (op_pickF rfl rfl) ?_
        refine TL.nil ?_
        refine TQ.then ?_
        refine TC.condF rfl ?_
        refine TC.exit ?_
        refine TQ.then_exit ?_
        refine TQ.loop_exit ?_
        refine TQ.block_hit ?_
        refine TQ.then ?_
        refine TC.seq ?_
        refine TC.region ?_   -- region 9 law.go:27
        refine TL.opP rfl (op_move rfl) ?_
        refine TL.opV rfl (op_lenV rfl un_sl_api_Part rfl he) ?_
        refine TL.opP rfl (op_gtr rfl rfl) ?_
        refine TL.nil ?_
        refine TQ.then ?_
        first | refine TC.condD rfl (fun c6 => ?_) (fun c6 => ?_) | refine TC.condB rfl (fun c6 => ?_) (fun c6 => ?_)
        · refine TC.seq ?_
          refine TC.region ?_   -- region 10 law.go:28
          refine TL.opP rfl (op_assign rfl) ?_
          refine TL.nil ?_
          refine TQ.then ?_
          refine TC.ret ?_
          refine TQ.block_ret ?_
          refine TQ.then_ret ?_
          refine TQ.loop_ret ?_
          refine TQ.block_ret ?_
          refine TQ.then_ret ?_
          refine ret1 rfl rfl (fun w' hp => ?_)
          first
            | exact ⟨_, _, rfl, ⟨_, rfl, fun h => absurd h (by decide), rfl⟩, (hp)⟩
            | exact ⟨_, _, rfl, ⟨_, rfl, fun h => hI.stop (by omega) (by simpa using h), rfl⟩, (hp)⟩
        · refine TC.skip ?_
          refine TQ.block_normal ?_
          refine TQ.then ?_
          refine TC.region ?_   -- region 11 law.go:23
          refine TL.opP rfl (op_add rfl rfl rfl (by first | omega | (show _ ≤ n' + minI (p.text.size : Int) 4096; omega) | (show n' + minI (p.text.size : Int) 4096 ≤ _; omega)) (by first | omega | (show _ ≤ n' + minI (p.text.size : Int) 4096; omega) | (show n' + minI (p.text.size : Int) 4096 ≤ _; omega))) ?_
          refine TL.opP rfl (op_move rfl) ?_
          refine TL.nil ?_
          exact TQ.round (k + 1, n') (hI.step hkl (by rw [hxk]; exact hJ) (by rw [hxk]; omega) (by rw [hxk]; intro hn4; omega)) (by show _ - (k + 1) < _ - k; omega) ⟨rfl, rfl, rfl, rfl, trivial⟩ (fun _ h => h)
    · refine TL.gFf rfl rfl rfl ?_
      refine TL.gFf rfl rfl rfl ?_
      refine TL.opP rfl (op_pickF rfl rfl) ?_
      refine TL.opP rfl (op_move rfl) ?_
      refine TL.gFf rfl rfl rfl ?_
      refine TL.gFf rfl rfl rfl ?_
      refine TL.opP rfl (op_pickF rfl rfl) ?_
      refine TL.nil ?_
      refine TQ.then ?_
      refine TC.condF rfl ?_
      refine TC.exit ?_
      refine TQ.then_exit ?_
      refine TQ.loop_exit ?_
      refine TQ.block_hit ?_
      refine TQ.then ?_
      refine TC.seq ?_
      refine TC.region ?_   -- region 9 law.go:27
      refine TL.opP rfl (op_move rfl) ?_
      refine TL.opV rfl (op_lenV rfl un_sl_api_Part rfl he) ?_
      refine TL.opP rfl (op_gtr rfl rfl) ?_
      refine TL.nil ?_
      refine TQ.then ?_
      first | refine TC.condD rfl (fun c7 => ?_) (fun c7 => ?_) | refine TC.condB rfl (fun c7 => ?_) (fun c7 => ?_)
      · refine TC.seq ?_
        refine TC.region ?_   -- region 10 law.go:28
        refine TL.opP rfl (op_assign rfl) ?_
        refine TL.nil ?_
        refine TQ.then ?_
        refine TC.ret ?_
        refine TQ.block_ret ?_
        refine TQ.then_ret ?_
        refine TQ.loop_ret ?_
        refine TQ.block_ret ?_
        refine TQ.then_ret ?_
        refine ret1 rfl rfl (fun w' hp => ?_)
        first
          | exact ⟨_, _, rfl, ⟨_, rfl, fun h => absurd h (by decide), rfl⟩, (hp)⟩
          | exact ⟨_, _, rfl, ⟨_, rfl, fun h => hI.stop (by omega) (by simpa using h), rfl⟩, (hp)⟩
      · refine TC.skip ?_
        refine TQ.block_normal ?_
        refine TQ.then ?_
        refine TC.region ?_   -- region 11 law.go:23
        refine TL.opP rfl (op_add rfl rfl rfl (by first | omega | (show _ ≤ n' + minI (p.text.size : Int) 4096; omega) | (show n' + minI (p.text.size : Int) 4096 ≤ _; omega)) (by first | omega | (show _ ≤ n' + minI (p.text.size : Int) 4096; omega) | (show n' + minI (p.text.size : Int) 4096 ≤ _; omega))) ?_
        refine TL.opP rfl (op_move rfl) ?_
        refine TL.nil ?_
        exact TQ.round (k + 1, n') (hI.step hkl (by rw [hxk]; exact hJ) (by rw [hxk]; omega) (by rw [hxk]; intro hn4; omega)) (by show _ - (k + 1) < _ - k; omega) ⟨rfl, rfl, rfl, rfl, trivial⟩ (fun _ h => h)
  · refine TC.exit ?_
    refine TQ.then_exit ?_
    refine TQ.loop_exit ?_
    refine TQ.block_hit ?_
    refine TQ.then ?_
    refine TC.seq ?_
    refine TC.region ?_   -- region 12 law.go:31
    refine TL.opP rfl (op_move rfl) ?_
    refine TL.opP rfl (op_leq rfl rfl) ?_
    refine TL.opP rfl (op_assign rfl) ?_
    refine TL.nil ?_
    refine TQ.then ?_
    refine TC.ret ?_
    refine ret1 rfl rfl (fun w' hp => ?_)
    first
      | exact ⟨_, _, rfl, ⟨_, rfl, fun h => absurd h (by decide), rfl⟩, (hp)⟩
      | exact ⟨_, _, rfl, ⟨_, rfl, fun h => hI.stop (by omega) (by simpa using h), rfl⟩, (hp)⟩

theorem narrow_x (es : List (Value × List Part)) (vo : Value) (ho : Rdb L vo 1 es.length (es.map (·.1))) (hr : ∀ x ∈ es, Rdb L x.1 3 x.2.length (encs x.2)) (hs : ∀ x ∈ es, small x.2) :
    CallX Tryd.prog 38 [vo] S w0 (L) (fun u L' => ∃ b, u = .bool b ∧ (b = true → ∀ x ∈ es, Light x.2 ∧ Narrow x.2) ∧ L' = L) := by
  intro w hp
  have hlen := ho.lenLe hp
  refine calls_start Tryd.func38 rfl rfl rfl (hp) ?_
  refine TC.seq ?_
  refine TC.region ?_   -- region 0 law.go:35
  refine TL.opP rfl (op_assign rfl) ?_
  refine TL.nil ?_
  refine TQ.then ?_
  refine TC.seq ?_
  refine TC.seq ?_
  refine TC.region ?_   -- region 1 law.go:36
  refine TL.opP rfl (op_move rfl) ?_
  refine TL.opV rfl (op_lenV rfl un_sl_sl_api_Part rfl ho) ?_
  refine TL.opP rfl (op_move rfl) ?_
  refine TL.nil ?_
  refine TQ.then ?_
  refine TC.block ?_
  refine TC.loop (ι := Nat) (fun k => [(0, vo), (8, vo), (9, .int .i64 (es.length : Int)), (10, .int .i64 (k : Int))]) (fun k => L) (fun k => k ≤ es.length ∧ ∀ j, j < k → Narrow (es.getD j default).2) (fun k => es.length - k) (0) (⟨Nat.zero_le _, fun j h => by omega⟩) ⟨rfl, rfl, rfl, rfl, trivial⟩ (fun _ h => h) ?_
  rintro k hI
  have hk := hI.1
  refine TC.seq ?_
  refine TC.region ?_   -- region 2 law.go:36
  refine TL.opP rfl (op_lss rfl rfl) ?_
  refine TL.nil ?_
  refine TQ.then ?_
  refine TC.seq ?_
  first | refine TC.condD rfl (fun c1 => ?_) (fun c1 => ?_) | refine TC.condB rfl (fun c1 => ?_) (fun c1 => ?_)
  · have hkl : k < es.length := by omega
    obtain ⟨x, hxk⟩ : ∃ x, es.getD k default = x := ⟨_, rfl⟩
    have he := hr x (getD_mem hkl hxk)
    refine TC.skip ?_
    refine TQ.then ?_
    refine TC.seq ?_
    refine TC.block ?_
    refine TC.seq ?_
    refine TC.region ?_   -- region 3 law.go:36
    refine TL.opV rfl (op_index tsl_sl_api_Part rfl ho rfl (by omega) (by omega)) ?_
    refine TL.opV rfl (op_loadR ts_sl_api_Part rfl ho (lkV hkl hxk (by omega))) ?_
    refine TL.opP rfl (op_assign rfl) ?_
    refine TL.nil ?_
    refine TQ.then ?_
    refine TC.seq ?_
    refine TC.region ?_   -- region 4 law.go:37
    refine TL.opP rfl (op_move rfl) ?_
    refine TL.callq rfl en_28 rfl (fun w2 hp => rsize_calls x.2 x.1 w2 (hs x (getD_mem hkl hxk)) (he _ _ _ hp)) ?_
    refine TL.opP rfl (op_move rfl) ?_
    refine TL.opP rfl (op_extract rfl rfl) ?_
    refine TL.opP rfl (op_extract rfl rfl) ?_
    refine TL.opP rfl (op_extract rfl rfl) ?_
    refine TL.opP rfl (op_assign rfl) ?_
    refine TL.opP rfl (op_assign rfl) ?_
    refine TL.opP rfl (op_assign rfl) ?_
    refine TL.nil ?_
    refine TQ.then ?_
    refine TC.seq ?_
    refine TC.region ?_   -- region 5 law.go:38
    refine TL.opP rfl (op_move rfl) ?_
    refine TL.opP rfl (op_eql rfl rfl) ?_
    refine TL.opP rfl (op_move rfl) ?_
    first | refine TL.splitD (fun c2 => ?_) (fun c2 => ?_) | refine TL.splitB (fun c2 => ?_) (fun c2 => ?_)
    · refine TL.gT rfl rfl ?_
      refine TL.opP rfl (op_move rfl) ?_
      refine TL.gT rfl rfl ?_
      refine TL.opP rfl (op_gtr rfl rfl) ?_
      refine TL.gT rfl rfl ?_
      refine TL.opP rfl (op_move rfl) ?_
      first | refine TL.splitD (fun c3 => ?_) (fun c3 => ?_) | refine TL.splitB (fun c3 => ?_) (fun c3 => ?_)
      · refine TL.gFt rfl rfl rfl ?_
        refine TL.gFt rfl rfl rfl ?_
        refine TL.gT rfl rfl ?_
        refine TL.opP rfl (op_pickT rfl rfl) ?_
        refine TL.opP rfl (op_pickT rfl rfl) ?_
        refine TL.nil ?_
        refine TQ.then ?_
        refine TC.condT rfl ?_
        refine TC.seq ?_
        refine TC.region ?_   -- region 6 law.go:39
        refine TL.opP rfl (op_assign rfl) ?_
        refine TL.nil ?_
        refine TQ.then ?_
        refine TC.ret ?_
        refine TQ.block_ret ?_
        refine TQ.then_ret ?_
        refine TQ.loop_ret ?_
        refine TQ.block_ret ?_
        refine TQ.then_ret ?_
        refine ret1 rfl rfl (fun w' hp => ?_)
        first
          | exact ⟨_, _, rfl, ⟨_, rfl, fun h => absurd h (by decide), rfl⟩, (hp)⟩
          | exact ⟨_, _, rfl, ⟨_, rfl, fun h x hx => ⟨(«hb?» h).1 x hx, narrow_all hI.2 (by omega) x hx⟩, rfl⟩, (hp)⟩
      · refine TL.gT rfl rfl ?_
        refine TL.opP rfl (op_move rfl) ?_
        refine TL.gT rfl rfl ?_
        refine TL.opP rfl (op_gtr rfl rfl) ?_
        refine TL.gT rfl rfl ?_
        refine TL.opP rfl (op_pickF rfl rfl) ?_
        refine TL.opP rfl (op_pickT rfl rfl) ?_
        refine TL.nil ?_
        refine TQ.then ?_
        first | refine TC.condD rfl (fun c4 => ?_) (fun c4 => ?_) | refine TC.condB rfl (fun c4 => ?_) (fun c4 => ?_)
        · refine TC.seq ?_
          refine TC.region ?_   -- region 6 law.go:39
          refine TL.opP rfl (op_assign rfl) ?_
          refine TL.nil ?_
          refine TQ.then ?_
          refine TC.ret ?_
          refine TQ.block_ret ?_
          refine TQ.then_ret ?_
          refine TQ.loop_ret ?_
          refine TQ.block_ret ?_
          refine TQ.then_ret ?_
          refine ret1 rfl rfl (fun w' hp => ?_)
          first
            | exact ⟨_, _, rfl, ⟨_, rfl, fun h => absurd h (by decide), rfl⟩, (hp)⟩
            | exact ⟨_, _, rfl, ⟨_, rfl, fun h x hx => ⟨(«hb?» h).1 x hx, narrow_all hI.2 (by omega) x hx⟩, rfl⟩, (hp)⟩
        · refine TC.skip ?_
          refine TQ.block_normal ?_
          refine TQ.then ?_
          refine TC.region ?_   -- region 7 law.go:36
          refine TL.opP rfl (op_add rfl rfl rfl (by omega) (by omega)) ?_
          refine TL.opP rfl (op_move rfl) ?_
          refine TL.nil ?_
          exact TQ.round (k + 1) (⟨by omega, narrow_step hI.2 hxk (by intro h0; first | exact absurd h0 (by assumption) | exact ⟨by omega, by omega⟩)⟩) (by omega) ⟨rfl, rfl, rfl, rfl, trivial⟩ (fun _ h => h)
    · refine TL.gFf rfl rfl rfl ?_
      refine TL.gFf rfl rfl rfl ?_
      refine TL.gFf rfl rfl rfl ?_
      refine TL.gU rfl rfl rfl ?_
      refine TL.gU rfl rfl rfl ?_
      refine TL.gFf rfl rfl rfl ?_
      refine TL.opP rfl (op_pickF rfl rfl) ?_
      refine TL.nil ?_
      refine TQ.then ?_
      refine TC.condF rfl ?_
      refine TC.skip ?_
      refine TQ.block_normal ?_
      refine TQ.then ?_
      refine TC.region ?_   -- region 7 law.go:36
      refine TL.opP rfl (op_add rfl rfl rfl (by omega) (by omega)) ?_
      refine TL.opP rfl (op_move rfl) ?_
      refine TL.nil ?_
      exact TQ.round (k + 1) (⟨by omega, narrow_step hI.2 hxk (by intro h0; first | exact absurd h0 (by assumption) | exact ⟨by omega, by omega⟩)⟩) (by omega) ⟨rfl, rfl, rfl, rfl, trivial⟩ (fun _ h => h)
  · refine TC.exit ?_
    refine TQ.then_exit ?_
    refine TQ.loop_exit ?_
    refine TQ.block_hit ?_
    refine TQ.then ?_
    refine TC.seq ?_
    refine TC.region ?_   -- region 8 law.go:42
    refine TL.opP rfl (op_move rfl) ?_
    refine TL.opX rfl (OpX.callX en_26 rfl (light_x es vo ho hr)) ?_; rintro _ _ ⟨b1, rfl, hb1, rfl⟩
    refine TL.opP rfl (op_assign rfl) ?_
    refine TL.nil ?_
    refine TQ.then ?_
    refine TC.ret ?_
    refine ret1 rfl rfl (fun w' hp => ?_)
    first
      | exact ⟨_, _, rfl, ⟨_, rfl, fun h => absurd h (by decide), rfl⟩, (hp)⟩
      | exact ⟨_, _, rfl, ⟨_, rfl, fun h x hx => ⟨(hb1 h).1 x hx, narrow_all hI.2 (by omega) x hx⟩, rfl⟩, (hp)⟩

theorem clone_x (e : List Part) (v : Value) (hl : e.length ≤ 4398046511104) (hr : Rdb L v 3 e.length (encs e)) :
    CallX Tryd.prog 41 [v] S w0 (L) (fun u L' => ∃ v', u = v' ∧ L' = .row v' 47 3 (e).length (encs (e)) :: L) := by
  intro w hp
  refine calls_start Tryd.func41 rfl rfl rfl (hp) ?_
  refine TC.seq ?_
  refine TC.region ?_   -- region 0 slices.go:355
  refine TL.opP rfl (op_assign rfl) ?_
  refine TL.nil ?_
  refine TQ.then ?_
  refine TC.seq ?_
  refine TC.seq ?_
  refine TC.region ?_   -- region 1 slices.go:357
  refine TL.opP rfl (op_move rfl) ?_
  refine TL.opX rfl (OpX.eqNil rfl hr (eq_nil_parts _)) ?_; rintro _ _ ⟨b1, rfl, hb1, rfl⟩
  refine TL.nil ?_
  refine TQ.then ?_
  first | refine TC.condD rfl (fun c1 => ?_) (fun c1 => ?_) | refine TC.condB rfl (fun c1 => ?_) (fun c1 => ?_)
  · refine TC.seq ?_
    refine TC.region ?_   -- region 2 slices.go:358
    refine TL.opP rfl (op_assign rfl) ?_
    refine TL.nil ?_
    refine TQ.then ?_
    refine TC.ret ?_
    refine TQ.then_ret ?_
    refine ret1 rfl rfl (fun w' hp => ?_)
    first
      | (obtain rfl : e = [] := List.length_eq_zero_iff.1 (hb1 (by assumption))
         exact ⟨_, _, rfl, ⟨.slice none 0 0, rfl, rfl⟩, new_nil _ 3 (hp)⟩)
      | exact ⟨_, _, rfl, ⟨_, rfl, rfl⟩, (hp)⟩
  · refine TC.skip ?_
    refine TQ.then ?_
    refine TC.seq ?_
    refine TC.region ?_   -- region 3 slices.go:362
    refine TL.opX rfl (OpX.buildSlice (ps := #[]) rfl (bs_api_Part_0 )) ?_; rintro _ _ ⟨g5, rfl, rfl⟩
    refine TL.hp (fun _ h => blk_row (k := 3) (m := 0) h rfl (by decide)) ?_
    refine TL.opP rfl (op_move rfl) ?_
    refine TL.opX rfl (OpX.append (bytes := 32) tsl_api_Part (by decide) (by decide) rfl hr.cons (encs_one _) (by omega) (zs := encs e) rfl) ?_; rintro v2 _ rfl
    refine TL.know (fun _ h => row1 h) (fun o2 => ?_)
    refine TL.hp (fun _ h => row_len3 h) ?_
    refine TL.opP rfl (op_assign rfl) ?_
    refine TL.nil ?_
    refine TQ.then ?_
    refine TC.ret ?_
    refine ret1 rfl rfl (fun w' hp => ?_)
    first
      | (obtain rfl : e = [] := List.length_eq_zero_iff.1 (hb1 (by assumption))
         exact ⟨_, _, rfl, ⟨.slice none 0 0, rfl, rfl⟩, new_nil _ 3 (hp)⟩)
      | exact ⟨_, _, rfl, ⟨_, rfl, rfl⟩, (hp)⟩

theorem equal_calls (a b : List Part) (va vb : Value) (w : World) (ha : RdRow w va 3 a.length (encs a)) (hb : RdRow w vb 3 b.length (encs b)) :
    Calls Tryd.prog 44 (List.toArray [va, vb]) w fun e w' => e = .returned (.bool (decide (a = b))) ∧ Kp NoB w w' := by
  have hlen : a.length ≤ 9223372036854775807 := by obtain ⟨_, A, c, _, h1, h2, _⟩ := ha; simp only [maxLen] at h2; omega
  refine calls_start Tryd.func44 rfl rfl rfl (Hp.i2 (r := .rd va 3 a.length (encs a)) (s := .rd vb 3 b.length (encs b)) ha hb) ?_
  refine TC.seq ?_
  refine TC.region ?_   -- region 0 slices.go:20
  refine TL.opP rfl (op_assign rfl) ?_
  refine TL.nil ?_
  refine TQ.then ?_
  refine TC.seq ?_
  refine TC.seq ?_
  refine TC.region ?_   -- region 1 slices.go:21
  refine TL.opP rfl (op_move rfl) ?_
  refine TL.opV rfl (op_lenV rfl un_sl_api_Part rfl rd0) ?_
  refine TL.opP rfl (op_move rfl) ?_
  refine TL.opV rfl (op_lenV rfl un_sl_api_Part rfl rd1) ?_
  refine TL.opP rfl (op_neq rfl rfl) ?_
  refine TL.nil ?_
  refine TQ.then ?_
  first | refine TC.condD rfl (fun c1 => ?_) (fun c1 => ?_) | refine TC.condB rfl (fun c1 => ?_) (fun c1 => ?_)
  · refine TC.seq ?_
    refine TC.region ?_   -- region 2 slices.go:22
    refine TL.opP rfl (op_assign rfl) ?_
    refine TL.nil ?_
    refine TQ.then ?_
    refine TC.ret ?_
    refine TQ.then_ret ?_
    refine ret1 rfl rfl (fun w' hp => ?_)
    first
      | exact ⟨by rw [decide_eq_false (by rintro rfl; omega)], hp.kp⟩
      | exact ⟨by rw [decide_eq_false (by rintro rfl; exact c3 (hpa.symm.trans hpb))], hp.kp⟩
      | exact ⟨by rw [decide_eq_true (take_eq_all htk (by omega) (by omega))], hp.kp⟩
  · refine TC.skip ?_
    refine TQ.then ?_
    refine TC.seq ?_
    refine TC.seq ?_
    refine TC.region ?_   -- region 3 slices.go:24
    refine TL.opP rfl (op_move rfl) ?_
    refine TL.opV rfl (op_lenV rfl un_sl_api_Part rfl rd0) ?_
    refine TL.opP rfl (op_move rfl) ?_
    refine TL.nil ?_
    refine TQ.then ?_
    refine TC.block ?_
    refine TC.loop (ι := Nat) (fun k => [(0, va), (1, vb), (12, .int .i64 (a.length : Int)), (13, .int .i64 (k : Int))]) (fun k => [.rd va 3 a.length (encs a), .rd vb 3 b.length (encs b)]) (fun k => k ≤ a.length ∧ a.take k = b.take k) (fun k => a.length - k) (0) (⟨Nat.zero_le _, rfl⟩) ⟨rfl, rfl, rfl, rfl, trivial⟩ (fun _ h => h) ?_
    rintro k ⟨hk, htk⟩
    refine TC.seq ?_
    refine TC.region ?_   -- region 4 slices.go:24
    refine TL.opP rfl (op_lss rfl rfl) ?_
    refine TL.nil ?_
    refine TQ.then ?_
    refine TC.seq ?_
    first | refine TC.condD rfl (fun c2 => ?_) (fun c2 => ?_) | refine TC.condB rfl (fun c2 => ?_) (fun c2 => ?_)
    · have hka : k < a.length := by omega
      have hkb : k < b.length := by omega
      obtain ⟨p, hpa⟩ : ∃ p, a.getD k default = p := ⟨_, rfl⟩
      obtain ⟨q, hpb⟩ : ∃ q, b.getD k default = q := ⟨_, rfl⟩
      refine TC.skip ?_
      refine TQ.then ?_
      refine TC.seq ?_
      refine TC.block ?_
      refine TC.seq ?_
      refine TC.region ?_   -- region 5 slices.go:24
      refine TL.opP rfl (op_move rfl) ?_
      refine TL.opP rfl (op_assign rfl) ?_
      refine TL.nil ?_
      refine TQ.then ?_
      refine TC.seq ?_
      refine TC.draw [] (.cons (.p, 0) (.cons (.p, 1) (.cons (.p, 4) (.cons (.p, 5) (.cons (.t, 2) (.cons (.t, 3) (.cons (.t, 6) (.cons (.t, 7) (.cons (.p, 8) (.nil)))))))))) mo (by kernel_rfl) ?_   -- region 6 slices.go:25
      refine TR.p rfl rfl wt0 (op_move rfl) ?_
      refine TR.p rfl rfl wt0 (op_move rfl) ?_
      refine TR.p rfl rfl wt0 (op_move rfl) ?_
      refine TR.p rfl rfl wt0 (op_move rfl) ?_
      refine TR.t rfl rfl wt0 (op_index tsl_api_Part rfl rd0 rfl (by omega) (by omega)) (fun _ h => h) ?_
      refine TR.t rfl rfl wt0 (op_loadRS tst_api_Part rfl rd0 (cs := p.cs) rfl (lkS hka hpa) (by decide)) (fun _ h => h) ?_
      refine TR.t rfl rfl wt0 (op_index tsl_api_Part rfl rd1 rfl (by omega) (by omega)) (fun _ h => h) ?_
      refine TR.t rfl rfl wt0 (op_loadRS tst_api_Part rfl rd1 (cs := q.cs) rfl (lkS hkb hpb) (by decide)) (fun _ h => h) ?_
      refine TR.p rfl rfl wt0 (op_pneq rfl rfl) ?_
      refine TR.nil ?_
      refine TQ.then ?_
      first | refine TC.condD rfl (fun c3 => ?_) (fun c3 => ?_) | refine TC.condB rfl (fun c3 => ?_) (fun c3 => ?_)
      · refine TC.seq ?_
        refine TC.region ?_   -- region 7 slices.go:26
        refine TL.opP rfl (op_assign rfl) ?_
        refine TL.nil ?_
        refine TQ.then ?_
        refine TC.ret ?_
        refine TQ.block_ret ?_
        refine TQ.then_ret ?_
        refine TQ.loop_ret ?_
        refine TQ.block_ret ?_
        refine TQ.then_ret ?_
        refine ret1 rfl rfl (fun w' hp => ?_)
        first
          | exact ⟨by rw [decide_eq_false (by rintro rfl; omega)], hp.kp⟩
          | exact ⟨by rw [decide_eq_false (by rintro rfl; exact c3 (hpa.symm.trans hpb))], hp.kp⟩
          | exact ⟨by rw [decide_eq_true (take_eq_all htk (by omega) (by omega))], hp.kp⟩
      · refine TC.skip ?_
        refine TQ.block_normal ?_
        refine TQ.then ?_
        refine TC.region ?_   -- region 8 slices.go:24
        refine TL.opP rfl (op_add rfl rfl rfl (by omega) (by omega)) ?_
        refine TL.opP rfl (op_move rfl) ?_
        refine TL.nil ?_
        exact TQ.round (k + 1) (⟨by omega, by rw [take_getD hka hpa, take_getD hkb hpb, htk]; congr 1; simpa using c3⟩) (by omega) ⟨rfl, rfl, rfl, rfl, trivial⟩ (fun _ h => h)
    · refine TC.exit ?_
      refine TQ.then_exit ?_
      refine TQ.loop_exit ?_
      refine TQ.block_hit ?_
      refine TQ.then ?_
      refine TC.seq ?_
      refine TC.region ?_   -- region 9 slices.go:29
      refine TL.opP rfl (op_assign rfl) ?_
      refine TL.nil ?_
      refine TQ.then ?_
      refine TC.ret ?_
      refine ret1 rfl rfl (fun w' hp => ?_)
      first
        | exact ⟨by rw [decide_eq_false (by rintro rfl; omega)], hp.kp⟩
        | exact ⟨by rw [decide_eq_false (by rintro rfl; exact c3 (hpa.symm.trans hpb))], hp.kp⟩
        | exact ⟨by rw [decide_eq_true (take_eq_all htk (by omega) (by omega))], hp.kp⟩

end Go.SK
