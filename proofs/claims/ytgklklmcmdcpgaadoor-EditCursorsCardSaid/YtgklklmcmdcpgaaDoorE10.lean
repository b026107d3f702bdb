/- Walks: the examples. -/
import Derived.Test.YtgklklmcmdcpgaaDoorE9
import Derived.Test.YtgklklmcmdcpgaaDoorP6
set_option linter.unusedVariables false
set_option linter.unusedSimpArgs false
set_option maxRecDepth 100000
namespace Go.SK
open Go Go.RowKit Go.Proofs
variable {S : Nat → Prop} {w0 : World} {F L : List Res}
theorem lreplace_x (n a k : Int) (s : ByteArray) (hs : s.size ≤ 4611686018427387904) (hT : tabs ∈ L) :
    CallX Tryd.prog 50 [.int .i64 n, .int .i64 a, .int .i64 k, .string s] S w0 (L) (fun u L' => ∃ v', u = v' ∧ L' = .row v' 47 3 (replF n a k s).length (encs (replF n a k s)) :: L) := by
  intro w hp
  refine calls_start Tryd.func50 rfl rfl rfl (hp) ?_
  refine TC.seq ?_
  refine TC.region ?_   -- region 0 law.go:46
  refine TL.opP rfl (op_assign rfl) ?_
  refine TL.nil ?_
  refine TQ.then ?_
  refine TC.seq ?_
  refine TC.region ?_   -- region 1 law.go:47
  refine TL.opP rfl (op_move rfl) ?_
  refine TL.opP rfl (op_move rfl) ?_
  refine TL.opP rfl (op_move rfl) ?_
  refine TL.opP rfl (op_move rfl) ?_
  refine TL.opX rfl (OpX.callX en_21 rfl (replace_x n a k s hs hT)) ?_; rintro _ _ ⟨w1, rfl, rfl⟩
  refine TL.opP rfl (op_move rfl) ?_
  refine TL.opP rfl (op_extract rfl rfl) ?_
  refine TL.opP rfl (op_extract rfl rfl) ?_
  refine TL.opP rfl (op_assign rfl) ?_
  refine TL.opP rfl (op_assign rfl) ?_
  refine TL.nil ?_
  refine TQ.then ?_
  refine TC.seq ?_
  refine TC.region ?_   -- region 2 law.go:48
  refine TL.opP rfl (op_move rfl) ?_
  refine TL.opP rfl (op_assign rfl) ?_
  refine TL.nil ?_
  refine TQ.then ?_
  refine TC.ret ?_
  refine ret1 rfl rfl (fun w' hp => ?_)
  exact ⟨_, _, rfl, ⟨_, rfl, rfl⟩, (hp)⟩

theorem apply_at {e : List Part} {s t : ByteArray} {k : Int} (v : Value) (w : World) (hT : Tabs w) (hss : s.size ≤ 70368744177664) (hs : small e) (h1 : applyF e s = t ∧ applyE e s = k) (hv : RdRow w v 3 e.length (encs e)) :
    Calls Tryd.prog 34 (List.toArray [v, .string s]) w fun e' w' => e' = .returned (.tuple #[.string t, .int .i64 k]) ∧ Kp NoB w w' := by
  have := apply_calls e s v hss w hT hs hv
  rw [h1.1, h1.2] at this
  exact this
theorem check_nil (w : World) (hT : Tabs w) : Calls Tryd.prog 25 (List.toArray [.slice none 0 0, .int .i64 1]) w fun e' w' => e' = .returned (.int .i64 30) ∧ Kp NoB w w' := by
  have := check_calls [] 1 (.slice none 0 0) w hT (by simp) ⟨rfl, none, 0, rfl, Nat.le_refl _, Nat.zero_le _, by simp, by simp⟩
  rw [aw6] at this
  exact this
theorem awake_calls (w : World) (hT : Tabs w) :
    Calls Tryd.prog 20 (List.toArray []) w fun e w' => e = .returned (.bool true) ∧ Kp NoB w w' := by
  refine calls_start Tryd.func20 rfl rfl rfl (Hp.i1 (r := tabs) hT) ?_
  refine TC.seq ?_
  refine TC.region ?_   -- region 0 law.go:52
  refine TL.opP rfl (op_assign rfl) ?_
  refine TL.nil ?_
  refine TQ.then ?_
  refine TC.seq ?_
  refine TC.region ?_   -- region 1 law.go:53
  refine TL.opX rfl (OpX.callX en_50 rfl (lreplace_x 5 2 1 sXY (by decide) m0)) ?_; rintro w1 _ ⟨_, rfl, rfl⟩
  refine TL.callq rfl en_34 rfl (fun w2 hp => apply_at _ w2 (tabs_at hp m1) (by decide) smallX aw1 (rw0 _ _ _ hp)) ?_
  refine TL.opP rfl (op_move rfl) ?_
  refine TL.opP rfl (op_extract rfl rfl) ?_
  refine TL.opP rfl (op_extract rfl rfl) ?_
  refine TL.opP rfl (op_assign rfl) ?_
  refine TL.opP rfl (op_assign rfl) ?_
  refine TL.nil ?_
  refine TQ.then ?_
  refine TC.seq ?_
  refine TC.region ?_   -- region 2 law.go:54
  refine TL.opX rfl (OpX.callX en_50 rfl (lreplace_x 2 1 0 sA (by decide) m1)) ?_; rintro w2 _ ⟨_, rfl, rfl⟩
  refine TL.opX rfl (OpX.callX en_50 rfl (lreplace_x 2 1 0 sB (by decide) m2)) ?_; rintro w3 _ ⟨_, rfl, rfl⟩
  refine TL.opX rfl (OpX.callX en_47 rfl (transform_x (replF 2 1 0 sA) (replF 2 1 0 sB) _ _ smallA smallB (by rw [awA]; decide) (by rw [awB]; decide) m3 rw1 rw0)) ?_; rintro _ _ ⟨v14, v24, rfl, rfl⟩
  refine TL.opP rfl (op_move rfl) ?_
  refine TL.opP rfl (op_extract rfl rfl) ?_
  refine TL.opP rfl (op_extract rfl rfl) ?_
  refine TL.opP rfl (op_extract rfl rfl) ?_
  refine TL.opP rfl (op_assign rfl) ?_
  refine TL.opP rfl (op_assign rfl) ?_
  refine TL.opP rfl (op_assign rfl) ?_
  refine TL.nil ?_
  refine TQ.then ?_
  refine TC.seq ?_
  refine TC.region ?_   -- region 3 law.go:55
  refine TL.opX rfl (OpX.callX en_50 rfl (lreplace_x 2 1 0 sB (by decide) m5)) ?_; rintro w5 _ ⟨_, rfl, rfl⟩
  refine TL.callq rfl en_34 rfl (fun w2 hp => apply_at _ w2 (tabs_at hp m6) (by decide) smallB aw3 (rw0 _ _ _ hp)) ?_
  refine TL.opP rfl (op_move rfl) ?_
  refine TL.opP rfl (op_extract rfl rfl) ?_
  refine TL.opP rfl (op_extract rfl rfl) ?_
  refine TL.opP rfl (op_assign rfl) ?_
  refine TL.opP rfl (op_assign rfl) ?_
  refine TL.nil ?_
  refine TQ.then ?_
  refine TC.seq ?_
  refine TC.region ?_   -- region 4 law.go:56
  refine TL.opP rfl (op_move rfl) ?_
  refine TL.opP rfl (op_move rfl) ?_
  refine TL.callq rfl en_34 rfl (fun w2 hp => apply_at _ w2 (tabs_at hp m6) (by decide) small1 aw4 (rw1 _ _ _ hp)) ?_
  refine TL.opP rfl (op_move rfl) ?_
  refine TL.opP rfl (op_extract rfl rfl) ?_
  refine TL.opP rfl (op_extract rfl rfl) ?_
  refine TL.opP rfl (op_assign rfl) ?_
  refine TL.opP rfl (op_assign rfl) ?_
  refine TL.nil ?_
  refine TQ.then ?_
  refine TC.seq ?_
  refine TC.region ?_   -- region 5 law.go:57
  refine TL.opP rfl (op_move rfl) ?_
  refine TL.callq rfl en_34 rfl (fun w2 hp => apply_at _ w2 (tabs_at hp m6) (by decide) small2 ⟨rfl, aw5⟩ (rw2 _ _ _ hp)) ?_
  refine TL.opP rfl (op_move rfl) ?_
  refine TL.opP rfl (op_extract rfl rfl) ?_
  refine TL.opP rfl (op_extract rfl rfl) ?_
  refine TL.opP rfl (op_assign rfl) ?_
  refine TL.opP rfl (op_assign rfl) ?_
  refine TL.nil ?_
  refine TQ.then ?_
  refine TC.seq ?_
  refine TC.region ?_   -- region 6 law.go:58
  refine TL.opP rfl (op_move rfl) ?_
  refine TL.opP rfl (op_seql rfl rfl) ?_
  refine TL.opP rfl (op_move rfl) ?_
  first | refine TL.splitD (fun c1 => ?_) (fun c1 => ?_) | refine TL.splitB (fun c1 => ?_) (fun c1 => ?_)
  · refine TL.gT rfl rfl ?_
    refine TL.opP rfl (op_move rfl) ?_
    refine TL.gT rfl rfl ?_
    refine TL.opP rfl (op_eql rfl rfl) ?_
    refine TL.opP rfl (op_pickT rfl rfl) ?_
    refine TL.opP rfl (op_move rfl) ?_
    first | refine TL.splitD (fun c2 => ?_) (fun c2 => ?_) | refine TL.splitB (fun c2 => ?_) (fun c2 => ?_)
    · refine TL.gT rfl rfl ?_
      refine TL.opP rfl (op_move rfl) ?_
      refine TL.gT rfl rfl ?_
      refine TL.opP rfl (op_eql rfl rfl) ?_
      refine TL.opP rfl (op_pickT rfl rfl) ?_
      refine TL.opP rfl (op_move rfl) ?_
      first | refine TL.splitD (fun c3 => ?_) (fun c3 => ?_) | refine TL.splitB (fun c3 => ?_) (fun c3 => ?_)
      · refine TL.gT rfl rfl ?_
        refine TL.opP rfl (op_move rfl) ?_
        refine TL.gT rfl rfl ?_
        refine TL.opP rfl (op_eql rfl rfl) ?_
        refine TL.opP rfl (op_pickT rfl rfl) ?_
        refine TL.opP rfl (op_move rfl) ?_
        first | refine TL.splitD (fun c4 => ?_) (fun c4 => ?_) | refine TL.splitB (fun c4 => ?_) (fun c4 => ?_)
        · refine TL.gT rfl rfl ?_
          refine TL.opP rfl (op_move rfl) ?_
          refine TL.gT rfl rfl ?_
          refine TL.opP rfl (op_seql rfl rfl) ?_
          refine TL.opP rfl (op_pickT rfl rfl) ?_
          refine TL.opP rfl (op_move rfl) ?_
          first | refine TL.splitD (fun c5 => ?_) (fun c5 => ?_) | refine TL.splitB (fun c5 => ?_) (fun c5 => ?_)
          · refine TL.gT rfl rfl ?_
            refine TL.opP rfl (op_move rfl) ?_
            refine TL.gT rfl rfl ?_
            refine TL.opP rfl (op_eql rfl rfl) ?_
            refine TL.opP rfl (op_pickT rfl rfl) ?_
            refine TL.opP rfl (op_move rfl) ?_
            first | refine TL.splitD (fun c6 => ?_) (fun c6 => ?_) | refine TL.splitB (fun c6 => ?_) (fun c6 => ?_)
            · refine TL.gT rfl rfl ?_
              refine TL.opP rfl (op_move rfl) ?_
              refine TL.gT rfl rfl ?_
              refine TL.opP rfl (op_eql rfl rfl) ?_
              refine TL.opP rfl (op_pickT rfl rfl) ?_
              refine TL.opP rfl (op_move rfl) ?_
              first | refine TL.splitD (fun c7 => ?_) (fun c7 => ?_) | refine TL.splitB (fun c7 => ?_) (fun c7 => ?_)
              · refine TL.gT rfl rfl ?_
                refine TL.callq rfl en_25 rfl (fun w2 hp => check_nil w2 (tabs_at hp m6)) ?_
                refine TL.gT rfl rfl ?_
                refine TL.opP rfl (op_eql rfl rfl) ?_
                refine TL.opP rfl (op_pickT rfl rfl) ?_
                refine TL.opP rfl (op_assign rfl) ?_
                refine TL.nil ?_
                refine TQ.then ?_
                refine TC.ret ?_
                refine ret1 rfl rfl (fun w' hp => ?_)
                exact ⟨rfl, hp.kp⟩
              · exact absurd (by first | rfl | exact awE | decide) c7
            · exact absurd (by first | rfl | exact awE | decide) c6
          · exact absurd (by first | rfl | exact awE | decide) c5
        · exact absurd (by first | rfl | exact awE | decide) c4
      · exact absurd (by first | rfl | exact awE | decide) c3
    · exact absurd (by first | rfl | exact awE | decide) c2
  · exact absurd (by first | rfl | exact awE | decide) c1

end Go.SK
