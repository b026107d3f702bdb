/- Walks: the small functions of edit. -/
import Derived.Test.YtgklklmcmdcpgaaDoorE2
set_option linter.unusedVariables false
set_option linter.unusedSimpArgs false
set_option maxRecDepth 100000
namespace Go.SK
open Go Go.RowKit Go.Proofs
variable {S : Nat → Prop} {w0 : World} {F L : List Res}
theorem nsum4 (n a k : Int) (s : ByteArray) : nsum [keepP a, putP s, dropP k, keepP (n - a - k)] = n + rcount s := by simp only [nsum, keepP, putP, dropP]; omega
theorem tsum4 (n a k : Int) (s : ByteArray) : tsum [keepP a, putP s, dropP k, keepP (n - a - k)] = s.size := by simp only [tsum, keepP, putP, dropP]; have : (⟨#[]⟩ : ByteArray).size = 0 := rfl; omega
theorem many4 {n a k : Int} {s : ByteArray} (h : ¬ replBad n a k s) (hs : s.size ≤ 4611686018427387904) : ManyB [] [keepP a, putP s, dropP k, keepP (n - a - k)] := by
  unfold replBad at h
  refine ⟨by simp, ?_, ?_, ?_, by simp⟩
  · intro q hq
    simp only [List.mem_cons, List.not_mem_nil, or_false] at hq
    rcases hq with rfl | rfl | rfl | rfl <;> simp only [keepP, putP, dropP] <;> omega
  · rw [nsum4]; simp only [nsum]; omega
  · rw [tsum4]; simp only [tsum]; omega
theorem check_calls (e : List Part) (n : Int) (v : Value) (w : World) (hT : Tabs w) (hs : ∀ p ∈ e, p.text.size < 9223372036854775807) (hv : RdRow w v 3 e.length (encs e)) :
    Calls Tryd.prog 25 (List.toArray [v, .int .i64 n]) w fun e' w' => e' = .returned (.int .i64 (checkF e n)) ∧ Kp NoB w w' := by
  have hlen : e.length ≤ 9223372036854775807 := by obtain ⟨_, A, c, _, h1, h2, _⟩ := hv; simp only [maxLen] at h2; omega
  refine calls_start Tryd.func25 rfl rfl rfl (Hp.i1 (r := .rd v 3 e.length (encs e)) hv) ?_
  refine TC.seq ?_
  refine TC.region ?_   -- region 0 edit.go:42
  refine TL.opP rfl (op_assign rfl) ?_
  refine TL.nil ?_
  refine TQ.then ?_
  refine TC.seq ?_
  refine TC.seq ?_
  refine TC.region ?_   -- region 1 edit.go:43
  refine TL.opP rfl (op_move rfl) ?_
  refine TL.callq rfl en_58 rfl (fun w2 hp => sizes_calls e v w2 (hT.kp hp.kp) hs (rd0 _ _ _ hp)) ?_
  refine TL.opP rfl (op_move rfl) ?_
  refine TL.opP rfl (op_extract rfl rfl) ?_
  refine TL.opP rfl (op_extract rfl rfl) ?_
  refine TL.opP rfl (op_extract rfl rfl) ?_
  refine TL.opP rfl (op_assign rfl) ?_
  refine TL.opP rfl (op_assign rfl) ?_
  refine TL.opP rfl (op_assign rfl) ?_
  refine TL.nil ?_
  refine TQ.then ?_
  refine TC.seq ?_
  refine TC.region ?_   -- region 2 edit.go:43
  refine TL.opP rfl (op_move rfl) ?_
  refine TL.opP rfl (op_not rfl rfl) ?_
  refine TL.opP rfl (op_move rfl) ?_
  first | refine TL.splitD (fun c1 => ?_) (fun c1 => ?_) | refine TL.splitB (fun c1 => ?_) (fun c1 => ?_)
  · refine TL.gFt rfl rfl rfl ?_
    refine TL.gFt rfl rfl rfl ?_
    refine TL.gFt rfl rfl rfl ?_
    refine TL.opP rfl (op_pickT rfl rfl) ?_
    refine TL.nil ?_
    refine TQ.then ?_
    refine TC.condT rfl ?_
    refine TC.seq ?_
    refine TC.region ?_   -- region 3 edit.go:44
    refine TL.opP rfl (op_assign rfl) ?_
    refine TL.nil ?_
    refine TQ.then ?_
    refine TC.ret ?_
    refine TQ.then_ret ?_
    refine ret1 rfl rfl (fun w' hp => ?_)
    exact ⟨by simp only [checkF]; grind, hp.kp⟩
  · refine TL.gT rfl rfl ?_
    refine TL.opP rfl (op_move rfl) ?_
    refine TL.gT rfl rfl ?_
    refine TL.opP rfl (op_move rfl) ?_
    refine TL.gT rfl rfl ?_
    refine TL.opP rfl (op_neq rfl rfl) ?_
    refine TL.opP rfl (op_pickF rfl rfl) ?_
    refine TL.nil ?_
    refine TQ.then ?_
    first | refine TC.condD rfl (fun c2 => ?_) (fun c2 => ?_) | refine TC.condB rfl (fun c2 => ?_) (fun c2 => ?_)
    · refine TC.seq ?_
      refine TC.region ?_   -- region 3 edit.go:44
      refine TL.opP rfl (op_assign rfl) ?_
      refine TL.nil ?_
      refine TQ.then ?_
      refine TC.ret ?_
      refine TQ.then_ret ?_
      refine ret1 rfl rfl (fun w' hp => ?_)
      exact ⟨by simp only [checkF]; grind, hp.kp⟩
    · refine TC.skip ?_
      refine TQ.then ?_
      refine TC.seq ?_
      refine TC.region ?_   -- region 4 edit.go:46
      refine TL.opP rfl (op_assign rfl) ?_
      refine TL.nil ?_
      refine TQ.then ?_
      refine TC.ret ?_
      refine ret1 rfl rfl (fun w' hp => ?_)
      exact ⟨by simp only [checkF]; grind, hp.kp⟩

theorem size_calls (e : List Part) (v : Value) (w : World) (hT : Tabs w) (hs : ∀ p ∈ e, p.text.size < 9223372036854775807) (hv : RdRow w v 3 e.length (encs e)) :
    Calls Tryd.prog 27 (List.toArray [v]) w fun e' w' => e' = .returned (.tuple #[.int .i64 (sizeF e).1, .int .i64 (sizeF e).2, .int .i64 (sizeE e)]) ∧ Kp NoB w w' := by
  have hlen : e.length ≤ 9223372036854775807 := by obtain ⟨_, A, c, _, h1, h2, _⟩ := hv; simp only [maxLen] at h2; omega
  refine calls_start Tryd.func27 rfl rfl rfl (Hp.i1 (r := .rd v 3 e.length (encs e)) hv) ?_
  refine TC.seq ?_
  refine TC.region ?_   -- region 0 edit.go:50
  refine TL.opP rfl (op_assign rfl) ?_
  refine TL.opP rfl (op_assign rfl) ?_
  refine TL.opP rfl (op_assign rfl) ?_
  refine TL.nil ?_
  refine TQ.then ?_
  refine TC.seq ?_
  refine TC.region ?_   -- region 1 edit.go:51
  refine TL.opP rfl (op_move rfl) ?_
  refine TL.callq rfl en_58 rfl (fun w2 hp => sizes_calls e v w2 (hT.kp hp.kp) hs (rd0 _ _ _ hp)) ?_
  refine TL.opP rfl (op_move rfl) ?_
  refine TL.opP rfl (op_extract rfl rfl) ?_
  refine TL.opP rfl (op_extract rfl rfl) ?_
  refine TL.opP rfl (op_extract rfl rfl) ?_
  refine TL.opP rfl (op_assign rfl) ?_
  refine TL.opP rfl (op_assign rfl) ?_
  refine TL.opP rfl (op_assign rfl) ?_
  refine TL.nil ?_
  refine TQ.then ?_
  refine TC.seq ?_
  refine TC.seq ?_
  refine TC.region ?_   -- region 2 edit.go:52
  refine TL.opP rfl (op_move rfl) ?_
  refine TL.opP rfl (op_not rfl rfl) ?_
  refine TL.nil ?_
  refine TQ.then ?_
  first | refine TC.condD rfl (fun c1 => ?_) (fun c1 => ?_) | refine TC.condB rfl (fun c1 => ?_) (fun c1 => ?_)
  · refine TC.seq ?_
    refine TC.region ?_   -- region 3 edit.go:53
    refine TL.opP rfl (op_assign rfl) ?_
    refine TL.opP rfl (op_assign rfl) ?_
    refine TL.opP rfl (op_assign rfl) ?_
    refine TL.nil ?_
    refine TQ.then ?_
    refine TC.ret ?_
    refine TQ.then_ret ?_
    refine ret3 rfl rfl rfl rfl (fun w' hp => ?_)
    exact ⟨by simp only [sizeF, sizeE]; grind, hp.kp⟩
  · refine TC.skip ?_
    refine TQ.then ?_
    refine TC.seq ?_
    refine TC.region ?_   -- region 4 edit.go:55
    refine TL.opP rfl (op_move rfl) ?_
    refine TL.opP rfl (op_move rfl) ?_
    refine TL.opP rfl (op_assign rfl) ?_
    refine TL.opP rfl (op_assign rfl) ?_
    refine TL.opP rfl (op_assign rfl) ?_
    refine TL.nil ?_
    refine TQ.then ?_
    refine TC.ret ?_
    refine ret3 rfl rfl rfl rfl (fun w' hp => ?_)
    exact ⟨by simp only [sizeF, sizeE]; grind, hp.kp⟩

theorem replace_x (n a k : Int) (s : ByteArray) (hs : s.size ≤ 4611686018427387904) (hT : tabs ∈ L) :
    CallX Tryd.prog 21 [.int .i64 n, .int .i64 a, .int .i64 k, .string s] S w0 (L) (fun u L' => ∃ v', u = .tuple #[v', .int .i64 (replE n a k s)] ∧ L' = .row v' 47 3 (replF n a k s).length (encs (replF n a k s)) :: L) := by
  intro w hp
  refine calls_start Tryd.func21 rfl rfl rfl (hp) ?_
  refine TC.seq ?_
  refine TC.region ?_   -- region 0 edit.go:106
  refine TL.opP rfl (op_assign rfl) ?_
  refine TL.opP rfl (op_assign rfl) ?_
  refine TL.nil ?_
  refine TQ.then ?_
  refine TC.seq ?_
  refine TC.seq ?_
  refine TC.region ?_   -- region 1 edit.go:107
  refine TL.opP rfl (op_move rfl) ?_
  refine TL.opP rfl (op_lss rfl rfl) ?_
  refine TL.opP rfl (op_move rfl) ?_
  first | refine TL.splitD (fun c1 => ?_) (fun c1 => ?_) | refine TL.splitB (fun c1 => ?_) (fun c1 => ?_)
  · refine TL.gFt rfl rfl rfl ?_
    refine TL.gFt rfl rfl rfl ?_
    refine TL.opP rfl (op_pickT rfl rfl) ?_
    refine TL.opP rfl (op_move rfl) ?_
    refine TL.gFt rfl rfl rfl ?_
    refine TL.gFt rfl rfl rfl ?_
    refine TL.opP rfl (op_pickT rfl rfl) ?_
    refine TL.opP rfl (op_move rfl) ?_
    refine TL.gFt rfl rfl rfl ?_
    refine TL.gFt rfl rfl rfl ?_
    refine TL.gFt rfl rfl rfl ?_
    refine TL.opP rfl (op_pickT rfl rfl) ?_
    refine TL.opP rfl (op_move rfl) ?_
    refine TL.gFt rfl rfl rfl ?_
    refine TL.gFt rfl rfl rfl ?_
    refine TL.opP rfl (op_pickT rfl rfl) ?_
    refine TL.opP rfl (op_move rfl) ?_
    refine TL.gFt rfl rfl rfl ?_
    refine TL.gFt rfl rfl rfl ?_
    refine TL.gFt rfl rfl rfl ?_
    refine TL.gFt rfl rfl rfl ?_
    refine TL.gFt rfl rfl rfl ?_
    refine TL.opP rfl (op_pickT rfl rfl) ?_
    refine TL.opP rfl (op_move rfl) ?_
    refine TL.gFt rfl rfl rfl ?_
    refine TL.gFt rfl rfl rfl ?_
    refine TL.gFt rfl rfl rfl ?_
    refine TL.opP rfl (op_pickT rfl rfl) ?_
    refine TL.opP rfl (op_move rfl) ?_
    refine TL.gFt rfl rfl rfl ?_
    refine TL.gFt rfl rfl rfl ?_
    refine TL.gFt rfl rfl rfl ?_
    refine TL.gFt rfl rfl rfl ?_
    refine TL.gFt rfl rfl rfl ?_
    refine TL.opP rfl (op_pickT rfl rfl) ?_
    refine TL.nil ?_
    refine TQ.then ?_
    refine TC.condT rfl ?_
    refine TC.seq ?_
    refine TC.region ?_   -- region 2 edit.go:108
    refine TL.opP rfl (op_assign rfl) ?_
    refine TL.opP rfl (op_assign rfl) ?_
    refine TL.nil ?_
    refine TQ.then ?_
    refine TC.ret ?_
    refine TQ.then_ret ?_
    refine ret2 rfl rfl rfl (fun w' hp => ?_)
    first
      | exact ⟨_, _, rfl, ⟨.slice none 0 0, by rw [replE, if_pos (by unfold replBad; grind)], by rw [replF, if_pos (by unfold replBad; grind)]; rfl⟩, new_nil _ 3 (hp)⟩
      | exact ⟨_, _, rfl, ⟨«v:mr?», by first | (rw [replE, if_neg hok]; done) | (rw [replE, if_neg hok]; rfl), by rw [replF, if_neg hok, List.length_reverse]⟩, (hp)⟩
  · refine TL.gT rfl rfl ?_
    refine TL.opP rfl (op_move rfl) ?_
    refine TL.gT rfl rfl ?_
    refine TL.opP rfl (op_gtr rfl rfl) ?_
    refine TL.opP rfl (op_pickF rfl rfl) ?_
    refine TL.opP rfl (op_move rfl) ?_
    first | refine TL.splitD (fun c2 => ?_) (fun c2 => ?_) | refine TL.splitB (fun c2 => ?_) (fun c2 => ?_)
    · refine TL.gFt rfl rfl rfl ?_
      refine TL.gFt rfl rfl rfl ?_
      refine TL.opP rfl (op_pickT rfl rfl) ?_
      refine TL.opP rfl (op_move rfl) ?_
      refine TL.gFt rfl rfl rfl ?_
      refine TL.gFt rfl rfl rfl ?_
      refine TL.gFt rfl rfl rfl ?_
      refine TL.opP rfl (op_pickT rfl rfl) ?_
      refine TL.opP rfl (op_move rfl) ?_
      refine TL.gFt rfl rfl rfl ?_
      refine TL.gFt rfl rfl rfl ?_
      refine TL.opP rfl (op_pickT rfl rfl) ?_
      refine TL.opP rfl (op_move rfl) ?_
      refine TL.gFt rfl rfl rfl ?_
      refine TL.gFt rfl rfl rfl ?_
      refine TL.gFt rfl rfl rfl ?_
      refine TL.gFt rfl rfl rfl ?_
      refine TL.gFt rfl rfl rfl ?_
      refine TL.opP rfl (op_pickT rfl rfl) ?_
      refine TL.opP rfl (op_move rfl) ?_
      refine TL.gFt rfl rfl rfl ?_
      refine TL.gFt rfl rfl rfl ?_
      refine TL.gFt rfl rfl rfl ?_
      refine TL.opP rfl (op_pickT rfl rfl) ?_
      refine TL.opP rfl (op_move rfl) ?_
      refine TL.gFt rfl rfl rfl ?_
      refine TL.gFt rfl rfl rfl ?_
      refine TL.gFt rfl rfl rfl ?_
      refine TL.gFt rfl rfl rfl ?_
      refine TL.gFt rfl rfl rfl ?_
      refine TL.opP rfl (op_pickT rfl rfl) ?_
      refine TL.nil ?_
      refine TQ.then ?_
      refine TC.condT rfl ?_
      refine TC.seq ?_
      refine TC.region ?_   -- region 2 edit.go:108
      refine TL.opP rfl (op_assign rfl) ?_
      refine TL.opP rfl (op_assign rfl) ?_
      refine TL.nil ?_
      refine TQ.then ?_
      refine TC.ret ?_
      refine TQ.then_ret ?_
      refine ret2 rfl rfl rfl (fun w' hp => ?_)
      first
        | exact ⟨_, _, rfl, ⟨.slice none 0 0, by rw [replE, if_pos (by unfold replBad; grind)], by rw [replF, if_pos (by unfold replBad; grind)]; rfl⟩, new_nil _ 3 (hp)⟩
        | exact ⟨_, _, rfl, ⟨«v:mr?», by first | (rw [replE, if_neg hok]; done) | (rw [replE, if_neg hok]; rfl), by rw [replF, if_neg hok, List.length_reverse]⟩, (hp)⟩
    · refine TL.gT rfl rfl ?_
      refine TL.opP rfl (op_move rfl) ?_
      refine TL.gT rfl rfl ?_
      refine TL.opP rfl (op_lss rfl rfl) ?_
      refine TL.opP rfl (op_pickF rfl rfl) ?_
      refine TL.opP rfl (op_move rfl) ?_
      first | refine TL.splitD (fun c3 => ?_) (fun c3 => ?_) | refine TL.splitB (fun c3 => ?_) (fun c3 => ?_)
      · refine TL.gFt rfl rfl rfl ?_
        refine TL.gFt rfl rfl rfl ?_
        refine TL.gFt rfl rfl rfl ?_
        refine TL.opP rfl (op_pickT rfl rfl) ?_
        refine TL.opP rfl (op_move rfl) ?_
        refine TL.gFt rfl rfl rfl ?_
        refine TL.gFt rfl rfl rfl ?_
        refine TL.opP rfl (op_pickT rfl rfl) ?_
        refine TL.opP rfl (op_move rfl) ?_
        refine TL.gFt rfl rfl rfl ?_
        refine TL.gFt rfl rfl rfl ?_
        refine TL.gFt rfl rfl rfl ?_
        refine TL.gFt rfl rfl rfl ?_
        refine TL.gFt rfl rfl rfl ?_
        refine TL.opP rfl (op_pickT rfl rfl) ?_
        refine TL.opP rfl (op_move rfl) ?_
        refine TL.gFt rfl rfl rfl ?_
        refine TL.gFt rfl rfl rfl ?_
        refine TL.gFt rfl rfl rfl ?_
        refine TL.opP rfl (op_pickT rfl rfl) ?_
        refine TL.opP rfl (op_move rfl) ?_
        refine TL.gFt rfl rfl rfl ?_
        refine TL.gFt rfl rfl rfl ?_
        refine TL.gFt rfl rfl rfl ?_
        refine TL.gFt rfl rfl rfl ?_
        refine TL.gFt rfl rfl rfl ?_
        refine TL.opP rfl (op_pickT rfl rfl) ?_
        refine TL.nil ?_
        refine TQ.then ?_
        refine TC.condT rfl ?_
        refine TC.seq ?_
        refine TC.region ?_   -- region 2 edit.go:108
        refine TL.opP rfl (op_assign rfl) ?_
        refine TL.opP rfl (op_assign rfl) ?_
        refine TL.nil ?_
        refine TQ.then ?_
        refine TC.ret ?_
        refine TQ.then_ret ?_
        refine ret2 rfl rfl rfl (fun w' hp => ?_)
        first
          | exact ⟨_, _, rfl, ⟨.slice none 0 0, by rw [replE, if_pos (by unfold replBad; grind)], by rw [replF, if_pos (by unfold replBad; grind)]; rfl⟩, new_nil _ 3 (hp)⟩
          | exact ⟨_, _, rfl, ⟨«v:mr?», by first | (rw [replE, if_neg hok]; done) | (rw [replE, if_neg hok]; rfl), by rw [replF, if_neg hok, List.length_reverse]⟩, (hp)⟩
      · refine TL.gT rfl rfl ?_
        refine TL.opP rfl (op_move rfl) ?_
        refine TL.gT rfl rfl ?_
        refine TL.opP rfl (op_move rfl) ?_
        refine TL.gT rfl rfl ?_
        refine TL.opP rfl (op_gtr rfl rfl) ?_
        refine TL.opP rfl (op_pickF rfl rfl) ?_
        refine TL.opP rfl (op_move rfl) ?_
        first | refine TL.splitD (fun c4 => ?_) (fun c4 => ?_) | refine TL.splitB (fun c4 => ?_) (fun c4 => ?_)
        · refine TL.gFt rfl rfl rfl ?_
          refine TL.gFt rfl rfl rfl ?_
          refine TL.opP rfl (op_pickT rfl rfl) ?_
          refine TL.opP rfl (op_move rfl) ?_
          refine TL.gFt rfl rfl rfl ?_
          refine TL.gFt rfl rfl rfl ?_
          refine TL.gFt rfl rfl rfl ?_
          refine TL.gFt rfl rfl rfl ?_
          refine TL.gFt rfl rfl rfl ?_
          refine TL.opP rfl (op_pickT rfl rfl) ?_
          refine TL.opP rfl (op_move rfl) ?_
          refine TL.gFt rfl rfl rfl ?_
          refine TL.gFt rfl rfl rfl ?_
          refine TL.gFt rfl rfl rfl ?_
          refine TL.opP rfl (op_pickT rfl rfl) ?_
          refine TL.opP rfl (op_move rfl) ?_
          refine TL.gFt rfl rfl rfl ?_
          refine TL.gFt rfl rfl rfl ?_
          refine TL.gFt rfl rfl rfl ?_
          refine TL.gFt rfl rfl rfl ?_
          refine TL.gFt rfl rfl rfl ?_
          refine TL.opP rfl (op_pickT rfl rfl) ?_
          refine TL.nil ?_
          refine TQ.then ?_
          refine TC.condT rfl ?_
          refine TC.seq ?_
          refine TC.region ?_   -- region 2 edit.go:108
          refine TL.opP rfl (op_assign rfl) ?_
          refine TL.opP rfl (op_assign rfl) ?_
          refine TL.nil ?_
          refine TQ.then ?_
          refine TC.ret ?_
          refine TQ.then_ret ?_
          refine ret2 rfl rfl rfl (fun w' hp => ?_)
          first
            | exact ⟨_, _, rfl, ⟨.slice none 0 0, by rw [replE, if_pos (by unfold replBad; grind)], by rw [replF, if_pos (by unfold replBad; grind)]; rfl⟩, new_nil _ 3 (hp)⟩
            | exact ⟨_, _, rfl, ⟨«v:mr?», by first | (rw [replE, if_neg hok]; done) | (rw [replE, if_neg hok]; rfl), by rw [replF, if_neg hok, List.length_reverse]⟩, (hp)⟩
        · refine TL.gT rfl rfl ?_
          refine TL.opP rfl (op_move rfl) ?_
          refine TL.gT rfl rfl ?_
          refine TL.opP rfl (op_lss rfl rfl) ?_
          refine TL.opP rfl (op_pickF rfl rfl) ?_
          refine TL.opP rfl (op_move rfl) ?_
          first | refine TL.splitD (fun c5 => ?_) (fun c5 => ?_) | refine TL.splitB (fun c5 => ?_) (fun c5 => ?_)
          · refine TL.gFt rfl rfl rfl ?_
            refine TL.gFt rfl rfl rfl ?_
            refine TL.gFt rfl rfl rfl ?_
            refine TL.gFt rfl rfl rfl ?_
            refine TL.gFt rfl rfl rfl ?_
            refine TL.opP rfl (op_pickT rfl rfl) ?_
            refine TL.opP rfl (op_move rfl) ?_
            refine TL.gFt rfl rfl rfl ?_
            refine TL.gFt rfl rfl rfl ?_
            refine TL.gFt rfl rfl rfl ?_
            refine TL.opP rfl (op_pickT rfl rfl) ?_
            refine TL.opP rfl (op_move rfl) ?_
            refine TL.gFt rfl rfl rfl ?_
            refine TL.gFt rfl rfl rfl ?_
            refine TL.gFt rfl rfl rfl ?_
            refine TL.gFt rfl rfl rfl ?_
            refine TL.gFt rfl rfl rfl ?_
            refine TL.opP rfl (op_pickT rfl rfl) ?_
            refine TL.nil ?_
            refine TQ.then ?_
            refine TC.condT rfl ?_
            refine TC.seq ?_
            refine TC.region ?_   -- region 2 edit.go:108
            refine TL.opP rfl (op_assign rfl) ?_
            refine TL.opP rfl (op_assign rfl) ?_
            refine TL.nil ?_
            refine TQ.then ?_
            refine TC.ret ?_
            refine TQ.then_ret ?_
            refine ret2 rfl rfl rfl (fun w' hp => ?_)
            first
              | exact ⟨_, _, rfl, ⟨.slice none 0 0, by rw [replE, if_pos (by unfold replBad; grind)], by rw [replF, if_pos (by unfold replBad; grind)]; rfl⟩, new_nil _ 3 (hp)⟩
              | exact ⟨_, _, rfl, ⟨«v:mr?», by first | (rw [replE, if_neg hok]; done) | (rw [replE, if_neg hok]; rfl), by rw [replF, if_neg hok, List.length_reverse]⟩, (hp)⟩
          · refine TL.gT rfl rfl ?_
            refine TL.opP rfl (op_move rfl) ?_
            refine TL.gT rfl rfl ?_
            refine TL.opP rfl (op_move rfl) ?_
            refine TL.gT rfl rfl ?_
            refine TL.opP rfl (op_move rfl) ?_
            refine TL.gT rfl rfl ?_
            refine TL.opP rfl (op_sub rfl rfl rfl (by omega) (by omega)) ?_
            refine TL.gT rfl rfl ?_
            refine TL.opP rfl (op_gtr rfl rfl) ?_
            refine TL.opP rfl (op_pickF rfl rfl) ?_
            refine TL.opP rfl (op_move rfl) ?_
            first | refine TL.splitD (fun c6 => ?_) (fun c6 => ?_) | refine TL.splitB (fun c6 => ?_) (fun c6 => ?_)
            · refine TL.gFt rfl rfl rfl ?_
              refine TL.gFt rfl rfl rfl ?_
              refine TL.gFt rfl rfl rfl ?_
              refine TL.opP rfl (op_pickT rfl rfl) ?_
              refine TL.opP rfl (op_move rfl) ?_
              refine TL.gFt rfl rfl rfl ?_
              refine TL.gFt rfl rfl rfl ?_
              refine TL.gFt rfl rfl rfl ?_
              refine TL.gFt rfl rfl rfl ?_
              refine TL.gFt rfl rfl rfl ?_
              refine TL.opP rfl (op_pickT rfl rfl) ?_
              refine TL.nil ?_
              refine TQ.then ?_
              refine TC.condT rfl ?_
              refine TC.seq ?_
              refine TC.region ?_   -- region 2 edit.go:108
              refine TL.opP rfl (op_assign rfl) ?_
              refine TL.opP rfl (op_assign rfl) ?_
              refine TL.nil ?_
              refine TQ.then ?_
              refine TC.ret ?_
              refine TQ.then_ret ?_
              refine ret2 rfl rfl rfl (fun w' hp => ?_)
              first
                | exact ⟨_, _, rfl, ⟨.slice none 0 0, by rw [replE, if_pos (by unfold replBad; grind)], by rw [replF, if_pos (by unfold replBad; grind)]; rfl⟩, new_nil _ 3 (hp)⟩
                | exact ⟨_, _, rfl, ⟨«v:mr?», by first | (rw [replE, if_neg hok]; done) | (rw [replE, if_neg hok]; rfl), by rw [replF, if_neg hok, List.length_reverse]⟩, (hp)⟩
            · refine TL.gT rfl rfl ?_
              refine TL.opP rfl (op_move rfl) ?_
              refine TL.gT rfl rfl ?_
              refine TL.callq rfl en_51 rfl (fun w2 hp => valid_calls _ _ (tabs_at hp hT) (by omega)) ?_
              refine TL.gT rfl rfl ?_
              refine TL.opP rfl (op_not rfl rfl) ?_
              refine TL.opP rfl (op_pickF rfl rfl) ?_
              refine TL.opP rfl (op_move rfl) ?_
              first | refine TL.splitD (fun c7 => ?_) (fun c7 => ?_) | refine TL.splitB (fun c7 => ?_) (fun c7 => ?_)
              · refine TL.gFt rfl rfl rfl ?_
                refine TL.gFt rfl rfl rfl ?_
                refine TL.gFt rfl rfl rfl ?_
                refine TL.gFt rfl rfl rfl ?_
                refine TL.gFt rfl rfl rfl ?_
                refine TL.opP rfl (op_pickT rfl rfl) ?_
                refine TL.nil ?_
                refine TQ.then ?_
                refine TC.condT rfl ?_
                refine TC.seq ?_
                refine TC.region ?_   -- region 2 edit.go:108
                refine TL.opP rfl (op_assign rfl) ?_
                refine TL.opP rfl (op_assign rfl) ?_
                refine TL.nil ?_
                refine TQ.then ?_
                refine TC.ret ?_
                refine TQ.then_ret ?_
                refine ret2 rfl rfl rfl (fun w' hp => ?_)
                first
                  | exact ⟨_, _, rfl, ⟨.slice none 0 0, by rw [replE, if_pos (by unfold replBad; grind)], by rw [replF, if_pos (by unfold replBad; grind)]; rfl⟩, new_nil _ 3 (hp)⟩
                  | exact ⟨_, _, rfl, ⟨«v:mr?», by first | (rw [replE, if_neg hok]; done) | (rw [replE, if_neg hok]; rfl), by rw [replF, if_neg hok, List.length_reverse]⟩, (hp)⟩
              · refine TL.gT rfl rfl ?_
                refine TL.opP rfl (op_move rfl) ?_
                refine TL.gT rfl rfl ?_
                refine TL.callq rfl en_48 rfl (fun w2 hp => rcount_calls _ _ (by omega)) ?_
                refine TL.gT rfl rfl ?_
                refine TL.opP rfl (op_move rfl) ?_
                refine TL.gT rfl rfl ?_
                refine TL.opP rfl (op_sub rfl rfl rfl (by omega) (by omega)) ?_
                refine TL.gT rfl rfl ?_
                refine TL.opP rfl (op_gtr rfl rfl) ?_
                refine TL.opP rfl (op_pickF rfl rfl) ?_
                refine TL.nil ?_
                refine TQ.then ?_
                first | refine TC.condD rfl (fun c8 => ?_) (fun c8 => ?_) | refine TC.condB rfl (fun c8 => ?_) (fun c8 => ?_)
                · refine TC.seq ?_
                  refine TC.region ?_   -- region 2 edit.go:108
                  refine TL.opP rfl (op_assign rfl) ?_
                  refine TL.opP rfl (op_assign rfl) ?_
                  refine TL.nil ?_
                  refine TQ.then ?_
                  refine TC.ret ?_
                  refine TQ.then_ret ?_
                  refine ret2 rfl rfl rfl (fun w' hp => ?_)
                  first
                    | exact ⟨_, _, rfl, ⟨.slice none 0 0, by rw [replE, if_pos (by unfold replBad; grind)], by rw [replF, if_pos (by unfold replBad; grind)]; rfl⟩, new_nil _ 3 (hp)⟩
                    | exact ⟨_, _, rfl, ⟨«v:mr?», by first | (rw [replE, if_neg hok]; done) | (rw [replE, if_neg hok]; rfl), by rw [replF, if_neg hok, List.length_reverse]⟩, (hp)⟩
                · have hok : ¬ replBad n a k s := by unfold replBad; grind
                  refine TC.skip ?_
                  refine TQ.then ?_
                  refine TC.seq ?_
                  refine TC.region ?_   -- region 3 edit.go:110
                  refine TL.opX rfl (OpX.alloc tz_edit_maker rfl) ?_; rintro _ _ ⟨g10, rfl, rfl⟩
                  refine TL.hp (fun _ h => new_nil 47 3 h) ?_
                  refine TL.nil ?_
                  refine TQ.then ?_
                  refine TC.seq ?_
                  refine TC.region ?_   -- region 4 edit.go:111
                  refine TL.opP rfl (op_move rfl) ?_
                  refine TL.callq rfl en_53 rfl (fun w2 hp => keep_calls _ w2) ?_
                  refine TL.opP rfl (op_move rfl) ?_
                  refine TL.callq rfl en_54 rfl (fun w2 hp => put_calls _ w2 (by omega)) ?_
                  refine TL.opP rfl (op_move rfl) ?_
                  refine TL.callq rfl en_55 rfl (fun w2 hp => drop_calls _ w2) ?_
                  refine TL.opP rfl (op_move rfl) ?_
                  refine TL.opP rfl (op_move rfl) ?_
                  refine TL.opP rfl (op_sub rfl rfl rfl (by omega) (by omega)) ?_
                  refine TL.opP rfl (op_move rfl) ?_
                  refine TL.opP rfl (op_sub rfl rfl rfl (by omega) (by omega)) ?_
                  refine TL.callq rfl en_53 rfl (fun w2 hp => keep_calls _ w2) ?_
                  refine TL.opX rfl (OpX.buildSlice (ps := #[(0, _), (1, _), (2, _), (3, _)]) rfl (bs_api_Part_4 (keepP a) (putP s) (dropP k) (keepP (n - a - k)))) ?_; rintro _ _ ⟨g61, rfl, rfl⟩
                  refine TL.hp (fun _ h => blk_row (k := 3) (m := 4) h rfl (by decide)) ?_
                  refine TL.hp (fun _ h => h.pick1.pick2) ?_
                  refine TL.opX rfl (OpX.callX en_52 rfl (add_x _ [] _ _ _ (many4 hok hs) rw0)) ?_; rintro _ _ ⟨rfl, w1, rfl⟩
                  refine TL.nil ?_
                  refine TQ.then ?_
                  refine TC.seq ?_
                  refine TC.region ?_   -- region 5 edit.go:112
                  refine TL.opP rfl (op_field fld_edit_maker_out rfl) ?_
                  refine TL.opV rfl (op_load ts_sl_api_Part rfl m0 rfl) ?_
                  refine TL.opP rfl (op_assign rfl) ?_
                  refine TL.opP rfl (op_assign rfl) ?_
                  refine TL.nil ?_
                  refine TQ.then ?_
                  refine TC.ret ?_
                  refine ret2 rfl rfl rfl (fun w' hp => ?_)
                  first
                    | exact ⟨_, _, rfl, ⟨.slice none 0 0, by rw [replE, if_pos (by unfold replBad; grind)], by rw [replF, if_pos (by unfold replBad; grind)]; rfl⟩, new_nil _ 3 (hp.drop2.tail)⟩
                    | exact ⟨_, _, rfl, ⟨w1, by first | (rw [replE, if_neg hok]; done) | (rw [replE, if_neg hok]; rfl), by rw [replF, if_neg hok, List.length_reverse]⟩, (hp.drop2.tail)⟩

theorem same_x (n : Int) (hT : tabs ∈ L) :
    CallX Tryd.prog 23 [.int .i64 n] S w0 (L) (fun u L' => ∃ v', u = .tuple #[v', .int .i64 (replE n 0 0 ⟨#[]⟩)] ∧ L' = .row v' 47 3 (replF n 0 0 ⟨#[]⟩).length (encs (replF n 0 0 ⟨#[]⟩)) :: L) := by
  intro w hp
  refine calls_start Tryd.func23 rfl rfl rfl (hp) ?_
  refine TC.seq ?_
  refine TC.region ?_   -- region 0 edit.go:308
  refine TL.opP rfl (op_assign rfl) ?_
  refine TL.opP rfl (op_assign rfl) ?_
  refine TL.nil ?_
  refine TQ.then ?_
  refine TC.seq ?_
  refine TC.region ?_   -- region 1 edit.go:308
  refine TL.opP rfl (op_move rfl) ?_
  refine TL.opX rfl (OpX.callX en_21 rfl (replace_x n 0 0 ⟨#[]⟩ (by decide) hT)) ?_; rintro _ _ ⟨w1, rfl, rfl⟩
  refine TL.opP rfl (op_extract rfl rfl) ?_
  refine TL.opP rfl (op_extract rfl rfl) ?_
  refine TL.opP rfl (op_assign rfl) ?_
  refine TL.opP rfl (op_assign rfl) ?_
  refine TL.nil ?_
  refine TQ.then ?_
  refine TC.ret ?_
  refine ret2 rfl rfl rfl (fun w' hp => ?_)
  exact ⟨_, _, rfl, ⟨_, rfl, rfl⟩, (hp)⟩

end Go.SK
