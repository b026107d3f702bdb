/- The law EditReplaces answers true. -/
import Derived.Test.YtgklklmcmdcpgaaDoorE10
import Derived.Test.YtgklklmcmdcpgaaDoorP7
set_option linter.unusedVariables false
set_option linter.unusedSimpArgs false
set_option maxRecDepth 100000
namespace Go.SK
open Go Go.RowKit Go.Proofs
variable {S : Nat → Prop} {w0 : World} {F L : List Res}
theorem editReplaces_law (n a k : Int) (s : ByteArray) (hs : s.size ≤ 140737488351232) (w : World) (hT : Tabs w) :
    Calls Tryd.prog 3 (List.toArray [.int .i64 n, .int .i64 a, .int .i64 k, .string s]) w fun e w' => e = .returned (.bool true) ∧ Kp NoB w w' := by
  refine calls_start Tryd.func3 rfl rfl rfl (Hp.i1 (r := tabs) hT) ?_
  refine TC.seq ?_
  refine TC.region ?_   -- region 0 law.go:91
  refine TL.opP rfl (op_assign rfl) ?_
  refine TL.nil ?_
  refine TQ.then ?_
  refine TC.seq ?_
  refine TC.seq ?_
  refine TC.region ?_   -- region 1 law.go:92
  refine TL.opP rfl (op_move rfl) ?_
  refine TL.opP rfl (op_slen rfl un_string rfl) ?_
  refine TL.opP rfl (op_gtr rfl rfl) ?_
  refine TL.nil ?_
  refine TQ.then ?_
  first | refine TC.condD rfl (fun c1 => ?_) (fun c1 => ?_) | refine TC.condB rfl (fun c1 => ?_) (fun c1 => ?_)
  · refine TC.seq ?_
    refine TC.region ?_   -- region 2 law.go:93
    refine TL.callq rfl en_20 rfl (fun w2 hp => awake_calls w2 (tabs_at hp m0)) ?_
    refine TL.opP rfl (op_assign rfl) ?_
    refine TL.nil ?_
    refine TQ.then ?_
    refine TC.ret ?_
    refine TQ.then_ret ?_
    refine ret1 rfl rfl (fun w' hp => ?_)
    exact ⟨rfl, hp.kp⟩
  · refine TC.skip ?_
    refine TQ.then ?_
    refine TC.seq ?_
    refine TC.region ?_   -- region 3 law.go:95
    refine TL.opP rfl (op_move rfl) ?_
    refine TL.opP rfl (op_move rfl) ?_
    refine TL.opP rfl (op_move rfl) ?_
    refine TL.opP rfl (op_move rfl) ?_
    refine TL.opX rfl (OpX.callX en_21 rfl (replace_x n a k s (by omega) m0)) ?_; rintro _ _ ⟨w1, rfl, rfl⟩
    refine TL.opP rfl (op_move rfl) ?_
    refine TL.opP rfl (op_extract rfl rfl) ?_
    refine TL.opP rfl (op_extract rfl rfl) ?_
    refine TL.opP rfl (op_assign rfl) ?_
    refine TL.opP rfl (op_assign rfl) ?_
    refine TL.nil ?_
    refine TQ.then ?_
    refine TC.seq ?_
    refine TC.region ?_   -- region 4 law.go:96
    refine TL.opP rfl (op_move rfl) ?_
    refine TL.opP rfl (op_move rfl) ?_
    refine TL.opP rfl (op_move rfl) ?_
    refine TL.opP rfl (op_move rfl) ?_
    refine TL.opX rfl (OpX.callX en_22 rfl (rreplace_x n a k s (by omega))) ?_; rintro _ _ ⟨w2, rfl, rfl⟩
    refine TL.opP rfl (op_move rfl) ?_
    refine TL.opP rfl (op_extract rfl rfl) ?_
    refine TL.opP rfl (op_extract rfl rfl) ?_
    refine TL.opP rfl (op_assign rfl) ?_
    refine TL.opP rfl (op_assign rfl) ?_
    refine TL.nil ?_
    refine TQ.then ?_
    refine TC.seq ?_
    refine TC.region ?_   -- region 5 law.go:97
    refine TL.opP rfl (op_move rfl) ?_
    refine TL.opX rfl (OpX.callX en_23 rfl (same_x n m2)) ?_; rintro _ _ ⟨w3, rfl, rfl⟩
    refine TL.opP rfl (op_move rfl) ?_
    refine TL.opP rfl (op_extract rfl rfl) ?_
    refine TL.opP rfl (op_extract rfl rfl) ?_
    refine TL.opP rfl (op_assign rfl) ?_
    refine TL.opP rfl (op_assign rfl) ?_
    refine TL.nil ?_
    refine TQ.then ?_
    refine TC.seq ?_
    refine TC.region ?_   -- region 6 law.go:98
    refine TL.opP rfl (op_move rfl) ?_
    refine TL.opX rfl (OpX.callX en_22 rfl (rreplace_x n 0 0 ⟨#[]⟩ (by decide))) ?_; rintro _ _ ⟨w4, rfl, rfl⟩
    refine TL.opP rfl (op_move rfl) ?_
    refine TL.opP rfl (op_extract rfl rfl) ?_
    refine TL.opP rfl (op_extract rfl rfl) ?_
    refine TL.opP rfl (op_assign rfl) ?_
    refine TL.opP rfl (op_assign rfl) ?_
    refine TL.nil ?_
    refine TQ.then ?_
    refine TC.seq ?_
    refine TC.region ?_   -- region 7 law.go:99
    refine TL.opP rfl (op_move rfl) ?_
    refine TL.opP rfl (op_move rfl) ?_
    refine TL.callq rfl en_24 rfl (fun w2 hp => rsame_calls (replF n a k s) (replRef n a k s) _ _ w2 (rw3 _ _ _ hp) (rw2 _ _ _ hp)) ?_
    refine TL.opP rfl (op_move rfl) ?_
    first | refine TL.splitD (fun c2 => ?_) (fun c2 => ?_) | refine TL.splitB (fun c2 => ?_) (fun c2 => ?_)
    · refine TL.gT rfl rfl ?_
      refine TL.opP rfl (op_move rfl) ?_
      refine TL.gT rfl rfl ?_
      refine TL.opP rfl (op_move rfl) ?_
      refine TL.gT rfl rfl ?_
      refine TL.opP rfl (op_eql rfl rfl) ?_
      refine TL.opP rfl (op_pickT rfl rfl) ?_
      refine TL.opP rfl (op_move rfl) ?_
      first | refine TL.splitD (fun c3 => ?_) (fun c3 => ?_) | refine TL.splitB (fun c3 => ?_) (fun c3 => ?_)
      · refine TL.gT rfl rfl ?_
        refine TL.opP rfl (op_move rfl) ?_
        refine TL.gT rfl rfl ?_
        refine TL.opP rfl (op_move rfl) ?_
        refine TL.gT rfl rfl ?_
        refine TL.callq rfl en_24 rfl (fun w2 hp => rsame_calls (replF n 0 0 ⟨#[]⟩) (replRef n 0 0 ⟨#[]⟩) _ _ w2 (rw1 _ _ _ hp) (rw0 _ _ _ hp)) ?_
        refine TL.opP rfl (op_pickT rfl rfl) ?_
        refine TL.opP rfl (op_move rfl) ?_
        first | refine TL.splitD (fun c4 => ?_) (fun c4 => ?_) | refine TL.splitB (fun c4 => ?_) (fun c4 => ?_)
        · refine TL.gT rfl rfl ?_
          refine TL.opP rfl (op_move rfl) ?_
          refine TL.gT rfl rfl ?_
          refine TL.opP rfl (op_move rfl) ?_
          refine TL.gT rfl rfl ?_
          refine TL.opP rfl (op_eql rfl rfl) ?_
          refine TL.opP rfl (op_pickT rfl rfl) ?_
          refine TL.opP rfl (op_move rfl) ?_
          first | refine TL.splitD (fun c5 => ?_) (fun c5 => ?_) | refine TL.splitB (fun c5 => ?_) (fun c5 => ?_)
          · refine TL.gT rfl rfl ?_
            refine TL.opP rfl (op_move rfl) ?_
            refine TL.gT rfl rfl ?_
            refine TL.opP rfl (op_neq rfl rfl) ?_
            refine TL.gT rfl rfl ?_
            refine TL.opP rfl (op_move rfl) ?_
            first | refine TL.splitD (fun c6 => ?_) (fun c6 => ?_) | refine TL.splitB (fun c6 => ?_) (fun c6 => ?_)
            · refine TL.gFt rfl rfl rfl ?_
              refine TL.gFt rfl rfl rfl ?_
              refine TL.gFt rfl rfl rfl ?_
              refine TL.gFt rfl rfl rfl ?_
              refine TL.gT rfl rfl ?_
              refine TL.opP rfl (op_pickT rfl rfl) ?_
              refine TL.opP rfl (op_pickT rfl rfl) ?_
              refine TL.opP rfl (op_move rfl) ?_
              refine TL.gT rfl rfl ?_
              refine TL.callq rfl en_20 rfl (fun w2 hp => awake_calls w2 (tabs_at hp m4)) ?_
              refine TL.opP rfl (op_pickT rfl rfl) ?_
              refine TL.opP rfl (op_assign rfl) ?_
              refine TL.nil ?_
              refine TQ.then ?_
              refine TC.ret ?_
              refine ret1 rfl rfl (fun w' hp => ?_)
              exact ⟨rfl, hp.kp⟩
            · refine TL.gT rfl rfl ?_
              refine TL.opP rfl (op_move rfl) ?_
              refine TL.gT rfl rfl ?_
              refine TL.opP rfl (op_move rfl) ?_
              refine TL.gT rfl rfl ?_
              refine TL.callq rfl en_25 rfl (fun w2 hp => check_calls (replF n a k s) n _ w2 (tabs_at hp m4) (repl_small n a k s) (rw3 _ _ _ hp)) ?_
              refine TL.gT rfl rfl ?_
              refine TL.opP rfl (op_eql rfl rfl) ?_
              refine TL.gT rfl rfl ?_
              refine TL.opP rfl (op_pickF rfl rfl) ?_
              refine TL.opP rfl (op_pickT rfl rfl) ?_
              refine TL.opP rfl (op_move rfl) ?_
              first | refine TL.splitD (fun c7 => ?_) (fun c7 => ?_) | refine TL.splitB (fun c7 => ?_) (fun c7 => ?_)
              · refine TL.gT rfl rfl ?_
                refine TL.callq rfl en_20 rfl (fun w2 hp => awake_calls w2 (tabs_at hp m4)) ?_
                refine TL.opP rfl (op_pickT rfl rfl) ?_
                refine TL.opP rfl (op_assign rfl) ?_
                refine TL.nil ?_
                refine TQ.then ?_
                refine TC.ret ?_
                refine ret1 rfl rfl (fun w' hp => ?_)
                exact ⟨rfl, hp.kp⟩
              · exact absurd (repl_check (by omega)) c7
          · exact absurd rfl c5
        · exact absurd (repl_same n 0 0 ⟨#[]⟩) c4
      · exact absurd rfl c3
    · exact absurd (repl_same n a k s) c2

end Go.SK
