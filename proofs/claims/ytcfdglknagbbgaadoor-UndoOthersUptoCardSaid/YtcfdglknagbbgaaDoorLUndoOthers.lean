/- The law UndoOthers answers true where all that comes in is of bulk at most 2^20. -/
import Derived.Test.YtcfdglknagbbgaaDoorE99
set_option linter.unusedVariables false
set_option linter.unusedSimpArgs false
set_option maxRecDepth 100000
namespace Go.SK
open Go Go.RowKit Go.Proofs
variable {S : Nat → Prop} {w0 : World} {F L : List Res}
theorem undoOthers_law (s : ByteArray) (e : List Part) (v : Value) (f : List Part) (v2 : Value) {w : World} (hss : s.size ≤ 140737488351232) (he : EditIn w v e) (hf : EditIn w v2 f) (hB : s.size + bsum e + bsum f ≤ 1048576) (hT : Tabs w) :
    Calls Tryd.prog 4 (List.toArray [.string s, v, v2]) w fun e' w' => e' = .returned (.bool true) ∧ Kp NoB w w' := by
 have he1 := he.rd.one
 have hes := he.small
 have hel := he.len
 have hf1 := hf.rd.one
 have hfs := hf.small
 have hfl := hf.len
 refine calls_start Tryd.func4 rfl rfl rfl (Hp.i3 (r := tabs) (s := .rd v 3 e.length (encs e)) (t := .rd v2 3 f.length (encs f)) hT he.rd hf.rd) ?_
 refine TC.seq (TC.region (TL.opP rfl (op_assign rfl) (TL.nil (TQ.then (TC.seq (TC.seq (TC.region (TL.opP rfl (op_move rfl) (TL.opP rfl (op_move rfl) (TL.opP rfl (op_build (ps := #[(2, _)]) rfl (bl_sealskinlaw17_Do_2 _)) (TL.opP rfl (op_move rfl) (TL.opP rfl (op_build (ps := #[(2, _)]) rfl (bl_sealskinlaw17_Do_2 _)) ?_))))))))))))
 refine TL.opX rfl (OpX.buildSlice (ps := #[(0, _), (1, _)]) rfl (bs_sealskinlaw17_Do_2 ⟨0, 0, v, e, he1⟩ ⟨0, 0, v2, f, hf1⟩)) ?_; rintro _ _ ⟨g28, rfl, rfl⟩
 refine TL.hp (fun _ h => blk_row (k := 3) (m := 2) h rfl (by decide)) ?_
 refine TL.opX rfl (OpX.callX en_7 rfl (ushort_x s [⟨0, 0, v, e, he1⟩, ⟨0, 0, v2, f, hf1⟩] _ (by omega) rw0 (by intro d hd; simp only [List.mem_cons, List.not_mem_nil, or_false] at hd; rcases hd with rfl | rfl; exact rd2; exact rd3))) ?_; rintro _ _ ⟨b1, rfl, hb1, rfl⟩
 refine TL.opP rfl (op_not rfl rfl) (TL.nil (TQ.then ?_))
 refine TC.sp rfl (fun c1 => ?_) (fun c1 => ?_)
 ·refine TC.seq (TC.region (TL.callq rfl en_9 rfl (fun w2 hp => uawake_calls w2 (tabs_at hp m1)) (TL.opP rfl (op_assign rfl) (TL.nil (TQ.then (TC.ret (TQ.then_ret ?_)))))))
  refine ret1 rfl rfl (fun w' hp => ?_)
  exact ⟨rfl, hp.kp⟩
 ·obtain ⟨hs6, _, hdo⟩ := hb1 (by simpa using c1)
  have hel : e.length ≤ 100 := (hdo 0 (by show 0 < 2; decide)).1
  have hfl : f.length ≤ 100 := (hdo 1 (by show 1 < 2; decide)).1
  have hrd := rcount_dec s
  have hdl := dec_len s
  have hae := app_any (e := e) (s := s)
  have hsme : Sm e := ⟨he.small, by omega⟩
  have hsmf : Sm f := ⟨hf.small, by omega⟩
  refine TC.skip (TQ.then (TC.seq (TC.region (TL.opP rfl (op_move rfl) (TL.opP rfl (op_move rfl) (TL.callq rfl en_11 rfl (fun w2 hp => apply_calls e s v (by omega) w2 (tabs_at hp m1) he.small (rd2 _ _ _ hp)) (TL.opP rfl (op_move rfl) (TL.opP rfl (op_extract rfl rfl) (TL.opP rfl (op_extract rfl rfl) (TL.opP rfl (op_assign rfl) (TL.opP rfl (op_assign rfl) (TL.nil (TQ.then (TC.seq (TC.region (TL.opP rfl (op_move rfl) (TL.opP rfl (op_move rfl) (TL.callq rfl en_11 rfl (fun w2 hp => apply_calls f (applyF e s) v2 (by omega) w2 (tabs_at hp m1) hf.small (rd3 _ _ _ hp)) (TL.opP rfl (op_move rfl) (TL.opP rfl (op_extract rfl rfl) (TL.opP rfl (op_extract rfl rfl) (TL.opP rfl (op_assign rfl) (TL.opP rfl (op_assign rfl) ?_)))))))))))))))))))))))
  refine TL.nil (TQ.then (TC.seq (TC.seq (TC.region (TL.opP rfl (op_move rfl) (TL.opP rfl (op_neq rfl rfl) (TL.opP rfl (op_move rfl) ?_)))))))
  refine TL.sp (fun c2 => ?_) (fun c2 => ?_)
  ·refine TL.gFt rfl rfl rfl (TL.gFt rfl rfl rfl (TL.opP rfl (op_pickT rfl rfl) (TL.nil (TQ.then (TC.condT rfl (TC.seq (TC.region (TL.callq rfl en_9 rfl (fun w2 hp => uawake_calls w2 (tabs_at hp m1)) (TL.opP rfl (op_assign rfl) (TL.nil (TQ.then (TC.ret (TQ.then_ret ?_)))))))))))))
   refine ret1 rfl rfl (fun w' hp => ?_)
   exact ⟨rfl, hp.kp⟩
  ·refine TL.gT rfl rfl (TL.opP rfl (op_move rfl) (TL.gT rfl rfl (TL.opP rfl (op_neq rfl rfl) (TL.opP rfl (op_pickF rfl rfl) (TL.nil (TQ.then ?_))))))
   refine TC.sp rfl (fun c3 => ?_) (fun c3 => ?_)
   ·refine TC.seq (TC.region (TL.callq rfl en_9 rfl (fun w2 hp => uawake_calls w2 (tabs_at hp m1)) (TL.opP rfl (op_assign rfl) (TL.nil (TQ.then (TC.ret (TQ.then_ret ?_)))))))
    refine ret1 rfl rfl (fun w' hp => ?_)
    exact ⟨rfl, hp.kp⟩
   ·have z1 : applyE e s = 0 := Classical.not_not.1 c2
    have z2 : applyE f (applyF e s) = 0 := Classical.not_not.1 c3
    have O := oth_law z1 z2 hB
    have hw := app_any (e := f) (s := applyF e s)
    refine TC.skip (TQ.then (TC.seq (TC.region (TL.opP rfl (op_move rfl) ?_))))
    refine TL.opX rfl (OpX.callX en_10 rfl (ubegun_x s (by omega) (by omega))) ?_; rintro _ _ ⟨g2, rfl, rfl⟩
    rw [rcount_dec]
    refine TL.opP rfl (op_assign rfl) (TL.nil (TQ.then (TC.seq (TC.seq (TC.region (TL.opP rfl (op_move rfl) (TL.opP rfl (op_move rfl) (TL.opP rfl (op_move rfl) ?_))))))))
    refine TL.opX rfl (OpX.callX en_12 rfl (hmine_x (e) (s) _ _ _ _ _ _ _ hsme (by omega) (by first | omega | simp) m1 rd2)) ?_; rintro _ _ ⟨bv3, av3, hn3, pb3, pa3, rfl, hh3, rfl⟩
    have E1 : hsOf pb3 pa3 hn3 = ((hs0 s).mine e s) := hh3
    obtain ⟨bE1, aE1, qE1, lbE1, laE1⟩ := hs_eq E1
    subst qE1
    have ybE1 := (O.g1).bl
    have yaE1 := (O.g1).al
    refine TL.opP rfl (op_neq rfl rfl) (TL.opP rfl (op_move rfl) ?_)
    refine TL.sp (fun c4 => ?_) (fun c4 => ?_)
    ·exact absurd O.m c4
    ·refine TL.gT rfl rfl (TL.opP rfl (op_move rfl) (TL.gT rfl rfl (TL.opP rfl (op_move rfl) (TL.gT rfl rfl ?_))))
     refine TL.opX rfl (OpX.callX en_13 rfl (htheirs_x f _ _ _ _ _ _ _ hsmf (by omega) (by omega) (fun _ => by rw [bE1]; exact O.b.1) (fun _ => by rw [aE1]; exact O.b.2) m1 rd3)) ?_; rintro _ _ ⟨bv4, av4, hn4, pb4, pa4, rfl, hh4, rfl⟩
     rw [E1] at hh4
     rw [E1]
     have E2 : hsOf pb4 pa4 hn4 = (((hs0 s).mine e s).theirs f) := hh4
     obtain ⟨bE2, aE2, qE2, lbE2, laE2⟩ := hs_eq E2
     subst qE2
     have ybE2 := (O.g2).bl
     have yaE2 := (O.g2).al
     refine TL.gT rfl rfl (TL.opP rfl (op_neq rfl rfl) (TL.opP rfl (op_pickF rfl rfl) (TL.nil (TQ.then ?_))))
     refine TC.sp rfl (fun c5 => ?_) (fun c5 => ?_)
     ·exact absurd O.t c5
     ·refine TC.skip (TQ.then (TC.seq (TC.region (TL.opP rfl (op_move rfl) (TL.opP rfl (op_move rfl) ?_)))))
      refine TL.opX rfl (OpX.callX en_14 rfl (hundo_x (applyF f (applyF e s)) _ _ _ _ _ _ (sm_sn (by rw [bE2]; exact O.g2.smb)) (by omega) (by first | omega | simp) (by first | omega | simp) m1)) ?_; rintro _ _ ⟨bv5, av5, hn5, pb5, pa5, ve5, rfl, hh5, rfl⟩
      rw [E2]
      refine TL.opP rfl (op_move rfl) (TL.opP rfl (op_extract rfl rfl) (TL.opP rfl (op_extract rfl rfl) (TL.opP rfl (op_assign rfl) (TL.opP rfl (op_assign rfl) (TL.nil (TQ.then (TC.seq (TC.region (TL.opP rfl (op_move rfl) (TL.opP rfl (op_move rfl) ?_))))))))))
      refine TL.opX rfl (OpX.callX en_18 rfl (invert_x e s v (by omega) he.small (by omega) m5 rd6)) ?_; rintro _ _ ⟨w6, rfl, rfl⟩
      refine TL.opP rfl (op_move rfl) (TL.opP rfl (op_extract rfl rfl) (TL.opP rfl (op_extract rfl rfl) (TL.opP rfl (op_assign rfl) (TL.opP rfl (op_assign rfl) (TL.nil (TQ.then (TC.seq (TC.region (TL.opP rfl (op_move rfl) (TL.opP rfl (op_move rfl) ?_))))))))))
      refine TL.opX rfl (OpX.callX en_19 rfl (transform_x (invF e s) f _ _ (O.oi hsme).1 hf.small (O.oi hsme).2 (by omega) m6 rw0 rd8)) ?_; rintro _ _ ⟨v17, v27, rfl, rfl⟩
      refine TL.opP rfl (op_move rfl) (TL.opP rfl (op_extract rfl rfl) (TL.opP rfl (op_extract rfl rfl) (TL.opP rfl (op_extract rfl rfl) (TL.opP rfl (op_assign rfl) (TL.opP rfl (op_assign rfl) (TL.opP rfl (op_assign rfl) (TL.nil (TQ.then (TC.seq (TC.seq (TC.region (TL.opP rfl (op_move rfl) (TL.opP rfl (op_neq rfl rfl) (TL.opP rfl (op_move rfl) ?_))))))))))))))
      refine TL.sp (fun c6 => ?_) (fun c6 => ?_)
      ·exact absurd O.u c6
      ·refine TL.gT rfl rfl (TL.opP rfl (op_move rfl) (TL.gT rfl rfl (TL.opP rfl (op_neq rfl rfl) (TL.opP rfl (op_pickF rfl rfl) (TL.opP rfl (op_move rfl) ?_)))))
       refine TL.sp (fun c7 => ?_) (fun c7 => ?_)
       ·exact absurd O.i c7
       ·refine TL.gT rfl rfl (TL.opP rfl (op_move rfl) (TL.gT rfl rfl (TL.opP rfl (op_neq rfl rfl) (TL.opP rfl (op_pickF rfl rfl) (TL.nil (TQ.then ?_))))))
        refine TC.sp rfl (fun c8 => ?_) (fun c8 => ?_)
        ·exact absurd O.z c8
        ·refine TC.skip (TQ.then (TC.seq (TC.region (TL.opP rfl (op_move rfl) (TL.opP rfl (op_move rfl) (TL.callq rfl en_11 rfl (fun w2 hp => apply_calls (trF2 (invF e s) f) s _ (by omega) w2 (tabs_at hp m8) O.st.1 (rw1 _ _ _ hp)) (TL.opP rfl (op_move rfl) (TL.opP rfl (op_extract rfl rfl) (TL.opP rfl (op_extract rfl rfl) (TL.opP rfl (op_assign rfl) (TL.opP rfl (op_assign rfl) (TL.nil (TQ.then (TC.seq (TC.region (TL.opP rfl (op_move rfl) (TL.opP rfl (op_move rfl) (TL.callq rfl en_11 rfl (fun w2 hp => apply_calls ((((hs0 s).mine e s).theirs f).undoF (applyF f (applyF e s))) (applyF f (applyF e s)) _ (by omega) w2 (tabs_at hp m8) (moveF_sm O.g2.smb).1 (rw3 _ _ _ hp)) (TL.opP rfl (op_move rfl) (TL.opP rfl (op_extract rfl rfl) ?_))))))))))))))))))))
         refine TL.opP rfl (op_extract rfl rfl) (TL.opP rfl (op_assign rfl) (TL.opP rfl (op_assign rfl) (TL.nil (TQ.then (TC.seq (TC.region (TL.opP rfl (op_move rfl) (TL.opP rfl (op_eql rfl rfl) (TL.opP rfl (op_move rfl) ?_)))))))))
         refine TL.sp (fun c9 => ?_) (fun c9 => ?_)
         ·refine TL.gT rfl rfl (TL.opP rfl (op_move rfl) (TL.gT rfl rfl (TL.opP rfl (op_eql rfl rfl) (TL.opP rfl (op_pickT rfl rfl) (TL.opP rfl (op_move rfl) ?_)))))
          refine TL.sp (fun c10 => ?_) (fun c10 => ?_)
          ·refine TL.gT rfl rfl (TL.opP rfl (op_move rfl) (TL.gT rfl rfl (TL.opP rfl (op_move rfl) (TL.gT rfl rfl (TL.opP rfl (op_seql rfl rfl) (TL.opP rfl (op_pickT rfl rfl) (TL.opP rfl (op_move rfl) ?_)))))))
           refine TL.sp (fun c11 => ?_) (fun c11 => ?_)
           ·refine TL.gT rfl rfl (TL.callq rfl en_9 rfl (fun w2 hp => uawake_calls w2 (tabs_at hp m8)) (TL.opP rfl (op_pickT rfl rfl) (TL.opP rfl (op_assign rfl) (TL.nil (TQ.then (TC.ret ?_))))))
            refine ret1 rfl rfl (fun w' hp => ?_)
            exact ⟨rfl, hp.kp⟩
           ·exact absurd O.q c11
          ·exact absurd O.a2 c10
         ·exact absurd O.a1 c9

end Go.SK
