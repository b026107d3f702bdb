/- The law LinesTurned answers true. -/
import Derived.Test.YtpomdenbgdgbhaaDoorE57
set_option linter.unusedVariables false
set_option linter.unusedSimpArgs false
set_option maxRecDepth 100000
namespace Go.SK
open Go Go.RowKit Go.Proofs
variable {S : Nat → Prop} {w0 : World} {F L : List Res}
theorem linesTurned_law (s : ByteArray) (n : Int) {w : World}  (hs0 : s.size ≤ 140737488351232) (hT : Tabs w) :
    Calls Tryd.prog 5 (List.toArray [.string s, .int .i64 n]) w fun e' w' => e' = .returned (.bool true) ∧ Kp NoB w w' := by
 refine calls_start Tryd.func5 rfl rfl rfl (Hp.i1 (r := tabs) hT) ?_
 refine TC.seq ?_
 refine TC.region ?_
 refine TL.opP rfl (op_assign rfl) ?_
 refine TL.nil ?_
 refine TQ.then ?_
 refine TC.seq ?_
 refine TC.seq ?_
 refine TC.region ?_
 refine TL.opP rfl (op_move rfl) ?_
 refine TL.opX rfl (OpX.buildSlice (ps := #[(0, _)]) rfl (bs_string_1 _)) ?_; rintro _ _ ⟨g20, rfl, rfl⟩
 refine TL.hp (fun _ h => blk_row (k := 1) (m := 1) h rfl (by decide)) ?_
 refine TL.opX rfl (OpX.callX en_17 rfl (long_x [s] _ rw0)) ?_; rintro _ _ ⟨b1, rfl, hb1, rfl⟩
 refine TL.opP rfl (op_move rfl) ?_
 first | refine TL.splitD (fun c1 => ?_) (fun c1 => ?_) | refine TL.splitB (fun c1 => ?_) (fun c1 => ?_)
 ·refine TL.gFt rfl rfl rfl ?_
  refine TL.gFt rfl rfl rfl ?_
  refine TL.gFt rfl rfl rfl ?_
  refine TL.opP rfl (op_pickT rfl rfl) ?_
  refine TL.nil ?_
  refine TQ.then ?_
  refine TC.condT rfl ?_
  refine TC.seq ?_
  refine TC.region ?_
  refine TL.callq rfl en_19 rfl (fun w2 hp => lawake_calls w2 (tabs_at hp m1)) ?_
  refine TL.opP rfl (op_assign rfl) ?_
  refine TL.nil ?_
  refine TQ.then ?_
  refine TC.ret ?_
  refine TQ.then_ret ?_
  refine ret1 rfl rfl (fun w' hp => ?_)
  exact ⟨rfl, hp.kp⟩
 ·have hzs : s.size ≤ 2048 := hb1 c1 s (by simp)
  have hds := dec_len s
  refine TL.gT rfl rfl ?_
  refine TL.opP rfl (op_move rfl) ?_
  refine TL.gT rfl rfl ?_
  refine TL.callq rfl en_18 rfl (fun w2 hp => valid_calls s w2 (tabs_at hp m1) (by omega)) ?_
  refine TL.gT rfl rfl ?_
  refine TL.opP rfl (op_not rfl rfl) ?_
  refine TL.opP rfl (op_pickF rfl rfl) ?_
  refine TL.nil ?_
  refine TQ.then ?_
  first | refine TC.condD rfl (fun c2 => ?_) (fun c2 => ?_) | refine TC.condB rfl (fun c2 => ?_) (fun c2 => ?_)
  ·refine TC.seq ?_
   refine TC.region ?_
   refine TL.callq rfl en_19 rfl (fun w2 hp => lawake_calls w2 (tabs_at hp m1)) ?_
   refine TL.opP rfl (op_assign rfl) ?_
   refine TL.nil ?_
   refine TQ.then ?_
   refine TC.ret ?_
   refine TQ.then_ret ?_
   refine ret1 rfl rfl (fun w' hp => ?_)
   exact ⟨rfl, hp.kp⟩
  ·have hv : valid s = true := by simpa using c2
   obtain ⟨m, hm, hml⟩ := mod_nat n (show (dec s).length ≤ 65536 by omega)
   obtain ⟨t1, t2, t3, t4, t5, t6, t7, t8, t9, t10⟩ := turned_law (l := dec s) (i := m) hml (by omega)
   rw [← hm] at t1 t2 t3 t4 t5 t6 t7 t8 t9 t10
   have hes := (enc_size (((dec s).drop (bg (dec s) (whL (dec s) (modI n (dec s).length)))).take (en (dec s) (whL (dec s) (modI n (dec s).length)) - bg (dec s) (whL (dec s) (modI n (dec s).length))))).2
   rw [← t10, List.length_take, List.length_drop] at hes
   have t11 : ((rcount (lineF (dec s) (whL (dec s) (modI n (dec s).length))) : Nat) : Int) = whC (dec s) (atF (dec s) (whL (dec s) (modI n (dec s).length)) 1099511627776) := by rw [t8, t10, rcount_enc (fun x hx => dec_scalar hv x (List.mem_of_mem_drop (List.mem_of_mem_take hx)))]
   refine TC.skip ?_
   refine TQ.then ?_
   refine TC.seq ?_
   refine TC.region ?_
   refine TL.opP rfl (op_move rfl) ?_
   refine TL.opX rfl (OpX.callX en_21 rfl (lindex_x s hv (by omega) m1)) ?_; rintro _ _ ⟨g2, tv2, bv2, rfl, rfl⟩
   refine TL.opP rfl (op_assign rfl) ?_
   refine TL.nil ?_
   refine TQ.then ?_
   refine TC.seq ?_
   refine TC.region ?_
   refine TL.opP rfl (op_move rfl) ?_
   refine TL.opP rfl (op_int un_uint rfl rfl) ?_
   refine TL.opP rfl (op_move rfl) ?_
   refine TL.opX rfl (OpX.callX en_28 rfl (lsize_x (dec s) _ _ _ rd0 rd1)) ?_; rintro _ _ ⟨rfl, rfl⟩
   refine TL.opP rfl (op_add rfl rfl rfl (by omega) (by omega)) ?_
   refine TL.opP rfl (op_int un_uint rfl rfl) ?_
   refine TL.opP rfl (op_rem rfl rfl (u64_pos _) (mod_pos (by omega))) ?_
   refine TL.opP rfl (op_int un_int rfl rfl) ?_
   refine TL.opP rfl (op_assign rfl) ?_
   refine TL.nil ?_
   refine TQ.then ?_
   refine TC.seq ?_
   refine TC.region ?_
   refine TL.opP rfl (op_move rfl) ?_
   refine TL.opP rfl (op_move rfl) ?_
   refine TL.opX rfl (OpX.callX en_29 rfl (lwhere_x (dec s) _ _ _ rd0 rd1 (modI n (dec s).length) (by omega))) ?_; rintro _ _ ⟨rfl, rfl⟩
   refine TL.opP rfl (op_move rfl) ?_
   refine TL.opP rfl (op_extract rfl rfl) ?_
   refine TL.opP rfl (op_extract rfl rfl) ?_
   refine TL.opP rfl (op_extract rfl rfl) ?_
   refine TL.opP rfl (op_assign rfl) ?_
   refine TL.opP rfl (op_assign rfl) ?_
   refine TL.opP rfl (op_assign rfl) ?_
   refine TL.nil ?_
   refine TQ.then ?_
   refine TC.seq ?_
   refine TC.region ?_
   refine TL.opP rfl (op_move rfl) ?_
   refine TL.opP rfl (op_move rfl) ?_
   refine TL.opP rfl (op_move rfl) ?_
   refine TL.opX rfl (OpX.callX en_30 rfl (lat_x (dec s) _ _ _ rd0 rd1 (whL (dec s) (modI n (dec s).length)) (whC (dec s) (modI n (dec s).length)))) ?_; rintro _ _ ⟨rfl, rfl⟩
   refine TL.opP rfl (op_move rfl) ?_
   refine TL.opP rfl (op_extract rfl rfl) ?_
   refine TL.opP rfl (op_extract rfl rfl) ?_
   refine TL.opP rfl (op_assign rfl) ?_
   refine TL.opP rfl (op_assign rfl) ?_
   refine TL.nil ?_
   refine TQ.then ?_
   refine TC.seq ?_
   refine TC.region ?_
   refine TL.opP rfl (op_move rfl) ?_
   refine TL.opP rfl (op_move rfl) ?_
   refine TL.opX rfl (OpX.callX en_30 rfl (lat_x (dec s) _ _ _ rd0 rd1 (whL (dec s) (modI n (dec s).length)) 1099511627776)) ?_; rintro _ _ ⟨rfl, rfl⟩
   refine TL.opP rfl (op_move rfl) ?_
   refine TL.opP rfl (op_extract rfl rfl) ?_
   refine TL.opP rfl (op_extract rfl rfl) ?_
   refine TL.opP rfl (op_assign rfl) ?_
   refine TL.opP rfl (op_assign rfl) ?_
   refine TL.nil ?_
   refine TQ.then ?_
   refine TC.seq ?_
   refine TC.region ?_
   refine TL.opP rfl (op_move rfl) ?_
   refine TL.opP rfl (op_move rfl) ?_
   refine TL.opX rfl (OpX.callX en_29 rfl (lwhere_x (dec s) _ _ _ rd0 rd1 (atF (dec s) (whL (dec s) (modI n (dec s).length)) 1099511627776) (by omega))) ?_; rintro _ _ ⟨rfl, rfl⟩
   refine TL.opP rfl (op_move rfl) ?_
   refine TL.opP rfl (op_extract rfl rfl) ?_
   refine TL.opP rfl (op_extract rfl rfl) ?_
   refine TL.opP rfl (op_extract rfl rfl) ?_
   refine TL.opP rfl (op_assign rfl) ?_
   refine TL.opP rfl (op_assign rfl) ?_
   refine TL.opP rfl (op_assign rfl) ?_
   refine TL.nil ?_
   refine TQ.then ?_
   refine TC.seq ?_
   refine TC.region ?_
   refine TL.opP rfl (op_move rfl) ?_
   refine TL.opP rfl (op_move rfl) ?_
   refine TL.opX rfl (OpX.callX en_31 rfl (lline_x (dec s) _ _ _ rd0 rd1 (whL (dec s) (modI n (dec s).length)))) ?_; rintro _ _ ⟨rfl, rfl⟩
   refine TL.opP rfl (op_move rfl) ?_
   refine TL.opP rfl (op_extract rfl rfl) ?_
   refine TL.opP rfl (op_extract rfl rfl) ?_
   refine TL.opP rfl (op_assign rfl) ?_
   refine TL.opP rfl (op_assign rfl) ?_
   refine TL.nil ?_
   refine TQ.then ?_
   refine TC.seq ?_
   refine TC.region ?_
   refine TL.opP rfl (op_move rfl) ?_
   refine TL.opP rfl (op_eql rfl rfl) ?_
   refine TL.opP rfl (op_move rfl) ?_
   first | refine TL.splitD (fun c3 => ?_) (fun c3 => ?_) | refine TL.splitB (fun c3 => ?_) (fun c3 => ?_)
   ·refine TL.gT rfl rfl ?_
    refine TL.opP rfl (op_move rfl) ?_
    refine TL.gT rfl rfl ?_
    refine TL.opP rfl (op_eql rfl rfl) ?_
    refine TL.opP rfl (op_pickT rfl rfl) ?_
    refine TL.opP rfl (op_move rfl) ?_
    first | refine TL.splitD (fun c4 => ?_) (fun c4 => ?_) | refine TL.splitB (fun c4 => ?_) (fun c4 => ?_)
    ·refine TL.gT rfl rfl ?_
     refine TL.opP rfl (op_move rfl) ?_
     refine TL.gT rfl rfl ?_
     refine TL.opP rfl (op_move rfl) ?_
     refine TL.gT rfl rfl ?_
     refine TL.opP rfl (op_eql rfl rfl) ?_
     refine TL.opP rfl (op_pickT rfl rfl) ?_
     refine TL.opP rfl (op_move rfl) ?_
     first | refine TL.splitD (fun c5 => ?_) (fun c5 => ?_) | refine TL.splitB (fun c5 => ?_) (fun c5 => ?_)
     ·refine TL.gT rfl rfl ?_
      refine TL.opP rfl (op_move rfl) ?_
      refine TL.gT rfl rfl ?_
      refine TL.opP rfl (op_eql rfl rfl) ?_
      refine TL.opP rfl (op_pickT rfl rfl) ?_
      refine TL.opP rfl (op_move rfl) ?_
      first | refine TL.splitD (fun c6 => ?_) (fun c6 => ?_) | refine TL.splitB (fun c6 => ?_) (fun c6 => ?_)
      ·refine TL.gT rfl rfl ?_
       refine TL.opP rfl (op_move rfl) ?_
       refine TL.gT rfl rfl ?_
       refine TL.opP rfl (op_eql rfl rfl) ?_
       refine TL.opP rfl (op_pickT rfl rfl) ?_
       refine TL.opP rfl (op_move rfl) ?_
       first | refine TL.splitD (fun c7 => ?_) (fun c7 => ?_) | refine TL.splitB (fun c7 => ?_) (fun c7 => ?_)
       ·refine TL.gT rfl rfl ?_
        refine TL.opP rfl (op_move rfl) ?_
        refine TL.gT rfl rfl ?_
        refine TL.opP rfl (op_eql rfl rfl) ?_
        refine TL.opP rfl (op_pickT rfl rfl) ?_
        refine TL.opP rfl (op_move rfl) ?_
        first | refine TL.splitD (fun c8 => ?_) (fun c8 => ?_) | refine TL.splitB (fun c8 => ?_) (fun c8 => ?_)
        ·refine TL.gT rfl rfl ?_
         refine TL.opP rfl (op_move rfl) ?_
         refine TL.gT rfl rfl ?_
         refine TL.opP rfl (op_move rfl) ?_
         refine TL.gT rfl rfl ?_
         refine TL.opP rfl (op_eql rfl rfl) ?_
         refine TL.opP rfl (op_pickT rfl rfl) ?_
         refine TL.opP rfl (op_move rfl) ?_
         first | refine TL.splitD (fun c9 => ?_) (fun c9 => ?_) | refine TL.splitB (fun c9 => ?_) (fun c9 => ?_)
         ·refine TL.gT rfl rfl ?_
          refine TL.opP rfl (op_move rfl) ?_
          refine TL.gT rfl rfl ?_
          refine TL.opP rfl (op_move rfl) ?_
          refine TL.gT rfl rfl ?_
          refine TL.callq rfl en_32 rfl (fun w2 hp => rcount_calls _ _ (by omega)) ?_
          refine TL.gT rfl rfl ?_
          refine TL.opP rfl (op_eql rfl rfl) ?_
          refine TL.opP rfl (op_pickT rfl rfl) ?_
          refine TL.opP rfl (op_move rfl) ?_
          first | refine TL.splitD (fun c10 => ?_) (fun c10 => ?_) | refine TL.splitB (fun c10 => ?_) (fun c10 => ?_)
          ·refine TL.gT rfl rfl ?_
           refine TL.opP rfl (op_move rfl) ?_
           refine TL.gT rfl rfl ?_
           refine TL.opP rfl (op_move rfl) ?_
           refine TL.gT rfl rfl ?_
           refine TL.opP rfl (op_geq rfl rfl) ?_
           refine TL.opP rfl (op_pickT rfl rfl) ?_
           refine TL.opP rfl (op_move rfl) ?_
           first | refine TL.splitD (fun c11 => ?_) (fun c11 => ?_) | refine TL.splitB (fun c11 => ?_) (fun c11 => ?_)
           ·refine TL.gT rfl rfl ?_
            refine TL.callq rfl en_19 rfl (fun w2 hp => lawake_calls w2 (tabs_at hp m4)) ?_
            refine TL.opP rfl (op_pickT rfl rfl) ?_
            refine TL.opP rfl (op_assign rfl) ?_
            refine TL.nil ?_
            refine TQ.then ?_
            refine TC.ret ?_
            refine ret1 rfl rfl (fun w' hp => ?_)
            exact ⟨rfl, hp.kp⟩
           ·exact absurd t9 c11
          ·exact absurd t11.symm c10
         ·exact absurd t7 c9
        ·exact absurd t6 c8
       ·exact absurd t5 c7
      ·exact absurd t4 c6
     ·exact absurd t3 c5
    ·exact absurd t2 c4
   ·exact absurd t1 c3

end Go.SK
