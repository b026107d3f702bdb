/- Walks: the document's own application, cursor, inverse and composition. -/
import Derived.Test.YtgklklmcmdcpgaaDoorE13
import Derived.Test.YtgklklmcmdcpgaaDoorP23
set_option linter.unusedVariables false
set_option linter.unusedSimpArgs false
set_option maxRecDepth 100000
namespace Go.SK
open Go Go.RowKit Go.Proofs
variable {S : Nat → Prop} {w0 : World} {F L : List Res}
theorem charsE_x (t : List Int) (ht : ∀ x ∈ t, scalar x) (hs : (enc t).size ≤ 4398046511104) :
    CallX Tryd.prog 62 [.string (enc t)] S w0 L (fun u L' => ∃ v', u = v' ∧ L' = .row v' 9 1 t.length (t.map chv) :: L) := by
  have := chars_x (S := S) (w0 := w0) (L := L) (enc t) hs
  rw [dec_enc ht] at this
  exact this
theorem rapply_calls (e : List Part) (s : ByteArray) (v : Value) (hss : s.size ≤ 1073741824) (hle : e.length ≤ 4398046511104) (w : World) (hs : ∀ p ∈ e, p.text.size < 9223372036854775807) (hv : RdRow w v 3 e.length (encs e)) :
    Calls Tryd.prog 35 (List.toArray [v, .string s]) w fun e' w' => e' = .returned (.tuple #[.string (applyF e s), .int .i64 (applyE e s)]) ∧ Kp NoB w w' := by
  have hdl := dec_len s
  refine calls_start Tryd.func35 rfl rfl rfl (Hp.i1 (r := .rd v 3 e.length (encs e)) hv) ?_
  refine TC.seq ?_
  refine TC.region ?_   -- region 0 ref.go:196
  refine TL.opP rfl (op_assign rfl) ?_
  refine TL.opP rfl (op_assign rfl) ?_
  refine TL.nil ?_
  refine TQ.then ?_
  refine TC.seq ?_
  refine TC.region ?_   -- region 1 ref.go:197
  refine TL.opP rfl (op_move rfl) ?_
  refine TL.opX rfl (OpX.bytes un_string tsl_uint8 un_uint8 rfl (by simp only [maxLen]; omega)) ?_; rintro v1 _ rfl
  refine TL.know (fun _ h => rd1' h) (fun o1 => ?_)
  refine TL.callq rfl en_56 rfl (fun w2 hp => runes_calls s.data.toList _ w2 (by rw [size_len]; exact rd0 _ _ _ hp)) ?_
  refine TL.opP rfl (op_assign rfl) ?_
  refine TL.nil ?_
  refine TQ.then ?_
  refine TC.join (ι := Unit) (fun _u => [(0, v), (1, .string s), (6, .int .i64 ((dec s).length : Int))]) (fun _u => [.rd v 3 e.length (encs e)]) (fun _u => valid s = true ∧ Ok e ∧ fromS e = ((dec s).length : Nat)) ?_ ?_
  · refine TC.seq ?_
    refine TC.region ?_   -- region 2 ref.go:198
    refine TL.opP rfl (op_move rfl) ?_
    refine TL.opP rfl (op_lss rfl rfl) ?_
    refine TL.opP rfl (op_move rfl) ?_
    first | refine TL.splitD (fun c1 => ?_) (fun c1 => ?_) | refine TL.splitB (fun c1 => ?_) (fun c1 => ?_)
    · refine TL.gFt rfl rfl rfl ?_
      refine TL.gFt rfl rfl rfl ?_
      refine TL.gFt rfl rfl rfl ?_
      refine TL.gFt rfl rfl rfl ?_
      refine TL.opP rfl (op_pickT rfl rfl) ?_
      refine TL.nil ?_
      refine TQ.then ?_
      refine TC.condT rfl ?_
      refine TC.seq ?_
      refine TC.region ?_   -- region 3 ref.go:199
      refine TL.opP rfl (op_assign rfl) ?_
      refine TL.opP rfl (op_assign rfl) ?_
      refine TL.nil ?_
      refine TQ.then ?_
      refine TC.ret ?_
      refine TQ.join_ret ?_
      refine ret2 rfl rfl rfl (fun w' hp => ?_)
      first
        | (have hbad : applyBad e s := applyBad_of (by first | exact .inl c1 | exact .inr c2)
           exact ⟨by rw [(apply_bad hbad).1, (apply_bad hbad).2], hp.kp⟩)
        | exact ⟨by rw [l1, l2, ← hI.stop (by omega) (by omega) ht2], hp.kp⟩
    · refine TL.gT rfl rfl ?_
      refine TL.opP rfl (op_move rfl) ?_
      refine TL.gT rfl rfl ?_
      refine TL.opP rfl (op_move rfl) ?_
      refine TL.gT rfl rfl ?_
      refine TL.callq rfl en_29 rfl (fun w2 hp => rcheck_calls e _ v w2 hs (rd1 _ _ _ hp)) ?_
      refine TL.gT rfl rfl ?_
      refine TL.opP rfl (op_neq rfl rfl) ?_
      refine TL.opP rfl (op_pickF rfl rfl) ?_
      refine TL.nil ?_
      refine TQ.then ?_
      first | refine TC.condD rfl (fun c2 => ?_) (fun c2 => ?_) | refine TC.condB rfl (fun c2 => ?_) (fun c2 => ?_)
      · refine TC.seq ?_
        refine TC.region ?_   -- region 3 ref.go:199
        refine TL.opP rfl (op_assign rfl) ?_
        refine TL.opP rfl (op_assign rfl) ?_
        refine TL.nil ?_
        refine TQ.then ?_
        refine TC.ret ?_
        refine TQ.join_ret ?_
        refine ret2 rfl rfl rfl (fun w' hp => ?_)
        first
          | (have hbad : applyBad e s := applyBad_of (by first | exact .inl c1 | exact .inr c2)
             exact ⟨by rw [(apply_bad hbad).1, (apply_bad hbad).2], hp.kp⟩)
          | exact ⟨by rw [l1, l2, ← hI.stop (by omega) (by omega) ht2], hp.kp⟩
      · obtain ⟨hr0, hv0, oe0, hn0⟩ := applyOk_of c1 c2
        refine TC.skip ?_
        exact TQ.join (()) (⟨hv0, oe0, hn0⟩) ⟨rfl, rfl, gi rfl (by omega), trivial⟩ (fun _ h => h.tail)
  · rintro _ ⟨hv', oe, hn⟩
    obtain ⟨l1, l2, _, l4, l5⟩ := apply_law hv' oe hn
    have hPl := spP_len oe.1
    have hDl := dv_len oe.1
    have hto := oe.2.2.2
    rw [l4] at l5
    refine TC.seq ?_
    refine TC.region ?_   -- region 4 ref.go:201
    refine TL.opP rfl (op_move rfl) ?_
    refine TL.opP rfl (op_move rfl) ?_
    refine TL.opX rfl (OpX.callX en_61 rfl (spread_x e ((dec s).length) v oe hn (by omega) rd0)) ?_; rintro _ _ ⟨vp2, vd2, rfl, rfl⟩
    refine TL.know (fun _ h => row1 h) (fun op1 => ?_)
    refine TL.know (fun _ h => row1 h.pick1) (fun op2 => ?_)
    refine TL.opX rfl (OpX.alloc tz_sealskinref03_Wide rfl) ?_; rintro _ _ ⟨g7, rfl, rfl⟩
    refine TL.opX0 (OpX.storeS tst_sealskinref03_Wide rfl rfl rfl rfl rfl (by first | exact (List.all_eq_true.1 rfl) | (intro u hu; simp only [List.mem_cons, List.not_mem_nil, or_false] at hu; rcases hu with rfl | rfl <;> assumption))) ?_; rintro _ _ rfl
    refine TL.nil ?_
    refine TQ.then ?_
    refine TC.seq ?_
    refine TC.region ?_   -- region 5 ref.go:202
    refine TL.opP rfl (op_assign rfl) ?_
    refine TL.nil ?_
    refine TQ.then ?_
    refine TC.seq ?_
    refine TC.seq ?_
    refine TC.region ?_   -- region 6 ref.go:203
    refine TL.opP rfl (op_move rfl) ?_
    refine TL.opX rfl (OpX.callX en_62 rfl (chars_x s (by omega))) ?_; rintro w3 _ ⟨_, rfl, rfl⟩
    refine TL.opV rfl (op_lenV rfl un_sl_string rfl rw0) ?_
    refine TL.opP rfl (op_move rfl) ?_
    refine TL.nil ?_
    refine TQ.then ?_
    refine TC.block ?_
    refine TC.loop (ι := Nat × List Int) (fun (i, acc) => [(6, .int .i64 ((dec s).length : Int)), (7, .pointer (some ⟨g7, 0, none⟩)), (8, .string (enc acc)), (26, w3), (27, .int .i64 ((dec s).length : Int)), (28, .int .i64 (i : Int))]) (fun (i, acc) => [.blk g7 (.cells [vp2, vd2].toArray 78 (0, 0)), .row vp2 9 1 (spP e).length ((spP e).map sv), .row vd2 4 1 (dv e).length ((dv e).map bv), .row w3 9 1 (dec s).length ((dec s).map chv)]) (fun (i, acc) => AWI (spP e) (dv e) (dec s) (runS id e (dec s)).1 i acc) (fun (i, acc) => (dec s).length - i) ((0, [])) (⟨Nat.zero_le _, by simp [spread_run id e (dec s) oe.1]⟩) ⟨rfl, rfl, rfl, rfl, rfl, rfl, trivial⟩ (fun _ h => h.drop4.pick3.pick3.pick3) ?_
    rintro ⟨i, acc⟩ (hI : AWI (spP e) (dv e) (dec s) (runS id e (dec s)).1 i acc)
    have hil := hI.1
    have hal := hI.len
    have has := (enc_size acc).2
    show TC _ _ _ _ [(6, .int .i64 ((dec s).length : Int)), (7, .pointer (some ⟨g7, 0, none⟩)), (8, .string (enc acc)), (26, w3), (27, .int .i64 ((dec s).length : Int)), (28, .int .i64 (i : Int))] _ _ ([.blk g7 (.cells [vp2, vd2].toArray 78 (0, 0)), .row vp2 9 1 (spP e).length ((spP e).map sv), .row vd2 4 1 (dv e).length ((dv e).map bv), .row w3 9 1 (dec s).length ((dec s).map chv)])
    refine TC.seq ?_
    refine TC.region ?_   -- region 7 ref.go:203
    refine TL.opP rfl (op_lss rfl rfl) ?_
    refine TL.nil ?_
    refine TQ.then ?_
    refine TC.seq ?_
    first | refine TC.condD rfl (fun c3 => ?_) (fun c3 => ?_) | refine TC.condB rfl (fun c3 => ?_) (fun c3 => ?_)
    · obtain ⟨t, ht⟩ : ∃ t, (spP e).getD i [] = t := ⟨_, rfl⟩
      obtain ⟨hts, htn, htz⟩ := sp_get oe ht
      obtain ⟨c, hc⟩ : ∃ c, (dec s).getD i 0 = c := ⟨_, rfl⟩
      have hst := fun b hb => hI.step (t := t) (c := c) (by omega) (by omega) (by omega) ht hc b hb
      have ha2 := (enc_size (acc ++ t)).2
      rw [List.length_append] at ha2
      have hc1 := (enc_size [c]).2
      simp only [List.length_singleton] at hc1
      refine TC.skip ?_
      refine TQ.then ?_
      refine TC.seq ?_
      refine TC.block ?_
      refine TC.seq ?_
      refine TC.region ?_   -- region 8 ref.go:203
      refine TL.opP rfl (op_move rfl) ?_
      refine TL.opV rfl (op_index tsl_string rfl rw3 rfl (by omega) (by omega)) ?_
      refine TL.opV rfl (op_loadR ts_string rfl rw3 (lkM (d := (0 : Int)) (by omega) hc (by omega))) ?_
      refine TL.opP rfl (op_assign rfl) ?_
      refine TL.opP rfl (op_assign rfl) ?_
      refine TL.nil ?_
      refine TQ.then ?_
      refine TC.seq ?_
      refine TC.region ?_   -- region 9 ref.go:204
      refine TL.opP rfl (op_move rfl) ?_
      refine TL.opP rfl (op_field fld_sealskinref03_Wide_Puts rfl) ?_
      refine TL.opV rfl (op_load ts_sl_string rfl m0 rfl) ?_
      refine TL.opP rfl (op_move rfl) ?_
      refine TL.opV rfl (op_index tsl_string rfl rw1 rfl (by omega) (by omega)) ?_
      refine TL.opV rfl (op_loadR ts_string rfl rw1 (lkM (d := []) (by omega) ht (by omega))) ?_
      refine TL.opP rfl (op_sadde rfl rfl (by omega)) ?_
      refine TL.opP rfl (op_assign rfl) ?_
      refine TL.nil ?_
      refine TQ.then ?_
      refine TC.seq ?_
      refine TC.region ?_   -- region 10 ref.go:205
      refine TL.opP rfl (op_field fld_sealskinref03_Wide_Drop rfl) ?_
      refine TL.opV rfl (op_load ts_sl_bool rfl m0 rfl) ?_
      refine TL.opP rfl (op_move rfl) ?_
      refine TL.opV rfl (op_index tsl_bool rfl rw2 rfl (by omega) (by omega)) ?_
      refine TL.opV rfl (op_loadR ts_bool rfl rw2 (lkM (i := i) (d := false) (by omega) rfl (by omega))) ?_
      refine TL.opP rfl (op_not rfl rfl) ?_
      refine TL.nil ?_
      refine TQ.then ?_
      first | refine TC.condD rfl (fun c4 => ?_) (fun c4 => ?_) | refine TC.condB rfl (fun c4 => ?_) (fun c4 => ?_)
      · refine TC.region ?_   -- region 11 ref.go:206
        refine TL.opP rfl (op_move rfl) ?_
        refine TL.opP rfl (op_move rfl) ?_
        refine TL.opP rfl (op_sadde rfl rfl (by omega)) ?_
        refine TL.opP rfl (op_assign rfl) ?_
        refine TL.nil ?_
        refine TQ.block_normal ?_
        refine TQ.then ?_
        refine TC.region ?_   -- region 12 ref.go:203
        refine TL.opP rfl (op_add rfl rfl rfl (by omega) (by omega)) ?_
        refine TL.opP rfl (op_move rfl) ?_
        refine TL.nil ?_
        exact TQ.round (i + 1, acc ++ t ++ [c]) (hst false (by simpa using c4)) (by show _ - (i + 1) < _ - i; omega) ⟨rfl, rfl, rfl, rfl, rfl, rfl, trivial⟩ (fun _ h => h)
      · refine TC.skip ?_
        refine TQ.block_normal ?_
        refine TQ.then ?_
        refine TC.region ?_   -- region 12 ref.go:203
        refine TL.opP rfl (op_add rfl rfl rfl (by omega) (by omega)) ?_
        refine TL.opP rfl (op_move rfl) ?_
        refine TL.nil ?_
        exact TQ.round (i + 1, acc ++ t) (hst true (by simpa using c4)) (by show _ - (i + 1) < _ - i; omega) ⟨rfl, rfl, rfl, rfl, rfl, rfl, trivial⟩ (fun _ h => h)
    · obtain ⟨t, ht⟩ : ∃ t, (spP e).getD (dec s).length [] = t := ⟨_, rfl⟩
      obtain ⟨hts, htn, htz⟩ := sp_get oe ht
      have ht2 : (spP e).getD i [] = t := by rw [show i = (dec s).length by omega]; exact ht
      refine TC.exit ?_
      refine TQ.then_exit ?_
      refine TQ.loop_exit ?_
      refine TQ.block_hit ?_
      refine TQ.then ?_
      refine TC.seq ?_
      refine TC.region ?_   -- region 13 ref.go:209
      refine TL.opP rfl (op_move rfl) ?_
      refine TL.opP rfl (op_field fld_sealskinref03_Wide_Puts rfl) ?_
      refine TL.opV rfl (op_load ts_sl_string rfl m0 rfl) ?_
      refine TL.opP rfl (op_move rfl) ?_
      refine TL.opV rfl (op_index tsl_string rfl rw1 rfl (by omega) (by omega)) ?_
      refine TL.opV rfl (op_loadR ts_string rfl rw1 (lkM (d := []) (by omega) ht (by omega))) ?_
      refine TL.opP rfl (op_sadde rfl rfl (by omega)) ?_
      refine TL.opP rfl (op_assign rfl) ?_
      refine TL.opP rfl (op_assign rfl) ?_
      refine TL.nil ?_
      refine TQ.then ?_
      refine TC.ret ?_
      refine ret2 rfl rfl rfl (fun w' hp => ?_)
      first
        | (have hbad : applyBad e s := applyBad_of (by first | exact .inl c1 | exact .inr c2)
           exact ⟨by rw [(apply_bad hbad).1, (apply_bad hbad).2], hp.kp⟩)
        | exact ⟨by rw [l1, l2, ← hI.stop (by omega) (by omega) ht2], hp.kp⟩

theorem rcursor_calls (e : List Part) (i : Int) (ah : Bool) (v : Value) (hle : e.length ≤ 4398046511104) (w : World) (hs : ∀ p ∈ e, p.text.size < 9223372036854775807) (hv : RdRow w v 3 e.length (encs e)) :
    Calls Tryd.prog 40 (List.toArray [v, .int .i64 i, .bool ah]) w fun e' w' => e' = .returned (.tuple #[.int .i64 (curF e i ah), .int .i64 (curE e i)]) ∧ Kp NoB w w' := by
  
  refine calls_start Tryd.func40 rfl rfl rfl (Hp.i1 (r := .rd v 3 e.length (encs e)) hv) ?_
  refine TC.seq ?_
  refine TC.region ?_   -- region 0 ref.go:312
  refine TL.opP rfl (op_assign rfl) ?_
  refine TL.opP rfl (op_assign rfl) ?_
  refine TL.nil ?_
  refine TQ.then ?_
  refine TC.seq ?_
  refine TC.region ?_   -- region 1 ref.go:313
  refine TL.opP rfl (op_move rfl) ?_
  refine TL.callq rfl en_28 rfl (fun w2 hp => rsize_calls e v w2 hs (rd0 _ _ _ hp)) ?_
  refine TL.opP rfl (op_move rfl) ?_
  refine TL.opP rfl (op_extract rfl rfl) ?_
  refine TL.opP rfl (op_extract rfl rfl) ?_
  refine TL.opP rfl (op_extract rfl rfl) ?_
  refine TL.opP rfl (op_assign rfl) ?_
  refine TL.opP rfl (op_assign rfl) ?_
  refine TL.opP rfl (op_assign rfl) ?_
  refine TL.nil ?_
  refine TQ.then ?_
  refine TC.join (ι := Nat) (fun n => [(0, v), (1, .int .i64 i), (2, .bool ah), (8, .int .i64 (n : Int))]) (fun n => [.rd v 3 e.length (encs e)]) (fun n => Ok e ∧ fromS e = (n : Nat) ∧ 0 ≤ i ∧ i ≤ n) ?_ ?_
  · refine TC.seq ?_
    refine TC.region ?_   -- region 2 ref.go:314
    refine TL.opP rfl (op_move rfl) ?_
    refine TL.opP rfl (op_neq rfl rfl) ?_
    refine TL.opP rfl (op_move rfl) ?_
    first | refine TL.splitD (fun c1 => ?_) (fun c1 => ?_) | refine TL.splitB (fun c1 => ?_) (fun c1 => ?_)
    · refine TL.gFt rfl rfl rfl ?_
      refine TL.gFt rfl rfl rfl ?_
      refine TL.opP rfl (op_pickT rfl rfl) ?_
      refine TL.opP rfl (op_move rfl) ?_
      refine TL.gFt rfl rfl rfl ?_
      refine TL.gFt rfl rfl rfl ?_
      refine TL.gFt rfl rfl rfl ?_
      refine TL.opP rfl (op_pickT rfl rfl) ?_
      refine TL.nil ?_
      refine TQ.then ?_
      refine TC.condT rfl ?_
      refine TC.seq ?_
      refine TC.region ?_   -- region 3 ref.go:315
      refine TL.opP rfl (op_assign rfl) ?_
      refine TL.opP rfl (op_assign rfl) ?_
      refine TL.nil ?_
      refine TQ.then ?_
      refine TC.ret ?_
      refine TQ.join_ret ?_
      refine ret2 rfl rfl rfl (fun w' hp => ?_)
      first
        | (have hbad : curBad e i := curBad_of (by omega)
           exact ⟨by rw [(cur_bad (ah := ah) hbad).1, (cur_bad (ah := ah) hbad).2], hp.kp⟩)
        | exact ⟨by rw [hw2, hw3, hI.stop (by omega) (by omega) ht, if_pos c6], hp.kp⟩
        | exact ⟨by rw [hw2, hw3, hI.stop (by omega) (by omega) ht, if_neg (by simp [c6])], hp.kp⟩
    · refine TL.gT rfl rfl ?_
      refine TL.opP rfl (op_move rfl) ?_
      refine TL.gT rfl rfl ?_
      refine TL.opP rfl (op_lss rfl rfl) ?_
      refine TL.opP rfl (op_pickF rfl rfl) ?_
      refine TL.opP rfl (op_move rfl) ?_
      first | refine TL.splitD (fun c2 => ?_) (fun c2 => ?_) | refine TL.splitB (fun c2 => ?_) (fun c2 => ?_)
      · refine TL.gFt rfl rfl rfl ?_
        refine TL.gFt rfl rfl rfl ?_
        refine TL.gFt rfl rfl rfl ?_
        refine TL.opP rfl (op_pickT rfl rfl) ?_
        refine TL.nil ?_
        refine TQ.then ?_
        refine TC.condT rfl ?_
        refine TC.seq ?_
        refine TC.region ?_   -- region 3 ref.go:315
        refine TL.opP rfl (op_assign rfl) ?_
        refine TL.opP rfl (op_assign rfl) ?_
        refine TL.nil ?_
        refine TQ.then ?_
        refine TC.ret ?_
        refine TQ.join_ret ?_
        refine ret2 rfl rfl rfl (fun w' hp => ?_)
        first
          | (have hbad : curBad e i := curBad_of (by omega)
             exact ⟨by rw [(cur_bad (ah := ah) hbad).1, (cur_bad (ah := ah) hbad).2], hp.kp⟩)
          | exact ⟨by rw [hw2, hw3, hI.stop (by omega) (by omega) ht, if_pos c6], hp.kp⟩
          | exact ⟨by rw [hw2, hw3, hI.stop (by omega) (by omega) ht, if_neg (by simp [c6])], hp.kp⟩
      · refine TL.gT rfl rfl ?_
        refine TL.opP rfl (op_move rfl) ?_
        refine TL.gT rfl rfl ?_
        refine TL.opP rfl (op_move rfl) ?_
        refine TL.gT rfl rfl ?_
        refine TL.opP rfl (op_gtr rfl rfl) ?_
        refine TL.opP rfl (op_pickF rfl rfl) ?_
        refine TL.nil ?_
        refine TQ.then ?_
        first | refine TC.condD rfl (fun c3 => ?_) (fun c3 => ?_) | refine TC.condB rfl (fun c3 => ?_) (fun c3 => ?_)
        · refine TC.seq ?_
          refine TC.region ?_   -- region 3 ref.go:315
          refine TL.opP rfl (op_assign rfl) ?_
          refine TL.opP rfl (op_assign rfl) ?_
          refine TL.nil ?_
          refine TQ.then ?_
          refine TC.ret ?_
          refine TQ.join_ret ?_
          refine ret2 rfl rfl rfl (fun w' hp => ?_)
          first
            | (have hbad : curBad e i := curBad_of (by omega)
               exact ⟨by rw [(cur_bad (ah := ah) hbad).1, (cur_bad (ah := ah) hbad).2], hp.kp⟩)
            | exact ⟨by rw [hw2, hw3, hI.stop (by omega) (by omega) ht, if_pos c6], hp.kp⟩
            | exact ⟨by rw [hw2, hw3, hI.stop (by omega) (by omega) ht, if_neg (by simp [c6])], hp.kp⟩
        · obtain ⟨oe0, hs1, hs2⟩ := sizeE_ok (e := e) (by omega)
          have hpp := fromS_posU oe0.1
          refine TC.skip ?_
          exact TQ.join ((fromS e).toNat) (⟨oe0, by omega, by omega, by omega⟩) ⟨rfl, rfl, rfl, gi rfl (by omega), trivial⟩ (fun _ h => h)
  · rintro n ⟨oe, hn, hi0, hi1⟩
    have hPl := spP_len oe.1
    have hDl := dv_len oe.1
    have hfr := oe.2.2.1
    obtain ⟨hw1, hw2, hw3⟩ := curW_le oe ah hi0 (by omega)
    obtain ⟨t, ht'⟩ : ∃ t, (spP e).getD i.toNat [] = t := ⟨_, rfl⟩
    obtain ⟨hts', htn', htz'⟩ := sp_get oe ht'
    refine TC.seq ?_
    refine TC.region ?_   -- region 4 ref.go:317
    refine TL.opP rfl (op_move rfl) ?_
    refine TL.opP rfl (op_move rfl) ?_
    refine TL.opX rfl (OpX.callX en_61 rfl (spread_x e (n) v oe hn (by omega) rd0)) ?_; rintro _ _ ⟨vp1, vd1, rfl, rfl⟩
    refine TL.know (fun _ h => row1 h) (fun op1 => ?_)
    refine TL.know (fun _ h => row1 h.pick1) (fun op2 => ?_)
    refine TL.opX rfl (OpX.alloc tz_sealskinref03_Wide rfl) ?_; rintro _ _ ⟨g11, rfl, rfl⟩
    refine TL.opX0 (OpX.storeS tst_sealskinref03_Wide rfl rfl rfl rfl rfl (by first | exact (List.all_eq_true.1 rfl) | (intro u hu; simp only [List.mem_cons, List.not_mem_nil, or_false] at hu; rcases hu with rfl | rfl <;> assumption))) ?_; rintro _ _ rfl
    refine TL.nil ?_
    refine TQ.then ?_
    refine TC.seq ?_
    refine TC.region ?_   -- region 5 ref.go:318
    refine TL.opP rfl (op_assign rfl) ?_
    refine TL.nil ?_
    refine TQ.then ?_
    refine TC.seq ?_
    refine TC.seq ?_
    refine TC.region ?_   -- region 6 ref.go:319
    refine TL.opP rfl (op_move rfl) ?_
    refine TL.opP rfl (op_move rfl) ?_
    refine TL.nil ?_
    refine TQ.then ?_
    refine TC.block ?_
    refine TC.loop (ι := Nat × Int) (fun (k, tt) => [(1, .int .i64 i), (2, .bool ah), (11, .pointer (some ⟨g11, 0, none⟩)), (12, .int .i64 tt), (34, .int .i64 i), (35, .int .i64 (k : Int))]) (fun (k, tt) => [.blk g11 (.cells [vp1, vd1].toArray 78 (0, 0)), .row vp1 9 1 (spP e).length ((spP e).map sv), .row vd1 4 1 (dv e).length ((dv e).map bv)]) (fun (k, tt) => CWI (spP e) (dv e) i.toNat ah k tt) (fun (k, tt) => i.toNat - k) ((0, 0)) ((CWI.start _ _ _ _)) ⟨rfl, rfl, rfl, rfl, rfl, rfl, trivial⟩ (fun _ h => h.drop3) ?_
    rintro ⟨k, tt⟩ (hI : CWI (spP e) (dv e) i.toNat ah k tt)
    have hkl := hI.1
    have hto0 := hI.2.1
    have hto1 := hI.le
    show TC _ _ _ _ [(1, .int .i64 i), (2, .bool ah), (11, .pointer (some ⟨g11, 0, none⟩)), (12, .int .i64 tt), (34, .int .i64 i), (35, .int .i64 (k : Int))] _ _ ([.blk g11 (.cells [vp1, vd1].toArray 78 (0, 0)), .row vp1 9 1 (spP e).length ((spP e).map sv), .row vd1 4 1 (dv e).length ((dv e).map bv)])
    refine TC.seq ?_
    refine TC.region ?_   -- region 7 ref.go:319
    refine TL.opP rfl (op_lss rfl rfl) ?_
    refine TL.nil ?_
    refine TQ.then ?_
    refine TC.seq ?_
    first | refine TC.condD rfl (fun c4 => ?_) (fun c4 => ?_) | refine TC.condB rfl (fun c4 => ?_) (fun c4 => ?_)
    · obtain ⟨u, hu⟩ : ∃ u, (spP e).getD k [] = u := ⟨_, rfl⟩
      obtain ⟨hus, hun, huz⟩ := sp_get oe hu
      have hst := fun b hb => hI.step (t := u) (by omega) (by omega) (by omega) hu b hb
      refine TC.skip ?_
      refine TQ.then ?_
      refine TC.seq ?_
      refine TC.block ?_
      refine TC.seq ?_
      refine TC.region ?_   -- region 8 ref.go:319
      refine TL.opP rfl (op_move rfl) ?_
      refine TL.opP rfl (op_assign rfl) ?_
      refine TL.nil ?_
      refine TQ.then ?_
      refine TC.seq ?_
      refine TC.region ?_   -- region 9 ref.go:320
      refine TL.opP rfl (op_move rfl) ?_
      refine TL.opP rfl (op_field fld_sealskinref03_Wide_Puts rfl) ?_
      refine TL.opV rfl (op_load ts_sl_string rfl m0 rfl) ?_
      refine TL.opP rfl (op_move rfl) ?_
      refine TL.opV rfl (op_index tsl_string rfl rw1 rfl (by omega) (by omega)) ?_
      refine TL.opV rfl (op_loadR ts_string rfl rw1 (lkM (d := []) (by omega) hu (by omega))) ?_
      refine TL.opX rfl (OpX.callX en_62 rfl (charsE_x u hus (by omega))) ?_; rintro w2 _ ⟨_, rfl, rfl⟩
      refine TL.opV rfl (op_lenV rfl un_sl_string rfl rw0) ?_
      refine TL.opP rfl (op_add rfl rfl rfl (by omega) (by omega)) ?_
      refine TL.opP rfl (op_assign rfl) ?_
      refine TL.nil ?_
      refine TQ.then ?_
      refine TC.seq ?_
      refine TC.region ?_   -- region 10 ref.go:321
      refine TL.opP rfl (op_field fld_sealskinref03_Wide_Drop rfl) ?_
      refine TL.opV rfl (op_load ts_sl_bool rfl m1 rfl) ?_
      refine TL.opP rfl (op_move rfl) ?_
      refine TL.opV rfl (op_index tsl_bool rfl rw3 rfl (by omega) (by omega)) ?_
      refine TL.opV rfl (op_loadR ts_bool rfl rw3 (lkM (i := k) (d := false) (by omega) rfl (by omega))) ?_
      refine TL.opP rfl (op_not rfl rfl) ?_
      refine TL.nil ?_
      refine TQ.then ?_
      first | refine TC.condD rfl (fun c5 => ?_) (fun c5 => ?_) | refine TC.condB rfl (fun c5 => ?_) (fun c5 => ?_)
      · refine TC.region ?_   -- region 11 ref.go:322
        refine TL.opP rfl (op_move rfl) ?_
        refine TL.opP rfl (op_add rfl rfl rfl (by omega) (by omega)) ?_
        refine TL.opP rfl (op_assign rfl) ?_
        refine TL.nil ?_
        refine TQ.block_normal ?_
        refine TQ.then ?_
        refine TC.region ?_   -- region 12 ref.go:319
        refine TL.opP rfl (op_add rfl rfl rfl (by omega) (by omega)) ?_
        refine TL.opP rfl (op_move rfl) ?_
        refine TL.nil ?_
        exact TQ.round (k + 1, tt + u.length + (if false then 0 else 1)) (hst false (by simpa using c5)) (by show _ - (k + 1) < _ - k; omega) ⟨rfl, rfl, rfl, gi rfl (by first | rfl | (simp; done) | (simp; omega)), rfl, rfl, trivial⟩ (fun _ h => h.tail)
      · refine TC.skip ?_
        refine TQ.block_normal ?_
        refine TQ.then ?_
        refine TC.region ?_   -- region 12 ref.go:319
        refine TL.opP rfl (op_add rfl rfl rfl (by omega) (by omega)) ?_
        refine TL.opP rfl (op_move rfl) ?_
        refine TL.nil ?_
        exact TQ.round (k + 1, tt + u.length + (if true then 0 else 1)) (hst true (by simpa using c5)) (by show _ - (k + 1) < _ - k; omega) ⟨rfl, rfl, rfl, gi rfl (by first | rfl | (simp; done) | (simp; omega)), rfl, rfl, trivial⟩ (fun _ h => h.tail)
    · have hki : k = i.toNat := by omega
      have ht : (spP e).getD k [] = t := by rw [hki]; exact ht'
      refine TC.exit ?_
      refine TQ.then_exit ?_
      refine TQ.loop_exit ?_
      refine TQ.block_hit ?_
      refine TQ.then ?_
      refine TC.seq ?_
      refine TC.seq ?_
      refine TC.region ?_   -- region 13 ref.go:325
      refine TL.opP rfl (op_move rfl) ?_
      refine TL.nil ?_
      refine TQ.then ?_
      first | refine TC.condD rfl (fun c6 => ?_) (fun c6 => ?_) | refine TC.condB rfl (fun c6 => ?_) (fun c6 => ?_)
      · refine TC.region ?_   -- region 14 ref.go:326
        refine TL.opP rfl (op_move rfl) ?_
        refine TL.opP rfl (op_field fld_sealskinref03_Wide_Puts rfl) ?_
        refine TL.opV rfl (op_load ts_sl_string rfl m0 rfl) ?_
        refine TL.opP rfl (op_move rfl) ?_
        refine TL.opV rfl (op_index tsl_string rfl rw1 rfl (by omega) (by omega)) ?_
        refine TL.opV rfl (op_loadR ts_string rfl rw1 (lkM (d := []) (by omega) ht' (by omega))) ?_
        refine TL.opX rfl (OpX.callX en_62 rfl (charsE_x t hts' (by omega))) ?_; rintro w3 _ ⟨_, rfl, rfl⟩
        refine TL.opV rfl (op_lenV rfl un_sl_string rfl rw0) ?_
        refine TL.opP rfl (op_add rfl rfl rfl (by omega) (by omega)) ?_
        refine TL.opP rfl (op_assign rfl) ?_
        refine TL.nil ?_
        refine TQ.then ?_
        refine TC.seq ?_
        refine TC.region ?_   -- region 15 ref.go:328
        refine TL.opP rfl (op_move rfl) ?_
        refine TL.opP rfl (op_assign rfl) ?_
        refine TL.opP rfl (op_assign rfl) ?_
        refine TL.nil ?_
        refine TQ.then ?_
        refine TC.ret ?_
        refine ret2 rfl rfl rfl (fun w' hp => ?_)
        first
          | (have hbad : curBad e i := curBad_of (by omega)
             exact ⟨by rw [(cur_bad (ah := ah) hbad).1, (cur_bad (ah := ah) hbad).2], hp.kp⟩)
          | exact ⟨by rw [hw2, hw3, hI.stop (by omega) (by omega) ht, if_pos c6], hp.kp⟩
          | exact ⟨by rw [hw2, hw3, hI.stop (by omega) (by omega) ht, if_neg (by simp [c6])], hp.kp⟩
      · refine TC.skip ?_
        refine TQ.then ?_
        refine TC.seq ?_
        refine TC.region ?_   -- region 15 ref.go:328
        refine TL.opP rfl (op_move rfl) ?_
        refine TL.opP rfl (op_assign rfl) ?_
        refine TL.opP rfl (op_assign rfl) ?_
        refine TL.nil ?_
        refine TQ.then ?_
        refine TC.ret ?_
        refine ret2 rfl rfl rfl (fun w' hp => ?_)
        first
          | (have hbad : curBad e i := curBad_of (by omega)
             exact ⟨by rw [(cur_bad (ah := ah) hbad).1, (cur_bad (ah := ah) hbad).2], hp.kp⟩)
          | exact ⟨by rw [hw2, hw3, hI.stop (by omega) (by omega) ht, if_pos c6], hp.kp⟩
          | exact ⟨by rw [hw2, hw3, hI.stop (by omega) (by omega) ht, if_neg (by simp [c6])], hp.kp⟩

theorem rinvert_x (e : List Part) (s : ByteArray) (v : Value) (hss : s.size ≤ 1073741824) (hs : ∀ p ∈ e, p.text.size < 9223372036854775807) (hle : e.length ≤ 4398046511104) (hr : Rdb L v 3 e.length (encs e)) :
    CallX Tryd.prog 37 [v, .string s] S w0 (L) (fun u L' => ∃ v', u = .tuple #[v', .int .i64 (invE e s)] ∧ L' = .row v' 47 3 (invF e s).length (encs (invF e s)) :: L) := by
  intro w hp
  have hdl := dec_len s
  refine calls_start Tryd.func37 rfl rfl rfl (hp) ?_
  refine TC.seq ?_
  refine TC.region ?_   -- region 0 ref.go:213
  refine TL.opP rfl (op_assign rfl) ?_
  refine TL.opP rfl (op_assign rfl) ?_
  refine TL.nil ?_
  refine TQ.then ?_
  refine TC.seq ?_
  refine TC.region ?_   -- region 1 ref.go:214
  refine TL.opP rfl (op_move rfl) ?_
  refine TL.opX rfl (OpX.bytes un_string tsl_uint8 un_uint8 rfl (by simp only [maxLen]; omega)) ?_; rintro v1 _ rfl
  refine TL.know (fun _ h => rd1' h) (fun o1 => ?_)
  refine TL.callq rfl en_56 rfl (fun w2 hp => runes_calls s.data.toList _ w2 (by rw [size_len]; exact rd0 _ _ _ hp)) ?_
  refine TL.opP rfl (op_assign rfl) ?_
  refine TL.nil ?_
  refine TQ.then ?_
  refine TC.join (ι := Unit) (fun _u => [(0, v), (1, .string s), (6, .int .i64 ((dec s).length : Int))]) (fun _u => L) (fun _u => valid s = true ∧ Ok e ∧ fromS e = ((dec s).length : Nat)) ?_ ?_
  · refine TC.seq ?_
    refine TC.region ?_   -- region 2 ref.go:215
    refine TL.opP rfl (op_move rfl) ?_
    refine TL.opP rfl (op_lss rfl rfl) ?_
    refine TL.opP rfl (op_move rfl) ?_
    first | refine TL.splitD (fun c1 => ?_) (fun c1 => ?_) | refine TL.splitB (fun c1 => ?_) (fun c1 => ?_)
    · refine TL.gFt rfl rfl rfl ?_
      refine TL.gFt rfl rfl rfl ?_
      refine TL.gFt rfl rfl rfl ?_
      refine TL.gFt rfl rfl rfl ?_
      refine TL.opP rfl (op_pickT rfl rfl) ?_
      refine TL.nil ?_
      refine TQ.then ?_
      refine TC.condT rfl ?_
      refine TC.seq ?_
      refine TC.region ?_   -- region 3 ref.go:216
      refine TL.opP rfl (op_assign rfl) ?_
      refine TL.opP rfl (op_assign rfl) ?_
      refine TL.nil ?_
      refine TQ.then ?_
      refine TC.ret ?_
      refine TQ.join_ret ?_
      refine ret2 rfl rfl rfl (fun w' hp => ?_)
      first
        | (have hbad : applyBad e s := applyBad_of (by first | exact .inl c1 | exact .inr c2)
           exact ⟨_, _, rfl, ⟨.slice none 0 0, by rw [(inv_bad hbad).1], by rw [(inv_bad hbad).2]; rfl⟩, new_nil _ 3 (hp.tail)⟩)
        | exact ⟨_, _, rfl, ⟨_, by rw [lE], by rw [← hlaw]⟩, (hp.tail)⟩
    · refine TL.gT rfl rfl ?_
      refine TL.opP rfl (op_move rfl) ?_
      refine TL.gT rfl rfl ?_
      refine TL.opP rfl (op_move rfl) ?_
      refine TL.gT rfl rfl ?_
      refine TL.callq rfl en_29 rfl (fun w2 hp => rcheck_calls e _ v w2 hs (hr.cons _ _ _ hp)) ?_
      refine TL.gT rfl rfl ?_
      refine TL.opP rfl (op_neq rfl rfl) ?_
      refine TL.opP rfl (op_pickF rfl rfl) ?_
      refine TL.nil ?_
      refine TQ.then ?_
      first | refine TC.condD rfl (fun c2 => ?_) (fun c2 => ?_) | refine TC.condB rfl (fun c2 => ?_) (fun c2 => ?_)
      · refine TC.seq ?_
        refine TC.region ?_   -- region 3 ref.go:216
        refine TL.opP rfl (op_assign rfl) ?_
        refine TL.opP rfl (op_assign rfl) ?_
        refine TL.nil ?_
        refine TQ.then ?_
        refine TC.ret ?_
        refine TQ.join_ret ?_
        refine ret2 rfl rfl rfl (fun w' hp => ?_)
        first
          | (have hbad : applyBad e s := applyBad_of (by first | exact .inl c1 | exact .inr c2)
             exact ⟨_, _, rfl, ⟨.slice none 0 0, by rw [(inv_bad hbad).1], by rw [(inv_bad hbad).2]; rfl⟩, new_nil _ 3 (hp.tail)⟩)
          | exact ⟨_, _, rfl, ⟨_, by rw [lE], by rw [← hlaw]⟩, (hp.tail)⟩
      · obtain ⟨hr0, hv0, oe0, hn0⟩ := applyOk_of c1 c2
        refine TC.skip ?_
        exact TQ.join (()) (⟨hv0, oe0, hn0⟩) ⟨rfl, rfl, gi rfl (by omega), trivial⟩ (fun _ h => h.tail)
  · rintro _ ⟨hv', oe, hn⟩
    have hlaw := iv_law hv' oe hn
    have hclb := iv_clb hv' oe hn hss
    have lE := (inv_law hv' oe hn).1
    have hPl := spP_len oe.1
    have hDl := dv_len oe.1
    have hto := oe.2.2.2
    have hZn := hclb.n
    have hZl := hclb.len
    have hZp := psum_pos (iv (spP e) (dv e) (dec s) []).1
    refine TC.seq ?_
    refine TC.region ?_   -- region 4 ref.go:218
    refine TL.opP rfl (op_move rfl) ?_
    refine TL.opP rfl (op_move rfl) ?_
    refine TL.opX rfl (OpX.callX en_61 rfl (spread_x e ((dec s).length) v oe hn (by omega) hr)) ?_; rintro _ _ ⟨vp2, vd2, rfl, rfl⟩
    refine TL.know (fun _ h => row1 h) (fun op1 => ?_)
    refine TL.know (fun _ h => row1 h.pick1) (fun op2 => ?_)
    refine TL.opX rfl (OpX.alloc tz_sealskinref03_Wide rfl) ?_; rintro _ _ ⟨g7, rfl, rfl⟩
    refine TL.opX0 (OpX.storeS tst_sealskinref03_Wide rfl rfl rfl rfl rfl (by first | exact (List.all_eq_true.1 rfl) | (intro u hu; simp only [List.mem_cons, List.not_mem_nil, or_false] at hu; rcases hu with rfl | rfl <;> assumption))) ?_; rintro _ _ rfl
    refine TL.nil ?_
    refine TQ.then ?_
    refine TC.seq ?_
    refine TC.region ?_   -- region 5 ref.go:219
    refine TL.opP rfl (op_move rfl) ?_
    refine TL.opX rfl (OpX.callX en_62 rfl (chars_x s (by omega))) ?_; rintro w3 _ ⟨_, rfl, rfl⟩
    refine TL.opP rfl (op_assign rfl) ?_
    refine TL.nil ?_
    refine TQ.then ?_
    refine TC.seq ?_
    refine TC.region ?_   -- region 6 ref.go:220
    refine TL.opX rfl (OpX.buildSlice (ps := #[(0, _)]) rfl (bs_string_1 _)) ?_; rintro _ _ ⟨g27, rfl, rfl⟩
    refine TL.hp (fun _ h => blk_row (k := 1) (m := 1) h rfl (by decide)) ?_
    refine TL.opP rfl (op_build (ps := #[(0, _)]) rfl (bl_sealskinref03_Wide_0 _)) ?_
    refine TL.opX rfl (OpX.alloc tz_sealskinref03_Wide rfl) ?_; rintro _ _ ⟨g9, rfl, rfl⟩
    refine TL.opX0 (OpX.storeS tst_sealskinref03_Wide rfl rfl rfl rfl rfl (by first | exact (List.all_eq_true.1 rfl) | (intro u hu; simp only [List.mem_cons, List.not_mem_nil, or_false] at hu; rcases hu with rfl | rfl <;> assumption))) ?_; rintro _ _ rfl
    refine TL.hp (fun _ h => new_nil 4 1 h) ?_
    refine TL.nil ?_
    refine TQ.then ?_
    refine TC.seq ?_
    refine TC.seq ?_
    refine TC.region ?_   -- region 7 ref.go:221
    refine TL.opP rfl (op_move rfl) ?_
    refine TL.opP rfl (op_add rfl rfl rfl (by omega) (by omega)) ?_
    refine TL.opP rfl (op_move rfl) ?_
    refine TL.nil ?_
    refine TQ.then ?_
    refine TC.block ?_
    refine TC.loop (ι := Nat × List (List Int) × List Bool × Value × Value) (fun (i, P, D, xv, xw) => [(6, .int .i64 ((dec s).length : Int)), (7, .pointer (some ⟨g7, 0, none⟩)), (8, w3), (9, .pointer (some ⟨g9, 0, none⟩)), (30, .int .i64 (((dec s).length : Int) + 1)), (31, .int .i64 (i : Int))]) (fun (i, P, D, xv, xw) => .blk g9 (.cells [xv, xw].toArray 78 (0, 0)) :: .row xv 9 1 (P).length ((P).map sv) :: .row xw 4 1 (D).length ((D).map bv) :: .blk g7 (.cells [vp2, vd2].toArray 78 (0, 0)) :: .row vp2 9 1 (spP e).length ((spP e).map sv) :: .row vd2 4 1 (dv e).length ((dv e).map bv) :: .row w3 9 1 (dec s).length ((dec s).map chv) :: L) (fun (i, P, D, xv, xw) => VInv (spP e) (dv e) (dec s) (iv (spP e) (dv e) (dec s) []) i P D ∧ xv.oneCell' = true ∧ xw.oneCell' = true) (fun (i, P, D, xv, xw) => (dec s).length + 1 - i) ((0, [[]], [], .slice (some ⟨g27, 0, none⟩) 1 1, .slice none 0 0)) (⟨VInv.start _ _ _, rfl, rfl⟩) ⟨rfl, rfl, rfl, rfl, rfl, rfl, trivial⟩ (fun _ h => h.pick3.pick6.pick6.pick6.pick4.pick6.pick6) ?_
    rintro ⟨i, P, D, xv, xw⟩ ⟨hI, ox, oy⟩
    have hil := hI.ile
    show TC _ _ _ _ [(6, .int .i64 ((dec s).length : Int)), (7, .pointer (some ⟨g7, 0, none⟩)), (8, w3), (9, .pointer (some ⟨g9, 0, none⟩)), (30, .int .i64 (((dec s).length : Int) + 1)), (31, .int .i64 (i : Int))] _ _ (.blk g9 (.cells [xv, xw].toArray 78 (0, 0)) :: .row xv 9 1 (P).length ((P).map sv) :: .row xw 4 1 (D).length ((D).map bv) :: .blk g7 (.cells [vp2, vd2].toArray 78 (0, 0)) :: .row vp2 9 1 (spP e).length ((spP e).map sv) :: .row vd2 4 1 (dv e).length ((dv e).map bv) :: .row w3 9 1 (dec s).length ((dec s).map chv) :: L)
    refine TC.seq ?_
    refine TC.region ?_   -- region 8 ref.go:221
    refine TL.opP rfl (op_lss rfl rfl) ?_
    refine TL.nil ?_
    refine TQ.then ?_
    refine TC.seq ?_
    first | refine TC.condD rfl (fun c3 => ?_) (fun c3 => ?_) | refine TC.condB rfl (fun c3 => ?_) (fun c3 => ?_)
    · obtain ⟨t, ht⟩ : ∃ t, (spP e).getD i [] = t := ⟨_, rfl⟩
      obtain ⟨hts, htn, htz⟩ := sp_get oe ht
      have hh : ((spP e).drop i).headD [] = t := headD_drop (by omega) ht
      refine TC.skip ?_
      refine TQ.then ?_
      refine TC.seq ?_
      refine TC.block ?_
      refine TC.seq ?_
      refine TC.region ?_   -- region 9 ref.go:221
      refine TL.opP rfl (op_move rfl) ?_
      refine TL.opP rfl (op_assign rfl) ?_
      refine TL.nil ?_
      refine TQ.then ?_
      refine TC.seq ?_
      refine TC.seq ?_
      refine TC.region ?_   -- region 10 ref.go:222
      refine TL.opP rfl (op_field fld_sealskinref03_Wide_Puts rfl) ?_
      refine TL.opV rfl (op_load ts_sl_string rfl m3 rfl) ?_
      refine TL.opP rfl (op_move rfl) ?_
      refine TL.opV rfl (op_index tsl_string rfl rw4 rfl (by omega) (by omega)) ?_
      refine TL.opV rfl (op_loadR ts_string rfl rw4 (lkM (d := []) (by omega) ht (by omega))) ?_
      refine TL.opX rfl (OpX.callX en_62 rfl (charsE_x t hts (by omega))) ?_; rintro w4 _ ⟨_, rfl, rfl⟩
      refine TL.opV rfl (op_lenV rfl un_sl_string rfl rw0) ?_
      refine TL.opP rfl (op_move rfl) ?_
      refine TL.nil ?_
      refine TQ.then ?_
      refine TC.block ?_
      refine TC.loop (ι := Nat × List (List Int) × List Bool × Value × Value) (fun (j, P', D', yv, yw) => [(6, .int .i64 ((dec s).length : Int)), (7, .pointer (some ⟨g7, 0, none⟩)), (8, w3), (9, .pointer (some ⟨g9, 0, none⟩)), (30, .int .i64 (((dec s).length : Int) + 1)), (31, .int .i64 (i : Int)), (10, .int .i64 (i : Int)), (40, .int .i64 (t.length : Int)), (41, .int .i64 (j : Int))]) (fun (j, P', D', yv, yw) => .blk g9 (.cells [yv, yw].toArray 78 (0, 0)) :: .row yv 9 1 (P').length ((P').map sv) :: .row yw 4 1 (D').length ((D').map bv) :: .blk g7 (.cells [vp2, vd2].toArray 78 (0, 0)) :: .row vp2 9 1 (spP e).length ((spP e).map sv) :: .row vd2 4 1 (dv e).length ((dv e).map bv) :: .row w3 9 1 (dec s).length ((dec s).map chv) :: L) (fun (j, P', D', yv, yw) => VIn (spP e) (dv e) (dec s) (iv (spP e) (dv e) (dec s) []) i j P' D' ∧ yv.oneCell' = true ∧ yw.oneCell' = true) (fun (j, P', D', yv, yw) => t.length - j) ((0, P, D, xv, xw)) (⟨hI.inner (by omega), ox, oy⟩) ⟨rfl, rfl, rfl, rfl, rfl, rfl, rfl, rfl, rfl, trivial⟩ (fun _ h => h.tail) ?_
      rintro ⟨j, P', D', yv, yw⟩ ⟨hJ, oyv, oyw⟩
      have hjl := hJ.jle
      have hJl := hJ.lens
      show TC _ _ _ _ [(6, .int .i64 ((dec s).length : Int)), (7, .pointer (some ⟨g7, 0, none⟩)), (8, w3), (9, .pointer (some ⟨g9, 0, none⟩)), (30, .int .i64 (((dec s).length : Int) + 1)), (31, .int .i64 (i : Int)), (10, .int .i64 (i : Int)), (40, .int .i64 (t.length : Int)), (41, .int .i64 (j : Int))] _ _ (.blk g9 (.cells [yv, yw].toArray 78 (0, 0)) :: .row yv 9 1 (P').length ((P').map sv) :: .row yw 4 1 (D').length ((D').map bv) :: .blk g7 (.cells [vp2, vd2].toArray 78 (0, 0)) :: .row vp2 9 1 (spP e).length ((spP e).map sv) :: .row vd2 4 1 (dv e).length ((dv e).map bv) :: .row w3 9 1 (dec s).length ((dec s).map chv) :: L)
      refine TC.seq ?_
      refine TC.region ?_   -- region 11 ref.go:222
      refine TL.opP rfl (op_lss rfl rfl) ?_
      refine TL.nil ?_
      refine TQ.then ?_
      refine TC.seq ?_
      first | refine TC.condD rfl (fun c4 => ?_) (fun c4 => ?_) | refine TC.condB rfl (fun c4 => ?_) (fun c4 => ?_)
      · have hj4 : j < (((spP e).drop i).headD []).length := by rw [hh]; omega
        refine TC.skip ?_
        refine TQ.then ?_
        refine TC.seq ?_
        refine TC.block ?_
        refine TC.seq ?_
        refine TC.region ?_   -- region 12 ref.go:223
        refine TL.opP rfl (op_field fld_sealskinref03_Wide_Drop rfl) ?_
        refine TL.opV rfl (op_load ts_sl_bool rfl m0 rfl) ?_
        refine TL.opX rfl (OpX.buildSlice (ps := #[(0, _)]) rfl (bs_bool_1 _)) ?_; rintro _ _ ⟨g45, rfl, rfl⟩
        refine TL.hp (fun _ h => blk_row (k := 1) (m := 1) h rfl (by decide)) ?_
        refine TL.hp (fun _ h => h.pick3) ?_
        refine TL.opX rfl (OpX.append (bytes := 1) tsl_bool (by decide) (by decide) rfl rw1 (one1 rfl) (by omega) (zs := (D' ++ [true]).map bv) (by simp)) ?_; rintro v5 _ rfl
        refine TL.know (fun _ h => row1 h) (fun o5 => ?_)
        refine TL.hp (fun _ h => row_lenM h) ?_
        refine TL.opP rfl (op_field fld_sealskinref03_Wide_Drop rfl) ?_
        refine TL.hp (fun _ h => h.pick2) ?_
        refine TL.opX0 (OpX.store1 ts_sl_bool rfl rfl (by first | rfl | assumption) rfl rfl) ?_; rintro _ _ rfl
        refine TL.nil ?_
        refine TQ.then ?_
        refine TC.region ?_   -- region 13 ref.go:224
        refine TL.opP rfl (op_field fld_sealskinref03_Wide_Puts rfl) ?_
        refine TL.opV rfl (op_load ts_sl_string rfl m0 rfl) ?_
        refine TL.opX rfl (OpX.buildSlice (ps := #[(0, _)]) rfl (bs_string_1 _)) ?_; rintro _ _ ⟨g50, rfl, rfl⟩
        refine TL.hp (fun _ h => blk_row (k := 1) (m := 1) h rfl (by decide)) ?_
        refine TL.hp (fun _ h => h.pick4) ?_
        refine TL.opX rfl (OpX.append (bytes := 16) tsl_string (by decide) (by decide) rfl rw1 (one1 rfl) (by omega) (zs := (P' ++ [[]]).map sv) (by simp [enc_nil])) ?_; rintro v6 _ rfl
        refine TL.know (fun _ h => row1 h) (fun o6 => ?_)
        refine TL.hp (fun _ h => row_lenM h) ?_
        refine TL.opP rfl (op_field fld_sealskinref03_Wide_Puts rfl) ?_
        refine TL.hp (fun _ h => h.pick2) ?_
        refine TL.opX0 (OpX.store1 ts_sl_string rfl rfl (by first | rfl | assumption) rfl rfl) ?_; rintro _ _ rfl
        refine TL.nil ?_
        refine TQ.block_normal ?_
        refine TQ.then ?_
        refine TC.region ?_   -- region 14 ref.go:222
        refine TL.opP rfl (op_add rfl rfl rfl (by omega) (by omega)) ?_
        refine TL.opP rfl (op_move rfl) ?_
        refine TL.nil ?_
        exact TQ.round (j + 1, P' ++ [[]], D' ++ [true], v6, v5) (⟨hJ.step (by omega), by assumption, by assumption⟩) (by show _ - (j + 1) < _ - j; omega) ⟨rfl, rfl, rfl, rfl, rfl, rfl, rfl, rfl, rfl, trivial⟩ (fun _ h => h.drop4.drop2)
      · obtain rfl : j = t.length := by rw [hh] at hjl; omega
        refine TC.exit ?_
        refine TQ.then_exit ?_
        refine TQ.loop_exit ?_
        refine TQ.block_hit ?_
        refine TQ.then ?_
        refine TC.seq ?_
        refine TC.region ?_   -- region 15 ref.go:226
        refine TL.opP rfl (op_move rfl) ?_
        refine TL.opP rfl (op_move rfl) ?_
        refine TL.opP rfl (op_lss rfl rfl) ?_
        refine TL.opP rfl (op_move rfl) ?_
        first | refine TL.splitD (fun c5 => ?_) (fun c5 => ?_) | refine TL.splitB (fun c5 => ?_) (fun c5 => ?_)
        · obtain ⟨c, hc⟩ : ∃ c, (dec s).getD i 0 = c := ⟨_, rfl⟩
          have hc1 := (enc_size [c]).2
          simp only [List.length_singleton] at hc1
          refine TL.gT rfl rfl ?_
          refine TL.opP rfl (op_field fld_sealskinref03_Wide_Drop rfl) ?_
          refine TL.gT rfl rfl ?_
          refine TL.opV rfl (op_load ts_sl_bool rfl m3 rfl) ?_
          refine TL.gT rfl rfl ?_
          refine TL.opP rfl (op_move rfl) ?_
          refine TL.gT rfl rfl ?_
          refine TL.opV rfl (op_index tsl_bool rfl rw5 rfl (by omega) (by omega)) ?_
          refine TL.gT rfl rfl ?_
          refine TL.opV rfl (op_loadR ts_bool rfl rw5 (lkM (i := i) (d := false) (by omega) rfl (by omega))) ?_
          refine TL.opP rfl (op_pickT rfl rfl) ?_
          refine TL.nil ?_
          refine TQ.then ?_
          first | refine TC.condD rfl (fun c6 => ?_) (fun c6 => ?_) | refine TC.condB rfl (fun c6 => ?_) (fun c6 => ?_)
          · refine TC.draw [20] (.cons (.p, 0) (.cons (.p, 2) (.cons (.p, 6) (.cons (.p, 8) (.cons (.p, 14) (.cons (.p, 15) (.cons (.t, 1) (.cons (.t, 3) (.cons (.t, 4) (.cons (.p, 5) (.cons (.t, 7) (.cons (.t, 9) (.cons (.t, 10) (.cons (.p, 11) (.cons (.t, 12) (.cons (.t, 13) (.cons (.t, 16) (.cons (.t, 17) (.cons (.p, 18) (.cons (.t, 19) (.cons (.z, 20) (.nil)))))))))))))))))))))) mo (by kernel_rfl) ?_   -- region 16 ref.go:227
            refine TR.p rfl rfl wt0 (op_field fld_sealskinref03_Wide_Puts rfl) ?_
            refine TR.p rfl rfl wt0 (op_field fld_sealskinref03_Wide_Puts rfl) ?_
            refine TR.p rfl rfl wt0 (op_field fld_sealskinref03_Wide_Puts rfl) ?_
            refine TR.p rfl rfl wt0 (op_field fld_sealskinref03_Wide_Puts rfl) ?_
            refine TR.p rfl rfl wt0 (op_move rfl) ?_
            refine TR.p rfl rfl wt0 (op_move rfl) ?_
            refine TR.t rfl rfl wt0 (op_load ts_sl_string rfl m0 rfl) (fun _ h => h) ?_
            refine TR.t rfl rfl wt0 (op_load ts_sl_string rfl m0 rfl) (fun _ h => h) ?_
            refine TR.t rfl rfl wt0 (op_lenV rfl un_sl_string rfl rw1) (fun _ h => h) ?_
            refine TR.p rfl rfl wt0 (op_sub rfl rfl rfl (by omega) (by omega)) ?_
            refine TR.t rfl rfl wt0 (op_load ts_sl_string rfl m0 rfl) (fun _ h => h) ?_
            refine TR.t rfl rfl wt0 (op_load ts_sl_string rfl m0 rfl) (fun _ h => h) ?_
            refine TR.t rfl rfl wt0 (op_lenV rfl un_sl_string rfl rw1) (fun _ h => h) ?_
            refine TR.p rfl rfl wt0 (op_sub rfl rfl rfl (by omega) (by omega)) ?_
            refine TR.t rfl rfl wt0 (op_index tsl_string rfl rw1 rfl (by omega) (by omega)) (fun _ h => h) ?_
            refine TR.t rfl rfl wt0 (op_loadR ts_string rfl rw1 (lkM (i := P'.length - 1) (d := []) (by omega) rfl (by omega))) (fun _ h => h) ?_
            refine TR.t rfl rfl wt0 (op_index tsl_string rfl rw6 rfl (by omega) (by omega)) (fun _ h => h) ?_
            refine TR.t rfl rfl wt0 (op_loadR ts_string rfl rw6 (lkM (d := (0 : Int)) (by omega) hc (by omega))) (fun _ h => h) ?_
            refine TR.p rfl rfl wt0 (op_sadde rfl rfl (by have := hJ.lastLe hclb; omega)) ?_
            refine TR.t rfl rfl wt0 (op_index tsl_string rfl rw1 rfl (by omega) (by omega)) (fun _ h => h) ?_
            refine TR.hp (fun _ h => h.pick1) ?_
            refine TR.z0 rfl wt0 (OpX.storeRow (k := 1) (fun w => by kernel_rfl) rfl rfl rfl (ys := [sv (P'.getD (P'.length - 1) [] ++ [c])]) rfl (by decide) (by first | exact (List.all_eq_true.1 rfl) | (intro u hu; simp only [List.mem_cons, List.not_mem_nil, or_false] at hu; rcases hu with rfl | rfl <;> assumption)) (by omega) (stM (i := P'.length - 1) (by omega) (by omega))) ?_; rintro _ _ rfl
            refine TR.hp (fun _ h => row_lenM h) ?_
            refine TR.nil ?_
            refine TQ.block_normal ?_
            refine TQ.then ?_
            refine TC.region ?_   -- region 20 ref.go:221
            refine TL.opP rfl (op_add rfl rfl rfl (by omega) (by omega)) ?_
            refine TL.opP rfl (op_move rfl) ?_
            refine TL.nil ?_
            exact TQ.round (i + 1, P'.set (P'.length - 1) (P'.getD (P'.length - 1) [] ++ [c]), D', yv, yw) (⟨hJ.drop (by omega) ht (by omega) c6 (by omega) hc, by assumption, by assumption⟩) (by show _ - (i + 1) < _ - i; omega) ⟨rfl, rfl, rfl, rfl, rfl, rfl, trivial⟩ (fun _ h => h.pick6.pick6.pick6.pick6.pick6.pick5.pick6)
          · refine TC.seq ?_
            refine TC.region ?_   -- region 17 ref.go:228
            refine TL.opP rfl (op_move rfl) ?_
            refine TL.opP rfl (op_move rfl) ?_
            refine TL.opP rfl (op_lss rfl rfl) ?_
            refine TL.nil ?_
            refine TQ.then ?_
            first | refine TC.condD rfl (fun c7 => ?_) (fun c7 => ?_) | refine TC.condB rfl (fun c7 => ?_) (fun c7 => ?_)
            · refine TC.seq ?_
              refine TC.region ?_   -- region 18 ref.go:229
              refine TL.opP rfl (op_field fld_sealskinref03_Wide_Drop rfl) ?_
              refine TL.opV rfl (op_load ts_sl_bool rfl m0 rfl) ?_
              refine TL.opX rfl (OpX.buildSlice (ps := #[(0, _)]) rfl (bs_bool_1 _)) ?_; rintro _ _ ⟨g89, rfl, rfl⟩
              refine TL.hp (fun _ h => blk_row (k := 1) (m := 1) h rfl (by decide)) ?_
              refine TL.hp (fun _ h => h.pick3) ?_
              refine TL.opX rfl (OpX.append (bytes := 1) tsl_bool (by decide) (by decide) rfl rw1 (one1 rfl) (by omega) (zs := (D' ++ [false]).map bv) (by simp)) ?_; rintro v7 _ rfl
              refine TL.know (fun _ h => row1 h) (fun o7 => ?_)
              refine TL.hp (fun _ h => row_lenM h) ?_
              refine TL.opP rfl (op_field fld_sealskinref03_Wide_Drop rfl) ?_
              refine TL.hp (fun _ h => h.pick2) ?_
              refine TL.opX0 (OpX.store1 ts_sl_bool rfl rfl (by first | rfl | assumption) rfl rfl) ?_; rintro _ _ rfl
              refine TL.nil ?_
              refine TQ.then ?_
              refine TC.region ?_   -- region 19 ref.go:230
              refine TL.opP rfl (op_field fld_sealskinref03_Wide_Puts rfl) ?_
              refine TL.opV rfl (op_load ts_sl_string rfl m0 rfl) ?_
              refine TL.opX rfl (OpX.buildSlice (ps := #[(0, _)]) rfl (bs_string_1 _)) ?_; rintro _ _ ⟨g94, rfl, rfl⟩
              refine TL.hp (fun _ h => blk_row (k := 1) (m := 1) h rfl (by decide)) ?_
              refine TL.hp (fun _ h => h.pick4) ?_
              refine TL.opX rfl (OpX.append (bytes := 16) tsl_string (by decide) (by decide) rfl rw1 (one1 rfl) (by omega) (zs := (P' ++ [[]]).map sv) (by simp [enc_nil])) ?_; rintro v8 _ rfl
              refine TL.know (fun _ h => row1 h) (fun o8 => ?_)
              refine TL.hp (fun _ h => row_lenM h) ?_
              refine TL.opP rfl (op_field fld_sealskinref03_Wide_Puts rfl) ?_
              refine TL.hp (fun _ h => h.pick2) ?_
              refine TL.opX0 (OpX.store1 ts_sl_string rfl rfl (by first | rfl | assumption) rfl rfl) ?_; rintro _ _ rfl
              refine TL.nil ?_
              refine TQ.block_normal ?_
              refine TQ.then ?_
              refine TC.region ?_   -- region 20 ref.go:221
              refine TL.opP rfl (op_add rfl rfl rfl (by omega) (by omega)) ?_
              refine TL.opP rfl (op_move rfl) ?_
              refine TL.nil ?_
              exact TQ.round (i + 1, P' ++ [[]], D' ++ [false], v8, v7) (⟨hJ.keep (by omega) ht (by omega) c6 (by omega) hc, by assumption, by assumption⟩) (by show _ - (i + 1) < _ - i; omega) ⟨rfl, rfl, rfl, rfl, rfl, rfl, trivial⟩ (fun _ h => h.drop4.drop2)
            · exact absurd c5 c7
        · refine TL.gFf rfl rfl rfl ?_
          refine TL.gFf rfl rfl rfl ?_
          refine TL.gFf rfl rfl rfl ?_
          refine TL.gFf rfl rfl rfl ?_
          refine TL.gFf rfl rfl rfl ?_
          refine TL.opP rfl (op_pickF rfl rfl) ?_
          refine TL.nil ?_
          refine TQ.then ?_
          refine TC.condF rfl ?_
          refine TC.seq ?_
          refine TC.region ?_   -- region 17 ref.go:228
          refine TL.opP rfl (op_move rfl) ?_
          refine TL.opP rfl (op_move rfl) ?_
          refine TL.opP rfl (op_lss rfl rfl) ?_
          refine TL.nil ?_
          refine TQ.then ?_
          first | refine TC.condD rfl (fun c8 => ?_) (fun c8 => ?_) | refine TC.condB rfl (fun c8 => ?_) (fun c8 => ?_)
          · exact absurd c8 c5
          · refine TC.skip ?_
            refine TQ.block_normal ?_
            refine TQ.then ?_
            refine TC.region ?_   -- region 20 ref.go:221
            refine TL.opP rfl (op_add rfl rfl rfl (by omega) (by omega)) ?_
            refine TL.opP rfl (op_move rfl) ?_
            refine TL.nil ?_
            exact TQ.round (i + 1, P', D', yv, yw) (⟨hJ.fin (by omega) ht (by omega), by assumption, by assumption⟩) (by show _ - (i + 1) < _ - i; omega) ⟨rfl, rfl, rfl, rfl, rfl, rfl, trivial⟩ (fun _ h => h)
    · obtain ⟨rfl, rfl⟩ := hI.fin (by omega)
      refine TC.exit ?_
      refine TQ.then_exit ?_
      refine TQ.loop_exit ?_
      refine TQ.block_hit ?_
      refine TQ.then ?_
      refine TC.seq ?_
      refine TC.region ?_   -- region 21 ref.go:233
      refine TL.opV rfl (op_loadS tst_sealskinref03_Wide rfl m0 rfl) ?_
      refine TL.opX rfl (OpX.callX en_64 rfl (close_x _ _ _ _ hclb rw1 rw2)) ?_; rintro _ _ ⟨w9, rfl, rfl⟩
      refine TL.opP rfl (op_assign rfl) ?_
      refine TL.opP rfl (op_assign rfl) ?_
      refine TL.nil ?_
      refine TQ.then ?_
      refine TC.ret ?_
      refine ret2 rfl rfl rfl (fun w' hp => ?_)
      first
        | (have hbad : applyBad e s := applyBad_of (by first | exact .inl c1 | exact .inr c2)
           exact ⟨_, _, rfl, ⟨.slice none 0 0, by rw [(inv_bad hbad).1], by rw [(inv_bad hbad).2]; rfl⟩, new_nil _ 3 (hp.drop7.drop6.drop5.drop4.drop3.drop2.drop1)⟩)
        | exact ⟨_, _, rfl, ⟨_, by rw [lE], by rw [← hlaw]⟩, (hp.drop7.drop6.drop5.drop4.drop3.drop2.drop1)⟩

theorem rcompose_x (a b : List Part) (va vb : Value) (hsa : ∀ p ∈ a, p.text.size < 9223372036854775807) (hsb : ∀ p ∈ b, p.text.size < 9223372036854775807) (hla : a.length ≤ 4398046511104) (hlb : b.length ≤ 4398046511104) (hna : sizeE a = 0 → (sizeF a).1 ≤ 1073741824) (ra : Rdb L va 3 a.length (encs a)) (rb : Rdb L vb 3 b.length (encs b)) :
    CallX Tryd.prog 46 [va, vb] S w0 (L) (fun u L' => ∃ v', u = .tuple #[v', .int .i64 (compE a b)] ∧ L' = .row v' 47 3 (compF a b).length (encs (compF a b)) :: L) := by
  intro w hp
  refine calls_start Tryd.func46 rfl rfl rfl (hp) ?_
  refine TC.seq ?_
  refine TC.region ?_   -- region 0 ref.go:237
  refine TL.opP rfl (op_assign rfl) ?_
  refine TL.opP rfl (op_assign rfl) ?_
  refine TL.nil ?_
  refine TQ.then ?_
  refine TC.seq ?_
  refine TC.region ?_   -- region 1 ref.go:238
  refine TL.opP rfl (op_move rfl) ?_
  refine TL.callq rfl en_28 rfl (fun w2 hp => rsize_calls a va w2 hsa (ra _ _ _ hp)) ?_
  refine TL.opP rfl (op_move rfl) ?_
  refine TL.opP rfl (op_extract rfl rfl) ?_
  refine TL.opP rfl (op_extract rfl rfl) ?_
  refine TL.opP rfl (op_extract rfl rfl) ?_
  refine TL.opP rfl (op_assign rfl) ?_
  refine TL.opP rfl (op_assign rfl) ?_
  refine TL.opP rfl (op_assign rfl) ?_
  refine TL.nil ?_
  refine TQ.then ?_
  refine TC.seq ?_
  refine TC.region ?_   -- region 2 ref.go:239
  refine TL.opP rfl (op_move rfl) ?_
  refine TL.callq rfl en_28 rfl (fun w2 hp => rsize_calls b vb w2 hsb (rb _ _ _ hp)) ?_
  refine TL.opP rfl (op_move rfl) ?_
  refine TL.opP rfl (op_extract rfl rfl) ?_
  refine TL.opP rfl (op_extract rfl rfl) ?_
  refine TL.opP rfl (op_extract rfl rfl) ?_
  refine TL.opP rfl (op_assign rfl) ?_
  refine TL.opP rfl (op_assign rfl) ?_
  refine TL.opP rfl (op_assign rfl) ?_
  refine TL.nil ?_
  refine TQ.then ?_
  refine TC.join (ι := Nat × Nat) (fun (n, mid) => [(0, va), (1, vb), (6, .int .i64 (n : Int)), (7, .int .i64 (mid : Int))]) (fun (n, mid) => L) (fun (n, mid) => Ok a ∧ Ok b ∧ fromS a = (n : Nat) ∧ toS a = (mid : Nat) ∧ fromS b = (mid : Nat) ∧ n ≤ 1073741824) ?_ ?_
  · refine TC.seq ?_
    refine TC.region ?_   -- region 3 ref.go:240
    refine TL.opP rfl (op_move rfl) ?_
    refine TL.opP rfl (op_neq rfl rfl) ?_
    refine TL.opP rfl (op_move rfl) ?_
    first | refine TL.splitD (fun c1 => ?_) (fun c1 => ?_) | refine TL.splitB (fun c1 => ?_) (fun c1 => ?_)
    · refine TL.gFt rfl rfl rfl ?_
      refine TL.gFt rfl rfl rfl ?_
      refine TL.opP rfl (op_pickT rfl rfl) ?_
      refine TL.opP rfl (op_move rfl) ?_
      refine TL.gFt rfl rfl rfl ?_
      refine TL.gFt rfl rfl rfl ?_
      refine TL.gFt rfl rfl rfl ?_
      refine TL.opP rfl (op_pickT rfl rfl) ?_
      refine TL.nil ?_
      refine TQ.then ?_
      refine TC.condT rfl ?_
      refine TC.seq ?_
      refine TC.region ?_   -- region 4 ref.go:241
      refine TL.opP rfl (op_assign rfl) ?_
      refine TL.opP rfl (op_assign rfl) ?_
      refine TL.nil ?_
      refine TQ.then ?_
      refine TC.ret ?_
      refine TQ.join_ret ?_
      refine ret2 rfl rfl rfl (fun w' hp => ?_)
      first
        | (have hbad : compBad a b := compBad_of (by omega)
           exact ⟨_, _, rfl, ⟨.slice none 0 0, by rw [(comp_bad hbad).1], by rw [(comp_bad hbad).2]; rfl⟩, new_nil _ 3 (hp)⟩)
        | exact ⟨_, _, rfl, ⟨_, by rw [lE], by rw [← hlaw]⟩, (hp)⟩
    · refine TL.gT rfl rfl ?_
      refine TL.opP rfl (op_move rfl) ?_
      refine TL.gT rfl rfl ?_
      refine TL.opP rfl (op_neq rfl rfl) ?_
      refine TL.opP rfl (op_pickF rfl rfl) ?_
      refine TL.opP rfl (op_move rfl) ?_
      first | refine TL.splitD (fun c2 => ?_) (fun c2 => ?_) | refine TL.splitB (fun c2 => ?_) (fun c2 => ?_)
      · refine TL.gFt rfl rfl rfl ?_
        refine TL.gFt rfl rfl rfl ?_
        refine TL.gFt rfl rfl rfl ?_
        refine TL.opP rfl (op_pickT rfl rfl) ?_
        refine TL.nil ?_
        refine TQ.then ?_
        refine TC.condT rfl ?_
        refine TC.seq ?_
        refine TC.region ?_   -- region 4 ref.go:241
        refine TL.opP rfl (op_assign rfl) ?_
        refine TL.opP rfl (op_assign rfl) ?_
        refine TL.nil ?_
        refine TQ.then ?_
        refine TC.ret ?_
        refine TQ.join_ret ?_
        refine ret2 rfl rfl rfl (fun w' hp => ?_)
        first
          | (have hbad : compBad a b := compBad_of (by omega)
             exact ⟨_, _, rfl, ⟨.slice none 0 0, by rw [(comp_bad hbad).1], by rw [(comp_bad hbad).2]; rfl⟩, new_nil _ 3 (hp)⟩)
          | exact ⟨_, _, rfl, ⟨_, by rw [lE], by rw [← hlaw]⟩, (hp)⟩
      · refine TL.gT rfl rfl ?_
        refine TL.opP rfl (op_move rfl) ?_
        refine TL.gT rfl rfl ?_
        refine TL.opP rfl (op_move rfl) ?_
        refine TL.gT rfl rfl ?_
        refine TL.opP rfl (op_neq rfl rfl) ?_
        refine TL.opP rfl (op_pickF rfl rfl) ?_
        refine TL.nil ?_
        refine TQ.then ?_
        first | refine TC.condD rfl (fun c3 => ?_) (fun c3 => ?_) | refine TC.condB rfl (fun c3 => ?_) (fun c3 => ?_)
        · refine TC.seq ?_
          refine TC.region ?_   -- region 4 ref.go:241
          refine TL.opP rfl (op_assign rfl) ?_
          refine TL.opP rfl (op_assign rfl) ?_
          refine TL.nil ?_
          refine TQ.then ?_
          refine TC.ret ?_
          refine TQ.join_ret ?_
          refine ret2 rfl rfl rfl (fun w' hp => ?_)
          first
            | (have hbad : compBad a b := compBad_of (by omega)
               exact ⟨_, _, rfl, ⟨.slice none 0 0, by rw [(comp_bad hbad).1], by rw [(comp_bad hbad).2]; rfl⟩, new_nil _ 3 (hp)⟩)
            | exact ⟨_, _, rfl, ⟨_, by rw [lE], by rw [← hlaw]⟩, (hp)⟩
        · obtain ⟨oa0, hs1, hs2⟩ := sizeE_ok (e := a) (by omega)
          obtain ⟨ob0, hs3, hs4⟩ := sizeE_ok (e := b) (by omega)
          have hpp := fromS_posU oa0.1
          refine TC.skip ?_
          exact TQ.join ((fromS a).toNat, (toS a).toNat) (⟨oa0, ob0, by omega, by omega, by omega, by have := hna (by omega); omega⟩) ⟨rfl, rfl, gi rfl (by omega), gi rfl (by omega), trivial⟩ (fun _ h => h)
  · rintro ⟨n, mid⟩ ⟨oa, ob, hn, hm, hm2, hnl⟩
    have hlaw := cz_law oa ob (by omega)
    have hclb := cz_clb oa ob (by omega)
    have lE := (comp_law oa ob (by omega)).1
    have hxPl := spP_len oa.1
    have hxDl := dv_len oa.1
    have hyPl := spP_len ob.1
    have hyDl := dv_len ob.1
    have hmade := madeN_sp oa.1
    have hto := oa.2.2.2
    have hfb := ob.2.2.1
    show TC _ _ _ _ [(0, va), (1, vb), (6, .int .i64 (n : Int)), (7, .int .i64 (mid : Int))] _ _ (L)
    refine TC.seq ?_
    refine TC.region ?_   -- region 5 ref.go:243
    refine TL.opP rfl (op_move rfl) ?_
    refine TL.opP rfl (op_move rfl) ?_
    refine TL.opX rfl (OpX.callX en_61 rfl (spread_x a (n) va oa hn (by omega) ra)) ?_; rintro _ _ ⟨vp1, vd1, rfl, rfl⟩
    refine TL.know (fun _ h => row1 h) (fun op1 => ?_)
    refine TL.know (fun _ h => row1 h.pick1) (fun op2 => ?_)
    refine TL.opP rfl (op_move rfl) ?_
    refine TL.opP rfl (op_move rfl) ?_
    refine TL.opX rfl (OpX.callX en_61 rfl (spread_x b (mid) vb ob hm2 (by omega) rb.cons.cons)) ?_; rintro _ _ ⟨vp2, vd2, rfl, rfl⟩
    refine TL.know (fun _ h => row1 h) (fun op3 => ?_)
    refine TL.know (fun _ h => row1 h.pick1) (fun op4 => ?_)
    refine TL.opX rfl (OpX.alloc tz_sealskinref03_Wide rfl) ?_; rintro _ _ ⟨g12, rfl, rfl⟩
    refine TL.opX rfl (OpX.alloc tz_sealskinref03_Wide rfl) ?_; rintro _ _ ⟨g13, rfl, rfl⟩
    refine TL.hp (fun _ h => h.pick1) ?_
    refine TL.opX0 (OpX.storeS tst_sealskinref03_Wide rfl rfl rfl rfl rfl (by first | exact (List.all_eq_true.1 rfl) | (intro u hu; simp only [List.mem_cons, List.not_mem_nil, or_false] at hu; rcases hu with rfl | rfl <;> assumption))) ?_; rintro _ _ rfl
    refine TL.hp (fun _ h => h.pick1) ?_
    refine TL.opX0 (OpX.storeS tst_sealskinref03_Wide rfl rfl rfl rfl rfl (by first | exact (List.all_eq_true.1 rfl) | (intro u hu; simp only [List.mem_cons, List.not_mem_nil, or_false] at hu; rcases hu with rfl | rfl <;> assumption))) ?_; rintro _ _ rfl
    refine TL.nil ?_
    refine TQ.then ?_
    refine TC.join (ι := Nat × Value × Value) (fun (g14, zv, zw) => [(6, .int .i64 (n : Int)), (12, .pointer (some ⟨g12, 0, none⟩)), (13, .pointer (some ⟨g13, 0, none⟩)), (14, .pointer (some ⟨g14, 0, none⟩))]) (fun (g14, zv, zw) => .blk g14 (.cells [zv, zw].toArray 78 (0, 0)) :: .row zv 9 1 (List.replicate ((dv a).length + 1) ([] : List Int)).length ((List.replicate ((dv a).length + 1) ([] : List Int)).map sv) :: .row zw 4 1 (List.replicate (dv a).length false).length ((List.replicate (dv a).length false).map bv) :: .blk g12 (.cells [vp1, vd1].toArray 78 (0, 0)) :: .blk g13 (.cells [vp2, vd2].toArray 78 (0, 0)) :: .row vp1 9 1 (spP a).length ((spP a).map sv) :: .row vd1 4 1 (dv a).length ((dv a).map bv) :: .row vp2 9 1 (spP b).length ((spP b).map sv) :: .row vd2 4 1 (dv b).length ((dv b).map bv) :: L) (fun (g14, zv, zw) => zv.oneCell' = true ∧ zw.oneCell' = true) ?_ ?_
    · refine TC.draw [7] (.cons (.p, 0) (.cons (.p, 1) (.cons (.p, 3) (.alt (.cons (.o, 2) (.alt (.cons (.o, 4) (.cons (.p, 5) (.cons (.o, 6) (.cons (.z, 7) (.nil))))) (.cons (.o, 6) (.cons (.o, 4) (.cons (.p, 5) (.cons (.z, 7) (.nil))))))) (.alt (.cons (.o, 4) (.alt (.cons (.o, 2) (.cons (.p, 5) (.cons (.o, 6) (.cons (.z, 7) (.nil))))) (.cons (.o, 6) (.cons (.o, 2) (.cons (.p, 5) (.cons (.z, 7) (.nil))))))) (.cons (.o, 6) (.alt (.cons (.o, 2) (.cons (.o, 4) (.cons (.p, 5) (.cons (.z, 7) (.nil))))) (.cons (.o, 4) (.cons (.o, 2) (.cons (.p, 5) (.cons (.z, 7) (.nil)))))))))))) mo (by kernel_rfl) ?_   -- region 6 ref.go:244
      refine TR.p rfl rfl wt0 (op_move rfl) ?_
      refine TR.p rfl rfl wt0 (op_add rfl rfl rfl (by omega) (by omega)) ?_
      refine TR.p rfl rfl wt0 (op_move rfl) ?_
      refine TR.alt ?_ ?_
      · refine TR.o rfl rfl wt0 (OpX.make (m := ((dv a).length + 1)) (zs := ((List.replicate ((dv a).length + 1) ([] : List Int)).map sv)) tsl_string rfl rfl (by omega) (by decide) (by omega) (made_str _)) (by rintro v3 _ rfl; intro w h; exact h.tail) ?_; rintro v3 _ rfl
        refine TR.know (fun _ h => row1 h) (fun o3 => ?_)
        refine TR.hp (fun _ h => row_lenM h) ?_
        refine TR.alt ?_ ?_
        · refine TR.o rfl rfl wt0 (OpX.make (m := (dv a).length) (zs := ((List.replicate (dv a).length false).map bv)) tsl_bool rfl rfl (by omega) (by decide) (by omega) (made_bool _)) (by rintro v4 _ rfl; intro w h; exact h.drop1.tail) ?_; rintro v4 _ rfl
          refine TR.know (fun _ h => row1 h) (fun o4 => ?_)
          refine TR.hp (fun _ h => row_lenM h) ?_
          refine TR.p rfl rfl wt0 (op_build (ps := #[(0, _), (1, _)]) rfl (bl_sealskinref03_Wide_01 _ _)) ?_
          refine TR.o rfl rfl wt0 (OpX.alloc tz_sealskinref03_Wide rfl) (by rintro _ _ ⟨g14, rfl, rfl⟩; intro w h; exact h.drop2.drop1.tail) ?_; rintro _ _ ⟨g14, rfl, rfl⟩
          refine TR.z0 rfl wt0 (OpX.storeS tst_sealskinref03_Wide rfl rfl rfl rfl rfl (by first | exact (List.all_eq_true.1 rfl) | (intro u hu; simp only [List.mem_cons, List.not_mem_nil, or_false] at hu; rcases hu with rfl | rfl <;> assumption))) ?_; rintro _ _ rfl
          refine TR.nil ?_
          exact TQ.join (g14, v3, v4) (⟨by assumption, by assumption⟩) ⟨rfl, rfl, rfl, rfl, trivial⟩ (fun _ h => h.pick6.pick6.pick8.pick8.pick7.pick8.pick7.pick8.pick8)
        · refine TR.o rfl rfl wt0 (OpX.alloc tz_sealskinref03_Wide rfl) (by rintro _ _ ⟨g14, rfl, rfl⟩; intro w h; exact h.drop1.tail) ?_; rintro _ _ ⟨g14, rfl, rfl⟩
          refine TR.o rfl rfl wt0 (OpX.make (m := (dv a).length) (zs := ((List.replicate (dv a).length false).map bv)) tsl_bool rfl rfl (by omega) (by decide) (by omega) (made_bool _)) (by rintro v5 _ rfl; intro w h; exact h.drop2.drop1.tail) ?_; rintro v5 _ rfl
          refine TR.know (fun _ h => row1 h) (fun o5 => ?_)
          refine TR.hp (fun _ h => row_lenM h) ?_
          refine TR.p rfl rfl wt0 (op_build (ps := #[(0, _), (1, _)]) rfl (bl_sealskinref03_Wide_01 _ _)) ?_
          refine TR.hp (fun _ h => h.pick1) ?_
          refine TR.z0 rfl wt0 (OpX.storeS tst_sealskinref03_Wide rfl rfl rfl rfl rfl (by first | exact (List.all_eq_true.1 rfl) | (intro u hu; simp only [List.mem_cons, List.not_mem_nil, or_false] at hu; rcases hu with rfl | rfl <;> assumption))) ?_; rintro _ _ rfl
          refine TR.nil ?_
          exact TQ.join (g14, v3, v5) (⟨by assumption, by assumption⟩) ⟨rfl, rfl, rfl, rfl, trivial⟩ (fun _ h => h.pick6.pick6.pick8.pick8.pick7.pick8.pick7.pick8.pick8)
      · refine TR.alt ?_ ?_
        · refine TR.o rfl rfl wt0 (OpX.make (m := (dv a).length) (zs := ((List.replicate (dv a).length false).map bv)) tsl_bool rfl rfl (by omega) (by decide) (by omega) (made_bool _)) (by rintro v6 _ rfl; intro w h; exact h.tail) ?_; rintro v6 _ rfl
          refine TR.know (fun _ h => row1 h) (fun o6 => ?_)
          refine TR.hp (fun _ h => row_lenM h) ?_
          refine TR.alt ?_ ?_
          · refine TR.o rfl rfl wt0 (OpX.make (m := ((dv a).length + 1)) (zs := ((List.replicate ((dv a).length + 1) ([] : List Int)).map sv)) tsl_string rfl rfl (by omega) (by decide) (by omega) (made_str _)) (by rintro v7 _ rfl; intro w h; exact h.drop1.tail) ?_; rintro v7 _ rfl
            refine TR.know (fun _ h => row1 h) (fun o7 => ?_)
            refine TR.hp (fun _ h => row_lenM h) ?_
            refine TR.p rfl rfl wt0 (op_build (ps := #[(0, _), (1, _)]) rfl (bl_sealskinref03_Wide_01 _ _)) ?_
            refine TR.o rfl rfl wt0 (OpX.alloc tz_sealskinref03_Wide rfl) (by rintro _ _ ⟨g14, rfl, rfl⟩; intro w h; exact h.drop2.drop1.tail) ?_; rintro _ _ ⟨g14, rfl, rfl⟩
            refine TR.z0 rfl wt0 (OpX.storeS tst_sealskinref03_Wide rfl rfl rfl rfl rfl (by first | exact (List.all_eq_true.1 rfl) | (intro u hu; simp only [List.mem_cons, List.not_mem_nil, or_false] at hu; rcases hu with rfl | rfl <;> assumption))) ?_; rintro _ _ rfl
            refine TR.nil ?_
            exact TQ.join (g14, v7, v6) (⟨by assumption, by assumption⟩) ⟨rfl, rfl, rfl, rfl, trivial⟩ (fun _ h => h.pick6.pick6.pick8.pick8.pick7.pick8.pick8.pick8.pick8)
          · refine TR.o rfl rfl wt0 (OpX.alloc tz_sealskinref03_Wide rfl) (by rintro _ _ ⟨g14, rfl, rfl⟩; intro w h; exact h.drop1.tail) ?_; rintro _ _ ⟨g14, rfl, rfl⟩
            refine TR.o rfl rfl wt0 (OpX.make (m := ((dv a).length + 1)) (zs := ((List.replicate ((dv a).length + 1) ([] : List Int)).map sv)) tsl_string rfl rfl (by omega) (by decide) (by omega) (made_str _)) (by rintro v8 _ rfl; intro w h; exact h.drop2.drop1.tail) ?_; rintro v8 _ rfl
            refine TR.know (fun _ h => row1 h) (fun o8 => ?_)
            refine TR.hp (fun _ h => row_lenM h) ?_
            refine TR.p rfl rfl wt0 (op_build (ps := #[(0, _), (1, _)]) rfl (bl_sealskinref03_Wide_01 _ _)) ?_
            refine TR.hp (fun _ h => h.pick1) ?_
            refine TR.z0 rfl wt0 (OpX.storeS tst_sealskinref03_Wide rfl rfl rfl rfl rfl (by first | exact (List.all_eq_true.1 rfl) | (intro u hu; simp only [List.mem_cons, List.not_mem_nil, or_false] at hu; rcases hu with rfl | rfl <;> assumption))) ?_; rintro _ _ rfl
            refine TR.nil ?_
            exact TQ.join (g14, v8, v6) (⟨by assumption, by assumption⟩) ⟨rfl, rfl, rfl, rfl, trivial⟩ (fun _ h => h.pick6.pick6.pick8.pick8.pick7.pick8.pick8.pick8.pick8)
        · refine TR.o rfl rfl wt0 (OpX.alloc tz_sealskinref03_Wide rfl) (by rintro _ _ ⟨g14, rfl, rfl⟩; intro w h; exact h.tail) ?_; rintro _ _ ⟨g14, rfl, rfl⟩
          refine TR.alt ?_ ?_
          · refine TR.o rfl rfl wt0 (OpX.make (m := ((dv a).length + 1)) (zs := ((List.replicate ((dv a).length + 1) ([] : List Int)).map sv)) tsl_string rfl rfl (by omega) (by decide) (by omega) (made_str _)) (by rintro v9 _ rfl; intro w h; exact h.drop1.tail) ?_; rintro v9 _ rfl
            refine TR.know (fun _ h => row1 h) (fun o9 => ?_)
            refine TR.hp (fun _ h => row_lenM h) ?_
            refine TR.o rfl rfl wt0 (OpX.make (m := (dv a).length) (zs := ((List.replicate (dv a).length false).map bv)) tsl_bool rfl rfl (by omega) (by decide) (by omega) (made_bool _)) (by rintro v10 _ rfl; intro w h; exact h.drop2.drop1.tail) ?_; rintro v10 _ rfl
            refine TR.know (fun _ h => row1 h) (fun o10 => ?_)
            refine TR.hp (fun _ h => row_lenM h) ?_
            refine TR.p rfl rfl wt0 (op_build (ps := #[(0, _), (1, _)]) rfl (bl_sealskinref03_Wide_01 _ _)) ?_
            refine TR.hp (fun _ h => h.pick2) ?_
            refine TR.z0 rfl wt0 (OpX.storeS tst_sealskinref03_Wide rfl rfl rfl rfl rfl (by first | exact (List.all_eq_true.1 rfl) | (intro u hu; simp only [List.mem_cons, List.not_mem_nil, or_false] at hu; rcases hu with rfl | rfl <;> assumption))) ?_; rintro _ _ rfl
            refine TR.nil ?_
            exact TQ.join (g14, v9, v10) (⟨by assumption, by assumption⟩) ⟨rfl, rfl, rfl, rfl, trivial⟩ (fun _ h => h.pick6.pick6.pick8.pick8.pick7.pick8.pick7.pick8.pick8)
          · refine TR.o rfl rfl wt0 (OpX.make (m := (dv a).length) (zs := ((List.replicate (dv a).length false).map bv)) tsl_bool rfl rfl (by omega) (by decide) (by omega) (made_bool _)) (by rintro v11 _ rfl; intro w h; exact h.drop1.tail) ?_; rintro v11 _ rfl
            refine TR.know (fun _ h => row1 h) (fun o11 => ?_)
            refine TR.hp (fun _ h => row_lenM h) ?_
            refine TR.o rfl rfl wt0 (OpX.make (m := ((dv a).length + 1)) (zs := ((List.replicate ((dv a).length + 1) ([] : List Int)).map sv)) tsl_string rfl rfl (by omega) (by decide) (by omega) (made_str _)) (by rintro v12 _ rfl; intro w h; exact h.drop2.drop1.tail) ?_; rintro v12 _ rfl
            refine TR.know (fun _ h => row1 h) (fun o12 => ?_)
            refine TR.hp (fun _ h => row_lenM h) ?_
            refine TR.p rfl rfl wt0 (op_build (ps := #[(0, _), (1, _)]) rfl (bl_sealskinref03_Wide_01 _ _)) ?_
            refine TR.hp (fun _ h => h.pick2) ?_
            refine TR.z0 rfl wt0 (OpX.storeS tst_sealskinref03_Wide rfl rfl rfl rfl rfl (by first | exact (List.all_eq_true.1 rfl) | (intro u hu; simp only [List.mem_cons, List.not_mem_nil, or_false] at hu; rcases hu with rfl | rfl <;> assumption))) ?_; rintro _ _ rfl
            refine TR.nil ?_
            exact TQ.join (g14, v12, v11) (⟨by assumption, by assumption⟩) ⟨rfl, rfl, rfl, rfl, trivial⟩ (fun _ h => h.pick6.pick6.pick8.pick8.pick7.pick8.pick8.pick8.pick8)
    · rintro ⟨g14, zv, zw⟩ ⟨oz1, oz2⟩
      show TC _ _ _ _ [(6, .int .i64 (n : Int)), (12, .pointer (some ⟨g12, 0, none⟩)), (13, .pointer (some ⟨g13, 0, none⟩)), (14, .pointer (some ⟨g14, 0, none⟩))] _ _ (.blk g14 (.cells [zv, zw].toArray 78 (0, 0)) :: .row zv 9 1 (List.replicate ((dv a).length + 1) ([] : List Int)).length ((List.replicate ((dv a).length + 1) ([] : List Int)).map sv) :: .row zw 4 1 (List.replicate (dv a).length false).length ((List.replicate (dv a).length false).map bv) :: .blk g12 (.cells [vp1, vd1].toArray 78 (0, 0)) :: .blk g13 (.cells [vp2, vd2].toArray 78 (0, 0)) :: .row vp1 9 1 (spP a).length ((spP a).map sv) :: .row vd1 4 1 (dv a).length ((dv a).map bv) :: .row vp2 9 1 (spP b).length ((spP b).map sv) :: .row vd2 4 1 (dv b).length ((dv b).map bv) :: L)
      refine TC.seq ?_
      refine TC.region ?_   -- region 7 ref.go:245
      refine TL.opP rfl (op_assign rfl) ?_
      refine TL.nil ?_
      refine TQ.then ?_
      refine TC.seq ?_
      refine TC.seq ?_
      refine TC.region ?_   -- region 8 ref.go:246
      refine TL.opP rfl (op_move rfl) ?_
      refine TL.opP rfl (op_add rfl rfl rfl (by omega) (by omega)) ?_
      refine TL.opP rfl (op_move rfl) ?_
      refine TL.nil ?_
      refine TQ.then ?_
      refine TC.block ?_
      refine TC.loop (ι := Nat × Nat × List (List Int) × List Bool) (fun (i, k, P, D) => [(6, .int .i64 (n : Int)), (12, .pointer (some ⟨g12, 0, none⟩)), (13, .pointer (some ⟨g13, 0, none⟩)), (14, .pointer (some ⟨g14, 0, none⟩)), (15, .int .i64 (k : Int)), (55, .int .i64 ((n : Int) + 1)), (56, .int .i64 (i : Int))]) (fun (i, k, P, D) => .blk g14 (.cells [zv, zw].toArray 78 (0, 0)) :: .row zv 9 1 (P).length ((P).map sv) :: .row zw 4 1 (D).length ((D).map bv) :: .blk g12 (.cells [vp1, vd1].toArray 78 (0, 0)) :: .blk g13 (.cells [vp2, vd2].toArray 78 (0, 0)) :: .row vp1 9 1 (spP a).length ((spP a).map sv) :: .row vd1 4 1 (dv a).length ((dv a).map bv) :: .row vp2 9 1 (spP b).length ((spP b).map sv) :: .row vd2 4 1 (dv b).length ((dv b).map bv) :: L) (fun (i, k, P, D) => ZInv (spP a) (dv a) (spP b) (dv b) (cz (spP a) (dv a) (spP b) (dv b)) i k P D) (fun (i, k, P, D) => n + 1 - i) ((0, 0, List.replicate ((dv a).length + 1) [], List.replicate (dv a).length false)) ((ZInv.start (by omega))) ⟨rfl, rfl, rfl, rfl, rfl, rfl, rfl, trivial⟩ (fun _ h => h) ?_
      rintro ⟨i, k, P, D⟩ (hI : ZInv (spP a) (dv a) (spP b) (dv b) (cz (spP a) (dv a) (spP b) (dv b)) i k P D)
      have hil := hI.ile
      show TC _ _ _ _ [(6, .int .i64 (n : Int)), (12, .pointer (some ⟨g12, 0, none⟩)), (13, .pointer (some ⟨g13, 0, none⟩)), (14, .pointer (some ⟨g14, 0, none⟩)), (15, .int .i64 (k : Int)), (55, .int .i64 ((n : Int) + 1)), (56, .int .i64 (i : Int))] _ _ (.blk g14 (.cells [zv, zw].toArray 78 (0, 0)) :: .row zv 9 1 (P).length ((P).map sv) :: .row zw 4 1 (D).length ((D).map bv) :: .blk g12 (.cells [vp1, vd1].toArray 78 (0, 0)) :: .blk g13 (.cells [vp2, vd2].toArray 78 (0, 0)) :: .row vp1 9 1 (spP a).length ((spP a).map sv) :: .row vd1 4 1 (dv a).length ((dv a).map bv) :: .row vp2 9 1 (spP b).length ((spP b).map sv) :: .row vd2 4 1 (dv b).length ((dv b).map bv) :: L)
      refine TC.seq ?_
      refine TC.region ?_   -- region 9 ref.go:246
      refine TL.opP rfl (op_lss rfl rfl) ?_
      refine TL.nil ?_
      refine TQ.then ?_
      refine TC.seq ?_
      first | refine TC.condD rfl (fun c4 => ?_) (fun c4 => ?_) | refine TC.condB rfl (fun c4 => ?_) (fun c4 => ?_)
      · obtain ⟨t, ht⟩ : ∃ t, (spP a).getD i [] = t := ⟨_, rfl⟩
        obtain ⟨hts, htn, htz⟩ := sp_get oa ht
        refine TC.skip ?_
        refine TQ.then ?_
        refine TC.seq ?_
        refine TC.block ?_
        refine TC.seq ?_
        refine TC.region ?_   -- region 10 ref.go:246
        refine TL.opP rfl (op_move rfl) ?_
        refine TL.opP rfl (op_assign rfl) ?_
        refine TL.nil ?_
        refine TQ.then ?_
        refine TC.seq ?_
        refine TC.seq ?_
        refine TC.region ?_   -- region 11 ref.go:247
        refine TL.opP rfl (op_field fld_sealskinref03_Wide_Puts rfl) ?_
        refine TL.opV rfl (op_load ts_sl_string rfl m3 rfl) ?_
        refine TL.opP rfl (op_move rfl) ?_
        refine TL.opV rfl (op_index tsl_string rfl rw5 rfl (by omega) (by omega)) ?_
        refine TL.opV rfl (op_loadR ts_string rfl rw5 (lkM (d := []) (by omega) ht (by omega))) ?_
        refine TL.opX rfl (OpX.callX en_62 rfl (charsE_x t hts (by omega))) ?_; rintro w13 _ ⟨_, rfl, rfl⟩
        refine TL.opV rfl (op_lenV rfl un_sl_string rfl rw0) ?_
        refine TL.opP rfl (op_move rfl) ?_
        refine TL.nil ?_
        refine TQ.then ?_
        refine TC.block ?_
        refine TC.loop (ι := Nat × List Int × List (List Int)) (fun (j, acc, P') => [(6, .int .i64 (n : Int)), (12, .pointer (some ⟨g12, 0, none⟩)), (13, .pointer (some ⟨g13, 0, none⟩)), (14, .pointer (some ⟨g14, 0, none⟩)), (15, .int .i64 ((k + j : Nat) : Int)), (16, .int .i64 (i : Int)), (55, .int .i64 ((n : Int) + 1)), (56, .int .i64 (i : Int)), (64, w13), (65, .int .i64 (t.length : Int)), (66, .int .i64 (j : Int))]) (fun (j, acc, P') => .blk g14 (.cells [zv, zw].toArray 78 (0, 0)) :: .row zv 9 1 (P').length ((P').map sv) :: .row zw 4 1 (D).length ((D).map bv) :: .blk g12 (.cells [vp1, vd1].toArray 78 (0, 0)) :: .blk g13 (.cells [vp2, vd2].toArray 78 (0, 0)) :: .row vp1 9 1 (spP a).length ((spP a).map sv) :: .row vd1 4 1 (dv a).length ((dv a).map bv) :: .row vp2 9 1 (spP b).length ((spP b).map sv) :: .row vd2 4 1 (dv b).length ((dv b).map bv) :: .row w13 9 1 (t).length ((t).map chv) :: L) (fun (j, acc, P') => ZIn (spP a) (dv a) (spP b) (dv b) (cz (spP a) (dv a) (spP b) (dv b)) i k t j acc P' D) (fun (j, acc, P') => t.length - j) ((0, [], P)) ((hI.inner t)) ⟨rfl, rfl, rfl, rfl, rfl, rfl, rfl, rfl, rfl, rfl, rfl, trivial⟩ (fun _ h => h.pick9.pick9.pick9.pick9.pick9.pick9.pick9.pick9.pick9) ?_
        rintro ⟨j, acc, P'⟩ (hJ : ZIn (spP a) (dv a) (spP b) (dv b) (cz (spP a) (dv a) (spP b) (dv b)) i k t j acc P' D)
        have hjl := hJ.jle
        have hJl := hJ.lens
        have hroom := hJ.room (by omega) ht
        have hac := hJ.accLe oa ob htn
        have hget := hJ.get
        show TC _ _ _ _ [(6, .int .i64 (n : Int)), (12, .pointer (some ⟨g12, 0, none⟩)), (13, .pointer (some ⟨g13, 0, none⟩)), (14, .pointer (some ⟨g14, 0, none⟩)), (15, .int .i64 ((k + j : Nat) : Int)), (16, .int .i64 (i : Int)), (55, .int .i64 ((n : Int) + 1)), (56, .int .i64 (i : Int)), (64, w13), (65, .int .i64 (t.length : Int)), (66, .int .i64 (j : Int))] _ _ (.blk g14 (.cells [zv, zw].toArray 78 (0, 0)) :: .row zv 9 1 (P').length ((P').map sv) :: .row zw 4 1 (D).length ((D).map bv) :: .blk g12 (.cells [vp1, vd1].toArray 78 (0, 0)) :: .blk g13 (.cells [vp2, vd2].toArray 78 (0, 0)) :: .row vp1 9 1 (spP a).length ((spP a).map sv) :: .row vd1 4 1 (dv a).length ((dv a).map bv) :: .row vp2 9 1 (spP b).length ((spP b).map sv) :: .row vd2 4 1 (dv b).length ((dv b).map bv) :: .row w13 9 1 (t).length ((t).map chv) :: L)
        refine TC.seq ?_
        refine TC.region ?_   -- region 12 ref.go:247
        refine TL.opP rfl (op_lss rfl rfl) ?_
        refine TL.nil ?_
        refine TQ.then ?_
        refine TC.seq ?_
        first | refine TC.condD rfl (fun c5 => ?_) (fun c5 => ?_) | refine TC.condB rfl (fun c5 => ?_) (fun c5 => ?_)
        · obtain ⟨c, hc⟩ : ∃ c, t.getD j 0 = c := ⟨_, rfl⟩
          obtain ⟨q, hq⟩ : ∃ q, (spP b).getD (k + j) [] = q := ⟨_, rfl⟩
          obtain ⟨hqs, hqn, hqz⟩ := sp_get ob hq
          have hst := fun d hd => hJ.step (c := c) (d := d) (q := q) (by omega) hc (by omega) (by omega) hq hd
          have hc1 := (enc_size [c]).2
          simp only [List.length_singleton] at hc1
          have haq := (enc_size (acc ++ q)).2
          have hal := (enc_size acc).1
          rw [List.length_append] at haq
          refine TC.skip ?_
          refine TQ.then ?_
          refine TC.seq ?_
          refine TC.block ?_
          refine TC.seq ?_
          refine TC.region ?_   -- region 13 ref.go:247
          refine TL.opV rfl (op_index tsl_string rfl rw9 rfl (by omega) (by omega)) ?_
          refine TL.opV rfl (op_loadR ts_string rfl rw9 (lkM (d := (0 : Int)) (by omega) hc (by omega))) ?_
          refine TL.opP rfl (op_assign rfl) ?_
          refine TL.nil ?_
          refine TQ.then ?_
          refine TC.seq ?_
          refine TC.draw [15] (.cons (.p, 0) (.cons (.p, 2) (.cons (.p, 3) (.cons (.p, 5) (.cons (.p, 8) (.cons (.p, 10) (.cons (.t, 1) (.cons (.t, 4) (.cons (.t, 6) (.cons (.t, 7) (.cons (.t, 9) (.cons (.t, 11) (.cons (.t, 12) (.cons (.p, 13) (.cons (.t, 14) (.cons (.z, 15) (.nil))))))))))))))))) mo (by kernel_rfl) ?_   -- region 14 ref.go:248
          refine TR.p rfl rfl wt0 (op_field fld_sealskinref03_Wide_Puts rfl) ?_
          refine TR.p rfl rfl wt0 (op_move rfl) ?_
          refine TR.p rfl rfl wt0 (op_field fld_sealskinref03_Wide_Puts rfl) ?_
          refine TR.p rfl rfl wt0 (op_move rfl) ?_
          refine TR.p rfl rfl wt0 (op_field fld_sealskinref03_Wide_Puts rfl) ?_
          refine TR.p rfl rfl wt0 (op_move rfl) ?_
          refine TR.t rfl rfl wt0 (op_load ts_sl_string rfl m0 rfl) (fun _ h => h) ?_
          refine TR.t rfl rfl wt0 (op_load ts_sl_string rfl m0 rfl) (fun _ h => h) ?_
          refine TR.t rfl rfl wt0 (op_index tsl_string rfl rw1 rfl (by omega) (by omega)) (fun _ h => h) ?_
          refine TR.t rfl rfl wt0 (op_loadR ts_string rfl rw1 (lkM (d := []) (by omega) hget (by omega))) (fun _ h => h) ?_
          refine TR.t rfl rfl wt0 (op_load ts_sl_string rfl m4 rfl) (fun _ h => h) ?_
          refine TR.t rfl rfl wt0 (op_index tsl_string rfl rw7 rfl (by omega) (by omega)) (fun _ h => h) ?_
          refine TR.t rfl rfl wt0 (op_loadR ts_string rfl rw7 (lkM (d := []) (by omega) hq (by omega))) (fun _ h => h) ?_
          refine TR.p rfl rfl wt0 (op_sadde rfl rfl (by omega)) ?_
          refine TR.t rfl rfl wt0 (op_index tsl_string rfl rw1 rfl (by omega) (by omega)) (fun _ h => h) ?_
          refine TR.hp (fun _ h => h.pick1) ?_
          refine TR.z0 rfl wt0 (OpX.storeRow (k := 1) (fun w => by kernel_rfl) rfl rfl rfl (ys := [sv (acc ++ q)]) rfl (by decide) (by first | exact (List.all_eq_true.1 rfl) | (intro u hu; simp only [List.mem_cons, List.not_mem_nil, or_false] at hu; rcases hu with rfl | rfl <;> assumption)) (by omega) (stM (i := i) (by omega) (by omega))) ?_; rintro _ _ rfl
          refine TR.hp (fun _ h => row_lenM h) ?_
          refine TR.nil ?_
          refine TQ.then ?_
          refine TC.seq ?_
          refine TC.seq ?_
          refine TC.region ?_   -- region 15 ref.go:249
          refine TL.opP rfl (op_field fld_sealskinref03_Wide_Drop rfl) ?_
          refine TL.opV rfl (op_load ts_sl_bool rfl m4 rfl) ?_
          refine TL.opP rfl (op_move rfl) ?_
          refine TL.opV rfl (op_index tsl_bool rfl rw8 rfl (by omega) (by omega)) ?_
          refine TL.opV rfl (op_loadR ts_bool rfl rw8 (lkM (i := k + j) (d := false) (by omega) rfl (by omega))) ?_
          refine TL.opP rfl (op_not rfl rfl) ?_
          refine TL.nil ?_
          refine TQ.then ?_
          first | refine TC.condD rfl (fun c6 => ?_) (fun c6 => ?_) | refine TC.condB rfl (fun c6 => ?_) (fun c6 => ?_)
          · refine TC.draw [11] (.cons (.p, 0) (.cons (.p, 2) (.cons (.p, 3) (.cons (.p, 5) (.cons (.p, 8) (.cons (.t, 1) (.cons (.t, 4) (.cons (.t, 6) (.cons (.t, 7) (.cons (.p, 9) (.cons (.t, 10) (.cons (.z, 11) (.nil))))))))))))) mo (by kernel_rfl) ?_   -- region 16 ref.go:250
            refine TR.p rfl rfl wt0 (op_field fld_sealskinref03_Wide_Puts rfl) ?_
            refine TR.p rfl rfl wt0 (op_move rfl) ?_
            refine TR.p rfl rfl wt0 (op_field fld_sealskinref03_Wide_Puts rfl) ?_
            refine TR.p rfl rfl wt0 (op_move rfl) ?_
            refine TR.p rfl rfl wt0 (op_move rfl) ?_
            refine TR.t rfl rfl wt0 (op_load ts_sl_string rfl m1 rfl) (fun _ h => h) ?_
            refine TR.t rfl rfl wt0 (op_load ts_sl_string rfl m1 rfl) (fun _ h => h) ?_
            refine TR.t rfl rfl wt0 (op_index tsl_string rfl rw0 rfl (by first | omega | (rw [List.length_set]; omega)) (by first | omega | (rw [List.length_set]; omega))) (fun _ h => h) ?_
            refine TR.t rfl rfl wt0 (op_loadR ts_string rfl rw0 (lkM (d := []) (by rw [List.length_set]; omega) (get_set (by omega)) (by omega))) (fun _ h => h) ?_
            refine TR.p rfl rfl wt0 (op_sadde rfl rfl (by omega)) ?_
            refine TR.t rfl rfl wt0 (op_index tsl_string rfl rw0 rfl (by first | omega | (rw [List.length_set]; omega)) (by first | omega | (rw [List.length_set]; omega))) (fun _ h => h) ?_
            refine TR.z0 rfl wt0 (OpX.storeRow (k := 1) (fun w => by kernel_rfl) rfl rfl rfl (ys := [sv (acc ++ q ++ [c])]) rfl (by decide) (by first | exact (List.all_eq_true.1 rfl) | (intro u hu; simp only [List.mem_cons, List.not_mem_nil, or_false] at hu; rcases hu with rfl | rfl <;> assumption)) (by rw [List.length_set]; omega) (stM (i := i) (by rw [List.length_set]; omega) (by omega))) ?_; rintro _ _ rfl
            refine TR.hp (fun _ h => row_lenM h) ?_
            refine TR.nil ?_
            refine TQ.then ?_
            refine TC.region ?_   -- region 17 ref.go:252
            refine TL.opP rfl (op_move rfl) ?_
            refine TL.opP rfl (op_add rfl rfl rfl (by omega) (by omega)) ?_
            refine TL.opP rfl (op_assign rfl) ?_
            refine TL.nil ?_
            refine TQ.block_normal ?_
            refine TQ.then ?_
            refine TC.region ?_   -- region 18 ref.go:247
            refine TL.opP rfl (op_add rfl rfl rfl (by omega) (by omega)) ?_
            refine TL.opP rfl (op_move rfl) ?_
            refine TL.nil ?_
            exact TQ.round (j + 1, acc ++ q ++ [c], (P'.set i (acc ++ q)).set i (acc ++ q ++ [c])) (by dsimp only; rw [List.set_set]; exact hst false (by simpa using c6)) (by show _ - (j + 1) < _ - j; omega) ⟨rfl, rfl, rfl, rfl, rfl, rfl, rfl, rfl, rfl, rfl, rfl, trivial⟩ (fun _ h => h.pick9.pick9.pick9.pick9.pick9.pick9.pick9.pick9.pick8.pick9)
          · refine TC.skip ?_
            refine TQ.then ?_
            refine TC.region ?_   -- region 17 ref.go:252
            refine TL.opP rfl (op_move rfl) ?_
            refine TL.opP rfl (op_add rfl rfl rfl (by omega) (by omega)) ?_
            refine TL.opP rfl (op_assign rfl) ?_
            refine TL.nil ?_
            refine TQ.block_normal ?_
            refine TQ.then ?_
            refine TC.region ?_   -- region 18 ref.go:247
            refine TL.opP rfl (op_add rfl rfl rfl (by omega) (by omega)) ?_
            refine TL.opP rfl (op_move rfl) ?_
            refine TL.nil ?_
            exact TQ.round (j + 1, acc ++ q, P'.set i (acc ++ q)) (hst true (by simpa using c6)) (by show _ - (j + 1) < _ - j; omega) ⟨rfl, rfl, rfl, rfl, rfl, rfl, rfl, rfl, rfl, rfl, rfl, trivial⟩ (fun _ h => h.pick9.pick9.pick9.pick9.pick9.pick9.pick9.pick9.pick8.pick9)
        · obtain rfl : j = t.length := by omega
          obtain ⟨q, hq⟩ : ∃ q, (spP b).getD (k + t.length) [] = q := ⟨_, rfl⟩
          obtain ⟨hqs, hqn, hqz⟩ := sp_get ob hq
          refine TC.exit ?_
          refine TQ.then_exit ?_
          refine TQ.loop_exit ?_
          refine TQ.block_hit ?_
          refine TQ.then ?_
          refine TC.seq ?_
          refine TC.seq ?_
          refine TC.region ?_   -- region 19 ref.go:254
          refine TL.opP rfl (op_move rfl) ?_
          refine TL.opP rfl (op_move rfl) ?_
          refine TL.opP rfl (op_eql rfl rfl) ?_
          refine TL.nil ?_
          refine TQ.then ?_
          first | refine TC.condD rfl (fun c7 => ?_) (fun c7 => ?_) | refine TC.condB rfl (fun c7 => ?_) (fun c7 => ?_)
          · have hfin : P'.set i (acc ++ q) = (cz (spP a) (dv a) (spP b) (dv b)).1 ∧ D = (cz (spP a) (dv a) (spP b) (dv b)).2 := hJ.fin (by omega) ht (by omega) (by omega) hq
            refine TC.exit ?_
            refine TQ.then_exit ?_
            refine TQ.block_miss rfl ?_
            refine TQ.then_exit ?_
            refine TQ.loop_exit ?_
            refine TQ.block_hit ?_
            refine TQ.then ?_
            refine TC.seq ?_
            refine TC.draw [15] (.cons (.p, 0) (.cons (.p, 2) (.cons (.p, 3) (.cons (.p, 5) (.cons (.p, 8) (.cons (.p, 10) (.cons (.t, 1) (.cons (.t, 4) (.cons (.t, 6) (.cons (.t, 7) (.cons (.t, 9) (.cons (.t, 11) (.cons (.t, 12) (.cons (.p, 13) (.cons (.t, 14) (.cons (.z, 15) (.nil))))))))))))))))) mo (by kernel_rfl) ?_   -- region 26 ref.go:265
            refine TR.p rfl rfl wt0 (op_field fld_sealskinref03_Wide_Puts rfl) ?_
            refine TR.p rfl rfl wt0 (op_move rfl) ?_
            refine TR.p rfl rfl wt0 (op_field fld_sealskinref03_Wide_Puts rfl) ?_
            refine TR.p rfl rfl wt0 (op_move rfl) ?_
            refine TR.p rfl rfl wt0 (op_field fld_sealskinref03_Wide_Puts rfl) ?_
            refine TR.p rfl rfl wt0 (op_move rfl) ?_
            refine TR.t rfl rfl wt0 (op_load ts_sl_string rfl m0 rfl) (fun _ h => h) ?_
            refine TR.t rfl rfl wt0 (op_load ts_sl_string rfl m0 rfl) (fun _ h => h) ?_
            refine TR.t rfl rfl wt0 (op_index tsl_string rfl rw1 rfl (by omega) (by omega)) (fun _ h => h) ?_
            refine TR.t rfl rfl wt0 (op_loadR ts_string rfl rw1 (lkM (d := []) (by omega) (show P'.getD n [] = acc by rw [show n = i by omega]; exact hget) (by omega))) (fun _ h => h) ?_
            refine TR.t rfl rfl wt0 (op_load ts_sl_string rfl m4 rfl) (fun _ h => h) ?_
            refine TR.t rfl rfl wt0 (op_index tsl_string rfl rw7 rfl (by omega) (by omega)) (fun _ h => h) ?_
            refine TR.t rfl rfl wt0 (op_loadR ts_string rfl rw7 (lkM (d := []) (by omega) hq (by omega))) (fun _ h => h) ?_
            refine TR.p rfl rfl wt0 (op_sadde rfl rfl (by omega)) ?_
            refine TR.t rfl rfl wt0 (op_index tsl_string rfl rw1 rfl (by omega) (by omega)) (fun _ h => h) ?_
            refine TR.hp (fun _ h => h.pick1) ?_
            refine TR.z0 rfl wt0 (OpX.storeRow (k := 1) (fun w => by kernel_rfl) rfl rfl rfl (ys := [sv (acc ++ q)]) rfl (by decide) (by first | exact (List.all_eq_true.1 rfl) | (intro u hu; simp only [List.mem_cons, List.not_mem_nil, or_false] at hu; rcases hu with rfl | rfl <;> assumption)) (by omega) (stM (i := i) (by omega) (by omega))) ?_; rintro _ _ rfl
            refine TR.hp (fun _ h => row_lenM h) ?_
            refine TR.nil ?_
            refine TQ.then ?_
            refine TC.seq ?_
            refine TC.region ?_   -- region 27 ref.go:266
            refine TL.opV rfl (op_loadS tst_sealskinref03_Wide rfl m1 rfl) ?_
            refine TL.opX rfl (OpX.callX en_64 rfl (close_x _ _ _ _ hclb (by rw [← hfin.1]; exact rw0) (by rw [← hfin.2]; exact rw2))) ?_; rintro _ _ ⟨w14, rfl, rfl⟩
            refine TL.opP rfl (op_assign rfl) ?_
            refine TL.opP rfl (op_assign rfl) ?_
            refine TL.nil ?_
            refine TQ.then ?_
            refine TC.ret ?_
            refine ret2 rfl rfl rfl (fun w' hp => ?_)
            first
              | (have hbad : compBad a b := compBad_of (by omega)
                 exact ⟨_, _, rfl, ⟨.slice none 0 0, by rw [(comp_bad hbad).1], by rw [(comp_bad hbad).2]; rfl⟩, new_nil _ 3 (hp.drop10.drop9.drop8.drop7.drop6.drop5.drop4.drop3.drop2.drop1)⟩)
              | exact ⟨_, _, rfl, ⟨_, by rw [lE], by rw [← hlaw]⟩, (hp.drop10.drop9.drop8.drop7.drop6.drop5.drop4.drop3.drop2.drop1)⟩
          · refine TC.skip ?_
            refine TQ.then ?_
            refine TC.seq ?_
            refine TC.seq ?_
            refine TC.region ?_   -- region 20 ref.go:257
            refine TL.opP rfl (op_field fld_sealskinref03_Wide_Drop rfl) ?_
            refine TL.opV rfl (op_load ts_sl_bool rfl m3 rfl) ?_
            refine TL.opP rfl (op_move rfl) ?_
            refine TL.opV rfl (op_index tsl_bool rfl rw6 rfl (by omega) (by omega)) ?_
            refine TL.opV rfl (op_loadR ts_bool rfl rw6 (lkM (i := i) (d := false) (by omega) rfl (by omega))) ?_
            refine TL.nil ?_
            refine TQ.then ?_
            first | refine TC.condD rfl (fun c8 => ?_) (fun c8 => ?_) | refine TC.condB rfl (fun c8 => ?_) (fun c8 => ?_)
            · refine TC.seq ?_
              refine TC.region ?_   -- region 21 ref.go:258
              refine TL.opP rfl (op_field fld_sealskinref03_Wide_Drop rfl) ?_
              refine TL.opV rfl (op_load ts_sl_bool rfl m0 rfl) ?_
              refine TL.opP rfl (op_move rfl) ?_
              refine TL.opV rfl (op_index tsl_bool rfl rw2 rfl (by omega) (by omega)) ?_
              refine TL.hp (fun _ h => h.pick2) ?_
              refine TL.opX0 (OpX.storeRow (k := 1) (fun w => by kernel_rfl) rfl rfl rfl (ys := [bv true]) rfl (by decide) (by first | exact (List.all_eq_true.1 rfl) | (intro u hu; simp only [List.mem_cons, List.not_mem_nil, or_false] at hu; rcases hu with rfl | rfl <;> assumption)) (by omega) (stM (i := i) (by omega) (by omega))) ?_; rintro _ _ rfl
              refine TL.hp (fun _ h => row_lenM h) ?_
              refine TL.nil ?_
              refine TQ.then ?_
              refine TC.exit ?_
              refine TQ.then_exit ?_
              refine TQ.block_hit ?_
              refine TQ.then ?_
              refine TC.region ?_   -- region 25 ref.go:246
              refine TL.opP rfl (op_add rfl rfl rfl (by omega) (by omega)) ?_
              refine TL.opP rfl (op_move rfl) ?_
              refine TL.nil ?_
              exact TQ.round (i + 1, k + t.length, P', D.set i true) (hJ.dropT (by omega) ht (by omega) c8) (by show _ - (i + 1) < _ - i; omega) ⟨rfl, rfl, rfl, rfl, rfl, rfl, rfl, trivial⟩ (fun _ h => h.drop9.pick8.pick8.pick8.pick8.pick8.pick8.pick6.pick8.pick8)
            · have hr2 := hroom.2 (by omega) c8
              obtain ⟨d, hd⟩ : ∃ d, (dv b).getD (k + t.length) false = d := ⟨_, rfl⟩
              refine TC.skip ?_
              refine TQ.then ?_
              refine TC.seq ?_
              refine TC.draw [15] (.cons (.p, 0) (.cons (.p, 2) (.cons (.p, 3) (.cons (.p, 5) (.cons (.p, 8) (.cons (.p, 10) (.cons (.t, 1) (.cons (.t, 4) (.cons (.t, 6) (.cons (.t, 7) (.cons (.t, 9) (.cons (.t, 11) (.cons (.t, 12) (.cons (.p, 13) (.cons (.t, 14) (.cons (.z, 15) (.nil))))))))))))))))) mo (by kernel_rfl) ?_   -- region 22 ref.go:261
              refine TR.p rfl rfl wt0 (op_field fld_sealskinref03_Wide_Puts rfl) ?_
              refine TR.p rfl rfl wt0 (op_move rfl) ?_
              refine TR.p rfl rfl wt0 (op_field fld_sealskinref03_Wide_Puts rfl) ?_
              refine TR.p rfl rfl wt0 (op_move rfl) ?_
              refine TR.p rfl rfl wt0 (op_field fld_sealskinref03_Wide_Puts rfl) ?_
              refine TR.p rfl rfl wt0 (op_move rfl) ?_
              refine TR.t rfl rfl wt0 (op_load ts_sl_string rfl m0 rfl) (fun _ h => h) ?_
              refine TR.t rfl rfl wt0 (op_load ts_sl_string rfl m0 rfl) (fun _ h => h) ?_
              refine TR.t rfl rfl wt0 (op_index tsl_string rfl rw1 rfl (by omega) (by omega)) (fun _ h => h) ?_
              refine TR.t rfl rfl wt0 (op_loadR ts_string rfl rw1 (lkM (d := []) (by omega) hget (by omega))) (fun _ h => h) ?_
              refine TR.t rfl rfl wt0 (op_load ts_sl_string rfl m4 rfl) (fun _ h => h) ?_
              refine TR.t rfl rfl wt0 (op_index tsl_string rfl rw7 rfl (by omega) (by omega)) (fun _ h => h) ?_
              refine TR.t rfl rfl wt0 (op_loadR ts_string rfl rw7 (lkM (d := []) (by omega) hq (by omega))) (fun _ h => h) ?_
              refine TR.p rfl rfl wt0 (op_sadde rfl rfl (by omega)) ?_
              refine TR.t rfl rfl wt0 (op_index tsl_string rfl rw1 rfl (by omega) (by omega)) (fun _ h => h) ?_
              refine TR.hp (fun _ h => h.pick1) ?_
              refine TR.z0 rfl wt0 (OpX.storeRow (k := 1) (fun w => by kernel_rfl) rfl rfl rfl (ys := [sv (acc ++ q)]) rfl (by decide) (by first | exact (List.all_eq_true.1 rfl) | (intro u hu; simp only [List.mem_cons, List.not_mem_nil, or_false] at hu; rcases hu with rfl | rfl <;> assumption)) (by omega) (stM (i := i) (by omega) (by omega))) ?_; rintro _ _ rfl
              refine TR.hp (fun _ h => row_lenM h) ?_
              refine TR.nil ?_
              refine TQ.then ?_
              refine TC.seq ?_
              refine TC.draw [9] (.cons (.p, 0) (.cons (.p, 2) (.cons (.p, 3) (.cons (.p, 5) (.cons (.t, 1) (.cons (.t, 4) (.cons (.t, 6) (.cons (.t, 7) (.cons (.t, 8) (.cons (.z, 9) (.nil))))))))))) mo (by kernel_rfl) ?_   -- region 23 ref.go:262
              refine TR.p rfl rfl wt0 (op_field fld_sealskinref03_Wide_Drop rfl) ?_
              refine TR.p rfl rfl wt0 (op_move rfl) ?_
              refine TR.p rfl rfl wt0 (op_field fld_sealskinref03_Wide_Drop rfl) ?_
              refine TR.p rfl rfl wt0 (op_move rfl) ?_
              refine TR.t rfl rfl wt0 (op_load ts_sl_bool rfl m1 rfl) (fun _ h => h) ?_
              refine TR.t rfl rfl wt0 (op_load ts_sl_bool rfl m4 rfl) (fun _ h => h) ?_
              refine TR.t rfl rfl wt0 (op_index tsl_bool rfl rw8 rfl (by omega) (by omega)) (fun _ h => h) ?_
              refine TR.t rfl rfl wt0 (op_loadR ts_bool rfl rw8 (lkM (d := false) (by omega) hd (by omega))) (fun _ h => h) ?_
              refine TR.t rfl rfl wt0 (op_index tsl_bool rfl rw2 rfl (by omega) (by omega)) (fun _ h => h) ?_
              refine TR.hp (fun _ h => h.pick2) ?_
              refine TR.z0 rfl wt0 (OpX.storeRow (k := 1) (fun w => by kernel_rfl) rfl rfl rfl (ys := [bv d]) rfl (by decide) (by first | exact (List.all_eq_true.1 rfl) | (intro u hu; simp only [List.mem_cons, List.not_mem_nil, or_false] at hu; rcases hu with rfl | rfl <;> assumption)) (by omega) (stM (i := i) (by omega) (by omega))) ?_; rintro _ _ rfl
              refine TR.hp (fun _ h => row_lenM h) ?_
              refine TR.nil ?_
              refine TQ.then ?_
              refine TC.region ?_   -- region 24 ref.go:263
              refine TL.opP rfl (op_move rfl) ?_
              refine TL.opP rfl (op_add rfl rfl rfl (by omega) (by omega)) ?_
              refine TL.opP rfl (op_assign rfl) ?_
              refine TL.nil ?_
              refine TQ.block_normal ?_
              refine TQ.then ?_
              refine TC.region ?_   -- region 25 ref.go:246
              refine TL.opP rfl (op_add rfl rfl rfl (by omega) (by omega)) ?_
              refine TL.opP rfl (op_move rfl) ?_
              refine TL.nil ?_
              exact TQ.round (i + 1, k + t.length + 1, P'.set i (acc ++ q), D.set i d) (hJ.dropF (by omega) ht (by omega) c8 (by omega) (by omega) hq hd) (by show _ - (i + 1) < _ - i; omega) ⟨rfl, rfl, rfl, rfl, rfl, rfl, rfl, trivial⟩ (fun _ h => h.drop9.pick8.pick8.pick8.pick8.pick8.pick8.pick6.pick7.pick8)
      · exact absurd hil (by omega)

end Go.SK
