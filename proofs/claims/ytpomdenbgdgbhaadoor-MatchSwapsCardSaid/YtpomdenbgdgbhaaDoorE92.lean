/- Layer 12: the document's Find and All. -/
import Derived.Test.YtpomdenbgdgbhaaDoorE91
set_option linter.unusedVariables false
set_option linter.unusedSimpArgs false
set_option maxRecDepth 100000
namespace Go.SK
open Go Go.RowKit Go.Proofs
variable {S : Nat → Prop} {w0 : World} {F L : List Res}
theorem bkb_mem {g : Nat} {o : Obj} (h : Res.blk g o ∈ L) : Bkb L g o := fun S w0 w H => H.at_ _ h
def svG (k p : Nat) : List Int := (p : Int) :: List.replicate (2 * k + 1) (-1)
theorem svG_len (k p : Nat) : (svG k p).length = 2 * k + 2 := by simp [svG]
theorem svG_step (k p : Nat) : ints (svG k p) ++ [.int .i64 (-1), .int .i64 (-1)] = ints (svG (k + 1) p) := by
  have e : svG (k + 1) p = svG k p ++ [-1, -1] := by
    unfold svG
    rw [show 2 * (k + 1) + 1 = 2 * k + 1 + 1 + 1 by omega, List.replicate_succ', List.replicate_succ']
    simp
  rw [e]
  unfold ints
  rw [List.map_append]; rfl
theorem stp_k {pg : List StP} {G : Nat} (h : PgOk pg G) (a : Nat) : (stp pg a).k = 0 ∨ (stp pg a).k = 1 ∨ (stp pg a).k = 2 ∨ (stp pg a).k = 3 ∨ (stp pg a).k = 4 ∨ (stp pg a).k = 5 := by
  rcases Nat.lt_or_ge a pg.length with h1 | h1
  · exact h.k a _ (stp_get h1)
  · unfold stp; rw [List.getD_eq_getElem?_getD, List.getElem?_eq_none h1]; exact .inl rfl
theorem way_from {pg : List StP} {G : Nat} (h : PgG pg G) {tx : List Int} {j : Nat} (hj : j ≤ tx.length) {o : Option (List Int)} {W' : Wd} {f : Nat} (hf : cntW (fun _ => freshS pg) (tx.length + 1) < f) (hw : wayF pg tx f (fun _ => freshS pg) 0 j (sv0 G j) = (o, W')) : o = fromF pg G tx j := by
  have e := way_bfs (pg := pg) (tx := tx) (stp_k h.toPgOk) (f := f) (a := 0) (p := j) (sv := sv0 G j) hf hj
  rw [hw] at e
  exact e
theorem fd_yes {pg : List StP} {G : Nat} (hG : PgG pg G) {tx : List Int} {j : Nat} {v : Value} {r : List Int} {rs : List Res} {n : Nat} (hj : j ≤ tx.length) (h : some r = fromF pg G tx j) (hs : ∃ A c, v = .slice A ((some r).getD []).length c ∧ (0 < ((some r).getD []).length → ∃ ad, A = some ad)) (ho : v.oneCell' = true) (hf : findGo pg G tx (tx.length + 1 - j) j = mfindF pg G tx n) : FdOk (.rd v 1 r.length (ints r) :: rs) (mfindF pg G tx n) v := by
  have hl := (from_ok hG hj h.symm).len
  obtain ⟨A, c, rfl, hA⟩ := hs
  obtain ⟨ad, rfl⟩ := hA (by show 0 < r.length; omega)
  rw [← hf, find_hit hj (by rw [← h]; simp), ← h]
  exact ⟨ho, (fun e => by cases e), fun u hu => by cases hu; exact ⟨.head _, _, _, _, rfl⟩⟩
theorem RmOk.mono {rs rs' : List Res} (h : rs ⊆ rs') {m : RM} (hm : RmOk rs m) : RmOk rs' m := fun h0 => by
  obtain ⟨a, s', b, c⟩ := hm h0
  exact ⟨a, s', h b, c⟩
set_option maxHeartbeats 1000000
theorem xfind_x (pg : List StP) (G : Nat) (rs : List Res) (ms : List RM) (lv : Value) (pa : Nat) (hG : PgG pg G) (hpgm : ms.map Prod.fst = pg) (hmok : ∀ m ∈ ms, RmOk rs m) (hpat : Res.blk pa (.cells [lv, .int .i64 (G : Int)].toArray 78 (0, 0)) ∈ rs) (hstp : Res.rd lv 12 ms.length (encs ms) ∈ rs) (hpl : pg.length ≤ 3000) (hG2 : G ≤ 200) (s : ByteArray) (n : Int) (hs : s.size ≤ 1048576) :
    CallX Tryd.prog 51 [ptrV pa, .string s, .int .i64 n] S w0 (fz rs :: F) (fun u L' => ∃ rs' v', u = .tuple #[v', .int .i64 (fdE s n)] ∧ rs ⊆ rs' ∧ FdOk rs' (fdF pg G s n) v' ∧ L' = fz rs' :: F) := by
 intro w hp
 have htl := txF_len s
 have hdl := dec_len s
 have hlv1 := (rdb_fz (L := fz rs :: F) (.head _) hstp).one hp
 refine calls_start Tryd.func51 rfl rfl rfl (hp) ?_
 refine TC.seq (TC.region (TL.as rfl rfl (TL.as rfl rfl (TL.nil (TQ.then (TC.seq (TC.region (TL.opP rfl (op_move rfl) ?_))))))))
 refine TL.opX rfl (OpX.callX en_83 rfl (xrunes_x s (by omega))) ?_; rintro _ _ ⟨w1, rfl, rfl⟩
 refine TL.know (fun _ h => row1 h) (fun hw1 => (TL.mv rfl rfl (TL.hp (fun _ h => row_rd h) (TL.opP rfl (op_extract rfl rfl) (TL.opP rfl (op_extract rfl rfl) (TL.as rfl rfl (TL.as rfl rfl (TL.nil (TQ.then (TC.seq (TC.seq (TC.region (TL.mv rfl rfl (TL.opP rfl (op_not rfl rfl) (TL.nil (TQ.then ?_))))))))))))))))
 refine TC.sp rfl (fun c1 => ?_) (fun c1 => ?_)
 ·have hv : valid s = false := by simpa using c1
  have hE := txE_a hv
  refine TC.seq (TC.region (TL.as rfl rfl (TL.as rfl rfl (TL.nil (TQ.then (TC.ret (TQ.then_ret ?_)))))))
  refine ret2 rfl rfl rfl (fun w' hp => ?_)
  exact ⟨_, _, rfl, ⟨rs, nilS, by (rw [fdE_a (by rw [hE]; decide), hE]), fun _ h => h, by (rw [fdF_no (by rw [fdE_a (by rw [hE]; decide), hE]; decide)]; exact .none_ rs), rfl⟩, (hp.tail)⟩
 ·have hv : valid s = true := by simpa using c1
  refine TC.skip (TQ.then (TC.seq (TC.seq (TC.region (TL.mv rfl rfl (TL.opV rfl (op_lenV rfl un_sl_int32 rfl rd0) (TL.opP rfl (op_gtr rfl rfl) (TL.nil (TQ.then ?_)))))))))
  refine TC.sp rfl (fun c2 => ?_) (fun c2 => ?_)
  ·have hE := txE_b hv (by omega)
   refine TC.seq (TC.region (TL.as rfl rfl (TL.as rfl rfl (TL.nil (TQ.then (TC.ret (TQ.then_ret ?_)))))))
   refine ret2 rfl rfl rfl (fun w' hp => ?_)
   exact ⟨_, _, rfl, ⟨rs, nilS, by (rw [fdE_a (by rw [hE]; decide), hE]), fun _ h => h, by (rw [fdF_no (by rw [fdE_a (by rw [hE]; decide), hE]; decide)]; exact .none_ rs), rfl⟩, (hp.tail)⟩
  ·have hE := txE_c hv (by omega)
   have h0 : ¬ txE s ≠ 0 := fun e => e hE
   have hts := txF_is hE
   refine TC.skip (TQ.then (TC.seq (TC.seq (TC.region (TL.mv rfl rfl (TL.opP rfl (op_lss rfl rfl) (TL.opP rfl (op_move rfl) ?_)))))))
   refine TL.sp (fun c3 => ?_) (fun c3 => ?_)
   ·refine TL.gFt rfl rfl rfl (TL.gFt rfl rfl rfl (TL.gFt rfl rfl rfl (TL.gFt rfl rfl rfl (TL.opP rfl (op_pickT rfl rfl) (TL.nil (TQ.then (TC.condT rfl (TC.seq (TC.region (TL.as rfl rfl (TL.as rfl rfl (TL.nil (TQ.then (TC.ret (TQ.then_ret ?_)))))))))))))))
    refine ret2 rfl rfl rfl (fun w' hp => ?_)
    exact ⟨_, _, rfl, ⟨rs, nilS, by rw [fdE_b h0 (by rw [hts]; omega)], fun _ h => h, by (rw [fdF_no (by rw [fdE_b h0 (by rw [hts]; omega)]; decide)]; exact .none_ rs), rfl⟩, (hp.tail)⟩
   ·refine TL.gT rfl rfl (TL.mv rfl rfl (TL.gT rfl rfl (TL.mv rfl rfl (TL.gT rfl rfl (TL.opV rfl (op_lenV rfl un_sl_int32 rfl rd0) (TL.gT rfl rfl (TL.opP rfl (op_gtr rfl rfl) (TL.opP rfl (op_pickF rfl rfl) (TL.nil (TQ.then ?_))))))))))
    refine TC.sp rfl (fun c4 => ?_) (fun c4 => ?_)
    ·refine TC.seq (TC.region (TL.as rfl rfl (TL.as rfl rfl (TL.nil (TQ.then (TC.ret (TQ.then_ret ?_)))))))
     refine ret2 rfl rfl rfl (fun w' hp => ?_)
     exact ⟨_, _, rfl, ⟨rs, nilS, by rw [fdE_b h0 (by rw [hts]; omega)], fun _ h => h, by (rw [fdF_no (by rw [fdE_b h0 (by rw [hts]; omega)]; decide)]; exact .none_ rs), rfl⟩, (hp.tail)⟩
    ·obtain ⟨n, rfl⟩ : ∃ k : Nat, n = k := ⟨n.toNat, by omega⟩
     have hE0 := fdE_c (s := s) (n := (n : Int)) h0 (by rw [hts]; omega)
     have hF0 : fdF pg G s (n : Int) = mfindF pg G (txF s) n := (fdF_is hE0).trans (by rw [Int.toNat_natCast])
     rw [hts] at hF0 htl
     refine TC.skip (TQ.then (TC.seq (TC.seq (TC.region (TL.mv rfl rfl (TL.as rfl rfl (TL.nil (TQ.then (TC.block (TC.loop (ι := Nat) (fun j => [(0, ptrV pa), (8, w1), (10, nv j)]) (fun j => .rd w1 1 (dec s).length ((dec s).map (Value.int .i32)) :: fz rs :: F) (fun j => n ≤ j ∧ j ≤ (dec s).length + 1 ∧ findGo pg G (dec s) ((dec s).length + 1 - j) j = mfindF pg G (dec s) n) (fun j => (dec s).length + 1 - j) (n) (⟨Nat.le_refl _, by omega, rfl⟩) ⟨rfl, rfl, rfl, trivial⟩ (fun _ h => h) ?_))))))))))
     rintro j ⟨hj0, hj1, hfg⟩
     refine TC.seq (TC.seq (TC.region (TL.mv rfl rfl (TL.mv rfl rfl (TL.opV rfl (op_lenV rfl un_sl_int32 rfl rd0) (TL.opP rfl (op_leq rfl rfl) (TL.nil (TQ.then ?_))))))))
     refine TC.sp rfl (fun c5 => ?_) (fun c5 => ?_)
     ·refine TC.skip (TQ.then (TC.seq (TC.block (TC.seq (TC.region (TL.opP rfl (op_move rfl) ?_))))))
      refine TL.opX rfl (OpX.buildSlice (ps := #[(0, nv j), (1, .int .i64 (-1))]) rfl (bs_int_2 _ _)) ?_; rintro _ _ ⟨g41, rfl, rfl⟩
      refine TL.hp (fun _ h => blk_row (k := 1) (m := 2) h rfl (by decide)) (TL.as rfl rfl (TL.nil (TQ.then (TC.seq (TC.seq (TC.region (TL.mv rfl rfl (TL.opP rfl (op_nilCheck rfl) (TL.opP rfl (op_field fld_sealskinref12_Pattern_Groups rfl) (TL.opV rfl (op_loadB ts_int rfl (bkb_fz m2 hpat) rfl) (TL.mv rfl rfl (TL.nil (TQ.then (TC.block (TC.loop (ι := Nat × Value) (fun (k, v) => [(0, ptrV pa), (8, w1), (10, nv j), (11, v), (45, .int .i64 (G : Int)), (46, .int .i64 (k : Int))]) (fun (k, v) => .row v 3 1 (svG k j).length (ints (svG k j)) :: .rd w1 1 (dec s).length ((dec s).map (Value.int .i32)) :: fz rs :: F) (fun (k, v) => k ≤ G ∧ v.oneCell' = true) (fun (k, v) => G - k) ((0, .slice (some ⟨g41, 0, none⟩) 2 2)) (⟨Nat.zero_le _, rfl⟩) ⟨rfl, rfl, rfl, rfl, rfl, rfl, trivial⟩ (fun _ h => h) ?_)))))))))))))))
      rintro ⟨k, v⟩ ⟨hk, hv2⟩
      have hsl := svG_len k j
      show TC _ _ _ _ [(0, ptrV pa), (8, w1), (10, nv j), (11, v), (45, .int .i64 (G : Int)), (46, .int .i64 (k : Int))] _ _ (.row v 3 1 (svG k j).length (ints (svG k j)) :: .rd w1 1 (dec s).length ((dec s).map (Value.int .i32)) :: fz rs :: F)
      refine TC.seq (TC.region (TL.opP rfl (op_lss rfl rfl) (TL.nil (TQ.then (TC.seq ?_)))))
      refine TC.sp rfl (fun c6 => ?_) (fun c6 => ?_)
      ·refine TC.skip (TQ.then (TC.seq (TC.block (TC.region (TL.opP rfl (op_move rfl) ?_)))))
       refine TL.opX rfl (OpX.buildSlice (ps := #[(0, _), (1, _)]) rfl (bs_int_2 _ _)) ?_; rintro _ _ ⟨g49, rfl, rfl⟩
       refine TL.hp (fun _ h => blk_row (k := 1) (m := 2) h rfl (by decide)) (TL.hp (fun _ h => h.pick1) ?_)
       refine TL.opX rfl (OpX.append (bytes := 8) tsl_int (by decide) (by decide) rfl rw1 (ints_one [-1, -1]) (by omega) (zs := ints (svG (k + 1) j)) (svG_step k j)) ?_; rintro v2 _ rfl
       refine TL.know (fun _ h => row1 h) (fun o2 => (TL.hp (fun _ h => row_lenM h) (TL.as rfl rfl (TL.nil (TQ.block_normal (TQ.then (TC.region (TL.opP rfl (op_add rfl rfl rfl (by omega) (by omega)) (TL.mv rfl rfl (TL.nil ?_))))))))))
       exact TQ.round (k + 1, v2) (by (try dsimp only); exact ⟨by omega, by assumption⟩) (by show G - (k + 1) < G - k; omega) ⟨rfl, rfl, rfl, rfl, rfl, rfl, trivial⟩ (fun _ h => h.drop1)
      ·obtain rfl : k = G := by omega
       refine TC.exit (TQ.then_exit (TQ.loop_exit (TQ.block_hit (TQ.then (TC.seq (TC.region (TL.mv rfl rfl (TL.opP rfl (op_nilCheck rfl) (TL.opP rfl (op_field fld_sealskinref12_Pattern_L rfl) (TL.opV rfl (op_loadB ts_sl_sealskinref12_Step rfl (bkb_fz m2 hpat) rfl) (TL.opP rfl (op_move rfl) ?_)))))))))))
       refine TL.opX rfl OpX.makeMap ?_; rintro _ _ ⟨gm3, rfl, rfl⟩
       refine TL.opP rfl (op_build (ps := #[(0, _), (1, _), (2, _)]) rfl (bl_sealskinref12_search_012 _ _ _)) ?_
       refine TL.opX rfl (OpX.box (cs := [lv, w1, .map (some gm3)]) rfl rfl) ?_; rintro _ _ ⟨g59, rfl, rfl⟩
       refine TL.as rfl rfl (TL.nil (TQ.then (TC.seq (TC.region (TL.mv rfl rfl (TL.mv rfl rfl (TL.mv rfl rfl (TL.hp (fun _ h => h.pick1) ?_))))))))
       refine TL.opX rfl (OpX.callX en_90 rfl (hway pg k (dec s) _ _ _ _ rs ms lv _ _ _ _ 0 j j (sv0 k j) (fun _ => freshS pg) [] ⟨hG, hpl, hG2, htl, hpgm, hmok, m3, bkb_mem m0, rdb_fz m3 hstp, rd2⟩ rw1 (sv0_ok hG) (by omega) (Nat.lt_succ_self _) (been_fresh pg))) ?_; rintro _ _ ⟨vw4, ow4, bw4, Ww4, rfl, ho4, hw4, hb4, rfl⟩
       refine TL.know (fun _ h => row_shape h) (fun hshp => ?_)
       have hfr := way_from hG (by omega) (Nat.lt_succ_self _) hw4
       refine TL.mv rfl rfl (TL.opP rfl (op_extract rfl rfl) (TL.opP rfl (op_extract rfl rfl) (TL.as rfl rfl (TL.as rfl rfl (TL.nil (TQ.then (TC.seq (TC.region (TL.mv rfl rfl (TL.nil (TQ.then ?_)))))))))))
       refine TC.sp rfl (fun c7 => ?_) (fun c7 => ?_)
       ·obtain ⟨r, hr⟩ := Option.isSome_iff_exists.1 c7
        subst hr
        refine TC.seq (TC.region (TL.mv rfl rfl (TL.as rfl rfl (TL.as rfl rfl (TL.nil (TQ.then (TC.ret (TQ.block_ret (TQ.then_ret (TQ.loop_ret (TQ.block_ret (TQ.then_ret ?_))))))))))))
        refine ret2 rfl rfl rfl (fun w' hp => ?_)
        exact ⟨_, _, rfl, ⟨.rd vw4 1 r.length (ints r) :: rs, vw4, by (rw [hE0]; first | done | rfl), fun x hx => .tail _ hx, by (rw [hF0]; exact fd_yes hG (by omega) hfr hshp ho4 hfg), rfl⟩, fz_row (hp.drop4.drop3.drop2.drop1)⟩
       ·have hnf : fromF pg k (dec s) j = none := by
          rw [← hfr]
          cases ho2 : ow4 with
          | none => rfl
          | some r => rw [ho2] at c7; cases c7
        refine TC.skip (TQ.block_normal (TQ.then (TC.region (TL.mv rfl rfl (TL.opP rfl (op_add (r := ((j + 1 : Nat) : Int)) rfl rfl (by omega) (by omega) (by omega)) (TL.as rfl rfl (TL.nil ?_)))))))
        exact TQ.round (j + 1) (by (try dsimp only); exact ⟨by omega, by omega, by rw [← find_miss (by omega) hnf, hfg]⟩) (by show _ - (j + 1) < _ - j; omega) ⟨rfl, rfl, rfl, trivial⟩ (fun _ h => h.drop3.drop2.drop1.tail)
     ·refine TC.exit (TQ.then_exit (TQ.loop_exit (TQ.block_hit (TQ.then (TC.seq (TC.region (TL.as rfl rfl (TL.as rfl rfl (TL.nil (TQ.then (TC.ret ?_)))))))))))
      refine ret2 rfl rfl rfl (fun w' hp => ?_)
      exact ⟨_, _, rfl, ⟨rs, nilS, by rw [hE0], fun _ h => h, by (rw [hF0, ← hfg, show (dec s).length + 1 - j = 0 by omega]; exact .none_ rs), rfl⟩, (hp.tail)⟩

def AllD (pg : List StP) (G : Nat) (s : ByteArray) (rs rs1 : List Res) (q : Nat) (am : List AM) (av : Value) : Prop :=
  AllI pg G s rs rs1 q am av ∨ (q = (txF s).length + 1 ∧ txE s = 0 ∧ rs ⊆ rs1 ∧ am.map Prod.fst = allR pg G s ∧ (∀ x ∈ am, AmOk rs1 x) ∧ av.oneCell' = true ∧ am.length ≤ q)
theorem txF_dec {s : ByteArray} : (txF s).length ≤ (dec s).length ∧ (txE s = 0 → txF s = dec s) := by
  refine ⟨?_, txF_is⟩
  by_cases h : txE s = 0
  · rw [txF_is h]; exact Nat.le_refl _
  · rw [txF_no h]; exact Nat.zero_le _
section
variable {pg : List StP} {G : Nat} {s : ByteArray} {rs rs1 : List Res} {q : Nat} {am : List AM} {av : Value}
theorem AllD.now (h : AllD pg G s rs rs1 q am av) (hq : q ≤ (dec s).length) : AllI pg G s rs rs1 q am av := by
  rcases h with h | ⟨h1, h2, _⟩
  · exact h
  · rw [txF_is h2] at h1; omega
theorem AllD.end_ (h : AllD pg G s rs rs1 q am av) (hq : ¬ q ≤ (dec s).length) : txE s = 0 ∧ rs ⊆ rs1 ∧ am.map Prod.fst = allR pg G s ∧ (∀ x ∈ am, AmOk rs1 x) ∧ av.oneCell' = true := by
  rcases h with h | ⟨_, h2, h3, h4, h5, h6, _⟩
  · have := h.le; have := (txF_dec (s := s)).1; omega
  · exact ⟨h2, h3, h4, h5, h6⟩
theorem all_next {rsA : List Res} {v : List Int} {fv av2 : Value} {q2 : Nat} (I : AllI pg G s rs rs1 q am av) (h0 : ¬ txE s ≠ 0) (hst : (am ++ [(v, fv)]).map Prod.fst ++ allGo pg G (txF s) ((txF s).length + 1 - nxt v) (nxt v) = allF pg G (txF s)) (hnx : nxt v = q2) (hok : ∀ x ∈ am, AmOk rsA x) (hx : AmOk rsA (v, fv)) (hs : rs ⊆ rsA) (ho : av2.oneCell' = true) (h1 : am.length + 1 ≤ q2) (h2 : q2 ≤ (txF s).length + 1) :
    AllD pg G s rs rsA q2 (am ++ [(v, fv)]) av2 := by
  rw [hnx] at hst
  rcases Nat.lt_or_ge (txF s).length q2 with h | h
  · refine .inr ⟨by omega, Classical.not_not.1 h0, hs, ?_, am_snoc hok hx, ho, by rw [List.length_append, List.length_singleton]; exact h1⟩
    rw [show allR pg G s = _ from if_neg h0, ← hst, all_end h, List.append_nil]
  · exact .inl ⟨hs, h, am_snoc hok hx, ho, by rw [List.length_append, List.length_singleton]; exact h1, fun e => absurd e h0, fun _ => hst⟩
end
theorem xall_x (pg : List StP) (G : Nat) (rs : List Res) (ms : List RM) (lv : Value) (pa : Nat) (hG : PgG pg G) (hpgm : ms.map Prod.fst = pg) (hmok : ∀ m ∈ ms, RmOk rs m) (hpat : Res.blk pa (.cells [lv, .int .i64 (G : Int)].toArray 78 (0, 0)) ∈ rs) (hstp : Res.rd lv 12 ms.length (encs ms) ∈ rs) (hpl : pg.length ≤ 3000) (hG2 : G ≤ 200) (s : ByteArray) (hs : s.size ≤ 1048576) :
    CallX Tryd.prog 58 [ptrV pa, .string s] S w0 (fz rs :: F) (fun u L' => ∃ rs' v', ∃ am : List AM, u = .tuple #[v', .int .i64 (txE s)] ∧ rs ⊆ rs' ∧ am.map Prod.fst = allR pg G s ∧ (∀ x ∈ am, AmOk rs' x) ∧ v'.oneCell' = true ∧ L' = .row v' 29 1 (am).length ((am).map Prod.snd) :: fz rs' :: F) := by
 intro w hp
 have htl := txF_len s
 have hdl := dec_len s
 have htd := txF_dec (s := s)
 refine calls_start Tryd.func58 rfl rfl rfl (hp) ?_
 refine TC.seq (TC.region (TL.as rfl rfl (TL.as rfl rfl (TL.nil (TQ.then (TC.seq (TC.region (TL.as rfl rfl (TL.hp (fun _ h => new_nil 29 1 h) (TL.nil (TQ.then (TC.seq (TC.region (TL.opP rfl (op_move rfl) ?_))))))))))))))
 refine TL.opX rfl (OpX.callX en_83 rfl (xrunes_x s (by omega))) ?_; rintro _ _ ⟨w1, rfl, rfl⟩
 refine TL.mv rfl rfl (TL.opP rfl (op_extract rfl rfl) (TL.opP rfl (op_extract rfl rfl) (TL.as rfl rfl (TL.as rfl rfl (TL.nil (TQ.then (TC.seq (TC.region (TL.as rfl rfl (TL.nil (TQ.then (TC.seq (TC.block (TC.loop (ι := Nat × List AM × Value × List Res) (fun (q, am, av, rs1) => [(0, ptrV pa), (1, .string s), (6, av), (7, w1), (9, nv q)]) (fun (q, am, av, rs1) => .row av 29 1 (am).length ((am).map Prod.snd) :: .row w1 21 1 (dec s).length ((dec s).map (Value.int .i32)) :: fz rs1 :: F) (fun (q, am, av, rs1) => AllD pg G s rs rs1 q am av ∧ am.length ≤ q ∧ q ≤ 4097) (fun (q, am, av, rs1) => (dec s).length + 1 - q) ((0, [], nilS, rs)) (⟨.inl ⟨fun _ h => h, Nat.zero_le _, (fun x hx => by cases hx), rfl, Nat.le_refl _, fun _ => rfl, fun _ => rfl⟩, Nat.le_refl _, Nat.zero_le _⟩) ⟨rfl, rfl, rfl, rfl, rfl, trivial⟩ (fun _ h => h.pick2.pick1.pick2) ?_))))))))))))))
 rintro ⟨q, am, av, rs1⟩ ⟨hD, haml, hq4⟩
 show TC _ _ _ _ [(0, ptrV pa), (1, .string s), (6, av), (7, w1), (9, nv q)] _ _ (.row av 29 1 (am).length ((am).map Prod.snd) :: .row w1 21 1 (dec s).length ((dec s).map (Value.int .i32)) :: fz rs1 :: F)
 refine TC.seq (TC.seq (TC.region (TL.mv rfl rfl (TL.mv rfl rfl (TL.opV rfl (op_lenV rfl un_sl_int32 rfl rw1) (TL.opP rfl (op_leq rfl rfl) (TL.nil (TQ.then ?_))))))))
 refine TC.sp rfl (fun c1 => ?_) (fun c1 => ?_)
 ·have I := hD.now (by omega)
  have hle := I.le
  have hEq := fdE_q (s := s) hle
  refine TC.skip (TQ.then (TC.block (TC.seq (TC.region (TL.mv rfl rfl (TL.mv rfl rfl (TL.mv rfl rfl (TL.hp (fun _ h => h.pick2) ?_))))))))
  refine TL.opX rfl (OpX.callX en_51 rfl (xfind_x pg G rs1 ms lv pa hG hpgm (fun m hm => (hmok m hm).mono I.sub) (I.sub hpat) (I.sub hstp) hpl hG2 s (q : Int) hs)) ?_; rintro _ _ ⟨rsA2, fv2, rfl, hsA2, hA2, rfl⟩
  rw [hEq]
  refine TL.mv rfl rfl (TL.opP rfl (op_extract rfl rfl) (TL.opP rfl (op_extract rfl rfl) (TL.as rfl rfl (TL.as rfl rfl (TL.nil (TQ.then (TC.seq (TC.seq (TC.region (TL.mv rfl rfl (TL.opP rfl (op_neq rfl rfl) (TL.nil (TQ.then ?_)))))))))))))
  refine TC.sp rfl (fun c2 => ?_) (fun c2 => ?_)
  ·refine TC.seq (TC.region (TL.mv rfl rfl (TL.as rfl rfl (TL.as rfl rfl (TL.nil (TQ.then (TC.ret (TQ.then_ret (TQ.block_ret (TQ.loop_ret (TQ.block_ret (TQ.then_ret ?_))))))))))))
   refine ret2 rfl rfl rfl (fun w' hp => ?_)
   exact ⟨_, _, rfl, ⟨rsA2, nilS, [], rfl, fun x hx => hsA2 (I.sub hx), (if_pos c2).symm, (fun x hx => by cases hx), rfl, rfl⟩, new_nil _ 1 (Hp.tail (hp.drop2.pick1))⟩
  ·have h0 : ¬ txE s ≠ 0 := c2
   refine TC.skip (TQ.then (TC.seq (TC.seq (TC.region (TL.mv rfl rfl (TL.opP rfl (op_eqFd rfl hA2) (TL.nil (TQ.then ?_))))))))
   refine TC.sp rfl (fun c3 => ?_) (fun c3 => ?_)
   ·refine TC.exit (TQ.then_exit (TQ.block_miss rfl (TQ.loop_exit (TQ.block_hit (TQ.then (TC.seq (TC.region (TL.mv rfl rfl (TL.as rfl rfl (TL.as rfl rfl (TL.nil (TQ.then (TC.ret ?_)))))))))))))
    refine ret2 rfl rfl rfl (fun w' hp => ?_)
    exact ⟨_, _, rfl, ⟨rsA2, av, am, by rw [Classical.not_not.1 h0], fun x hx => hsA2 (I.sub hx), I.none_ h0 c3, (fun x hx => (I.ok x hx).mono hsA2), I.one, rfl⟩, (hp.drop2.pick1)⟩
   ·obtain ⟨v, hfd⟩ : ∃ v, fdF pg G s (q : Int) = some v := by
      cases hq : fdF pg G s (q : Int) with
      | none => exact absurd hq c3
      | some v => exact ⟨v, rfl⟩
    have hrd := (hA2.yes v hfd).1
    have hfo := hA2.one
    obtain ⟨i, j, g1, g2, g3, g4, g5, g6, hst, hnx⟩ := I.step (fv := fv2) hG h0 hfd
    have hde := htd.2 (Classical.not_not.1 h0)
    refine TC.skip (TQ.then (TC.seq (TC.region (TL.mv rfl rfl (TL.opP rfl (op_move rfl) ?_)))))
    refine TL.opX rfl (OpX.buildSlice (ps := #[(0, _)]) rfl (bs_sl_int_1 _)) ?_; rintro _ _ ⟨g35, rfl, rfl⟩
    refine TL.hp (fun _ h => blk_row (k := 1) (m := 1) h rfl (by decide)) (TL.hp (fun _ h => h.pick2) ?_)
    refine TL.opX rfl (OpX.append (bytes := 24) tsl_sl_int (by decide) (by decide) rfl rw1 (am_one _ hfo) (by omega) (zs := (am ++ [(v, fv2)]).map Prod.snd) (by rw [List.map_append]; rfl)) ?_; rintro v3 _ rfl
    refine TL.know (fun _ h => row1 h) (fun o3 => (TL.hp (fun _ h => row_lenA h) (TL.as rfl rfl (TL.nil (TQ.then (TC.seq (TC.region (TL.mv rfl rfl (TL.opV rfl (op_index tsl_int rfl (rdb_fz m2 hrd) rfl (by omega) (by omega)) (TL.opV rfl (op_loadR ts_int rfl (rdb_fz m2 hrd) (lkM (f := Value.int .i64) (i := 1) (d := 0) (by omega) g6 (by omega))) (TL.as rfl rfl (TL.nil (TQ.then (TC.seq (TC.draw [] (.cons (.p, 0) (.cons (.p, 3) (.cons (.t, 1) (.cons (.t, 2) (.cons (.t, 4) (.cons (.t, 5) (.cons (.p, 6) (.nil)))))))) mo (by kernel_rfl) (TR.p rfl rfl wt0 (op_move rfl) (TR.p rfl rfl wt0 (op_move rfl) (TR.t rfl rfl wt0 (op_index tsl_int rfl (rdb_fz m2 hrd) rfl (by omega) (by omega)) (fun _ h => h) ?_))))))))))))))))))
    refine TR.t rfl rfl wt0 (op_loadR ts_int rfl (rdb_fz m2 hrd) (lkM (f := Value.int .i64) (i := 0) (d := 0) (by omega) g5 (by omega))) (fun _ h => h) (TR.t rfl rfl wt0 (op_index tsl_int rfl (rdb_fz m2 hrd) rfl (by omega) (by omega)) (fun _ h => h) (TR.t rfl rfl wt0 (op_loadR ts_int rfl (rdb_fz m2 hrd) (lkM (f := Value.int .i64) (i := 1) (d := 0) (by omega) g6 (by omega))) (fun _ h => h) (TR.p rfl rfl wt0 (op_eql rfl rfl) (TR.nil (TQ.then ?_)))))
    refine TC.sp rfl (fun c4 => ?_) (fun c4 => ?_)
    ·rw [if_pos (by omega)] at hnx
     refine TC.region (TL.mv rfl rfl (TL.opP rfl (op_add (r := ((j + 1 : Nat) : Int)) rfl rfl (by omega) (by omega) (by omega)) (TL.as rfl rfl (TL.nil (TQ.block_normal ?_)))))
     exact TQ.round (j + 1, am ++ [(v, fv2)], v3, rsA2) (by (try dsimp only); exact ⟨all_next I h0 hst hnx (fun x hx => (I.ok x hx).mono hsA2) ⟨hfo, hrd⟩ (fun x hx => hsA2 (I.sub hx)) (by assumption) (by omega) (by omega), by rw [List.length_append, List.length_singleton]; omega, by omega⟩) (by show (dec s).length + 1 - (j + 1) < (dec s).length + 1 - q; omega) ⟨rfl, rfl, rfl, rfl, rfl, trivial⟩ (fun _ h => h.drop1.pick1.pick2.pick2)
    ·rw [if_neg (by omega), Nat.add_zero] at hnx
     refine TC.skip (TQ.block_normal ?_)
     exact TQ.round (j, am ++ [(v, fv2)], v3, rsA2) (by (try dsimp only); exact ⟨all_next I h0 hst hnx (fun x hx => (I.ok x hx).mono hsA2) ⟨hfo, hrd⟩ (fun x hx => hsA2 (I.sub hx)) (by assumption) (by omega) (by omega), by rw [List.length_append, List.length_singleton]; omega, by omega⟩) (by show (dec s).length + 1 - (j) < (dec s).length + 1 - q; omega) ⟨rfl, rfl, rfl, rfl, rfl, trivial⟩ (fun _ h => h.drop1.pick1.pick2.pick2)
 ·obtain ⟨hz1, hz2, hz3, hz4, hz5⟩ := hD.end_ (by omega)
  refine TC.exit (TQ.then_exit (TQ.loop_exit (TQ.block_hit (TQ.then (TC.seq (TC.region (TL.mv rfl rfl (TL.as rfl rfl (TL.as rfl rfl (TL.nil (TQ.then (TC.ret ?_))))))))))))
  refine ret2 rfl rfl rfl (fun w' hp => ?_)
  exact ⟨_, _, rfl, ⟨rs1, av, am, by rw [hz1], hz2, hz3, hz4, hz5, rfl⟩, (hp.drop1)⟩

end Go.SK
