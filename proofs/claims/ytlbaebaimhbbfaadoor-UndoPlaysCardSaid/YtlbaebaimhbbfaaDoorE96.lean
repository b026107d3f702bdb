/- Walks: layer 17, the document's piles behind an edit of others. -/
import Derived.Test.YtlbaebaimhbbfaaDoorE59
set_option linter.unusedVariables false
set_option linter.unusedSimpArgs false
set_option maxRecDepth 100000
namespace Go.SK
open Go Go.RowKit Go.Proofs
variable {S : Nat → Prop} {w0 : World} {F L : List Res}
/-- What the document's Transform asks, all the way down a pile. -/
def KB : Pile → List Part → Prop
  | [], _ => True
  | x :: r, e => Sm x ∧ Sm e ∧ (fromS x ≤ 1000000000 ∧ toS x ≤ 1073741824 ∧ toS e ≤ 1073741824) ∧ KB r (trF2 x e)
theorem kb_ok : ∀ (p : Pile) (e : List Part) (n : Int), PO 1048576 n p → Ok e → fromS e = n → n + p.length * 1048576 ≤ 134217728 → toS e + p.length * 1048576 ≤ 134217728 → KB p e
  | [], _, _, _, _, _, _, _ => trivial
  | x :: r, e, n, ⟨h1, h2, h3, h4⟩, oe, hn, hl, ht => by
    rw [List.length_cons] at hl ht
    have hp := (toS_puts h1.1).1
    obtain ⟨z, o1, o2, f1, f2, t, b, q⟩ := tr_room h1 oe (by omega) h3 (by omega)
    have hpe := puts_le' oe.1
    have hpo := fromS_posU oe.1
    exact ⟨sm_of h1 (B := n + 1048576) (by omega) (by omega), sm_of oe (B := fromS e + toS e) (by omega) (by omega), ⟨by omega, by omega, by omega⟩, kb_ok r (trF2 x e) (toS x) h4 o2 f2 (by push_cast at hl ht ⊢; omega) (by push_cast at hl ht ⊢; omega)⟩
structure KIB (P0 : List PE) (e0 : List Part) (v0 : Value) (k : Nat) (ve : Value) (e : List Part) (news : List PE) (es : List Ent) : Prop where
  kle : k ≤ P0.length
  len : news.length = k
  z : besE (rn (P0.drop k)) e = besE (rn P0) e0
  f : rn news ++ besF (rn (P0.drop k)) e = besF (rn P0) e0
  b : KB (rn (P0.drop k)) e
  me : ∀ L : List Res, Rdb L v0 3 e0.length (encs e0) → col 3 es ∈ L → Rdb L ve 3 e.length (encs e)
  mn : ∀ x ∈ news, ((x.1, x.2.length, encs x.2) : Ent) ∈ es
section
variable {P0 news : List PE} {e0 e : List Part} {k : Nat} {v0 ve v1 v2 : Value} {es : List Ent} {x : PE}
theorem KIB.start (h : KB (rn P0) e0) : KIB P0 e0 v0 0 v0 e0 [] [] := ⟨Nat.zero_le _, rfl, rfl, rfl, h, fun _ h _ => h, by simp⟩
theorem rn_drop (h : k < P0.length) (hx : P0.getD k default = x) : rn (P0.drop k) = x.2 :: rn (P0.drop (k + 1)) := by rw [getD_drop h hx]; rfl
theorem KIB.at_ (h : KIB P0 e0 v0 k ve e news es) (hk : k < P0.length) (hx : P0.getD k default = x) : Sm x.2 ∧ Sm e ∧ (fromS x.2 ≤ 1000000000 ∧ toS x.2 ≤ 1073741824 ∧ toS e ≤ 1073741824) := by
  have hb := h.b
  rw [rn_drop hk hx] at hb
  exact ⟨hb.1, hb.2.1, hb.2.2.1⟩
theorem KIB.step (h : KIB P0 e0 v0 k ve e news es) (hk : k < P0.length) (hx : P0.getD k default = x) (hz : trE x.2 e = 0) :
    KIB P0 e0 v0 (k + 1) v2 (trF2 x.2 e) (news ++ [(v1, trF1 x.2 e)]) ((v2, (trF2 x.2 e).length, encs (trF2 x.2 e)) :: (v1, (trF1 x.2 e).length, encs (trF1 x.2 e)) :: es) := by
  obtain ⟨h1, h2, h3, h4, h5, h6, h7⟩ := h
  rw [rn_drop hk hx] at h3 h4 h5
  refine ⟨by omega, by rw [List.length_append, List.length_singleton]; omega, ?_, ?_, h5.2.2.2, fun L _ hm => (Src.col (x := (v2, (trF2 x.2 e).length, encs (trF2 x.2 e))) hm (.head _)).rdb, fun y hy => ?_⟩
  · rw [← h3, besE, decide_eq_true hz]; rfl
  · rw [← h4, besF]; unfold rn; rw [List.map_append, List.append_assoc]; rfl
  · rcases List.mem_append.1 hy with hy | hy
    · exact .tail _ (.tail _ (h7 y hy))
    · rw [List.mem_singleton.1 hy]; exact .tail _ (.head _)
theorem KIB.bad (h : KIB P0 e0 v0 k ve e news es) (hk : k < P0.length) (hx : P0.getD k default = x) (hz : trE x.2 e ≠ 0) : besE (rn P0) e0 = false := by
  rw [← h.z, rn_drop hk hx, besE, decide_eq_false hz]; rfl
theorem KIB.stop (h : KIB P0 e0 v0 k ve e news es) (hk : ¬ k < P0.length) : besE (rn P0) e0 = true ∧ rn news = besF (rn P0) e0 := by
  have h1 := h.z; have h2 := h.f
  rw [List.drop_of_length_le (by omega)] at h1 h2
  exact ⟨h1.symm, by rw [← h2]; show _ = rn news ++ []; rw [List.append_nil]⟩
theorem KIB.src (h : KIB P0 e0 v0 k ve e news es) (hm : col 3 es ∈ L) : ∀ x ∈ news, Src L x.1 3 x.2.length (encs x.2) := fun x hx => Src.col (x := (x.1, x.2.length, encs x.2)) hm (h.mn x hx)
end
section
variable {h : HS} {e : List Part}
theorem k_th_no (c : fitE e h.n ≠ 0) : 30 = h.theirsE e ∧ h = h.theirs e := by
  have h1 : h.theirsE e = 30 := if_neg (fun f => fit_hs.1 f c)
  exact ⟨h1.symm, (if_neg (by rw [h1]; decide)).symm⟩
theorem k_th_bad (c : ¬ fitE e h.n ≠ 0) (c' : ¬ (besE h.back e = true ∧ besE h.again e = true)) : 4 = h.theirsE e ∧ h = h.theirs e := by
  have h1 : h.theirsE e = 4 := (if_pos (fit_hs.2 c)).trans (if_neg c')
  exact ⟨h1.symm, (if_neg (by rw [h1]; decide)).symm⟩
theorem k_th_ok (c : ¬ fitE e h.n ≠ 0) (c' : besE h.back e = true ∧ besE h.again e = true) : 0 = h.theirsE e ∧ (⟨besF h.back e, besF h.again e, fitT e h.n⟩ : HS) = h.theirs e := by
  have h1 : h.theirsE e = 0 := (if_pos (fit_hs.2 c)).trans (if_pos c')
  exact ⟨h1.symm, by rw [(fit_yes (fit_of c)).1]; exact (if_pos h1).symm⟩
end
theorem kbes_x (ps : List PE) (v ve : Value) (e : List Part) (hm : pileR v ps ∈ L) (he : Rdb L ve 3 e.length (encs e)) (hl : ps.length ≤ 1048576) (hb : KB (rn ps) e) :
    CallX Tryd.prog 34 [v, ve] S w0 (L) (fun u L' => ∃ v' ps' b, u = .tuple #[v', .bool b] ∧ b = besE (rn ps) e ∧ (b = true → rn ps' = besF (rn ps) e) ∧ L' = pileR v' ps' :: L) := by
 intro w hp
 have h1 := pile_one hm hp
 refine calls_start Tryd.func34 rfl rfl rfl (hp) ?_
 refine TC.seq (TC.region (TL.opP rfl (op_assign rfl) (TL.opP rfl (op_assign rfl) (TL.nil (TQ.then (TC.seq (TC.region (TL.opP rfl (op_assign rfl) (TL.nil (TQ.then (TC.seq (TC.seq (TC.region (TL.opP rfl (op_move rfl) (TL.opV rfl (op_lenV rfl un_sl_sl_api_Part rfl (Src.pile hm).rdb) (TL.opP rfl (op_move rfl) (TL.nil (TQ.then (TC.block (TC.hp (fun _ h => mk_col0 (sz := 3) (new_nil 32 1 h)) (TC.loop (ι := Nat × List Part × Value × Value × List PE × List Ent) (fun (k, e', ve', ov, news, es) => [(1, ve'), (6, ov), (12, v), (13, .int .i64 (ps.length : Int)), (14, .int .i64 (k : Int))]) (fun (k, e', ve', ov, news, es) => col 3 es :: .row ov 32 1 news.length (pv news) :: L) (fun (k, e', ve', ov, news, es) => KIB ps e ve k ve' e' news es) (fun (k, e', ve', ov, news, es) => ps.length - k) ((0, e, ve, .slice none 0 0, [], [])) ((KIB.start hb)) ⟨rfl, rfl, rfl, rfl, rfl, trivial⟩ (fun _ h => h) ?_)))))))))))))))))))))
 rintro ⟨k, e', ve', ov, news, es⟩ (hI : KIB ps e ve k ve' e' news es)
 have hkl := hI.kle
 have hnl := hI.len
 show TC _ _ _ _ [(1, ve'), (6, ov), (12, v), (13, .int .i64 (ps.length : Int)), (14, .int .i64 (k : Int))] _ _ (col 3 es :: .row ov 32 1 news.length (pv news) :: L)
 refine TC.seq (TC.region (TL.opP rfl (op_lss rfl rfl) (TL.nil (TQ.then (TC.seq ?_)))))
 refine TC.sp rfl (fun c1 => ?_) (fun c1 => ?_)
 ·obtain ⟨x, hx⟩ : ∃ x, ps.getD k default = x := ⟨_, rfl⟩
  obtain ⟨hsx, hse, z1, z2, z3⟩ := hI.at_ (by omega) hx
  have hxr := (Src.pileE hm (pile_mem (by omega) hx)).rdb
  have hlx := hsx.2
  have hle := hse.2
  refine TC.skip (TQ.then (TC.seq (TC.block (TC.seq (TC.region (TL.opV rfl (op_index tsl_sl_api_Part rfl (Src.pile hm).rdb.cons.cons rfl (by omega) (by omega)) (TL.opV rfl (op_loadR ts_sl_api_Part rfl (Src.pile hm).rdb.cons.cons (lkM (f := Prod.fst) (i := k) (d := default) (by omega) hx (by omega))) (TL.opP rfl (op_assign rfl) (TL.nil (TQ.then (TC.seq (TC.region (TL.opP rfl (op_move rfl) (TL.opP rfl (op_move rfl) ?_))))))))))))))
  refine TL.opX rfl (OpX.callX en_53 rfl (rtr_x x.2 e' _ _ hsx.1 hse.1 (by omega) (by omega) (fun _ _ _ => ⟨z1, z2, z3⟩) hxr.cons.cons (hI.me _ he.cons.cons m0))) ?_; rintro _ _ ⟨v11, v21, rfl, rfl⟩
  refine TL.opP rfl (op_move rfl) ?_
  refine TL.know (fun _ h => row1 h) (fun op1 => ?_)
  refine TL.know (fun _ h => row1 h.pick1) (fun op2 => (TL.opP rfl (op_extract rfl rfl) (TL.opP rfl (op_extract rfl rfl) (TL.opP rfl (op_extract rfl rfl) (TL.opP rfl (op_assign rfl) (TL.opP rfl (op_assign rfl) (TL.opP rfl (op_assign rfl) (TL.nil (TQ.then (TC.seq (TC.seq (TC.region (TL.opP rfl (op_move rfl) (TL.opP rfl (op_neq rfl rfl) (TL.nil (TQ.then ?_))))))))))))))))
  refine TC.sp rfl (fun c2 => ?_) (fun c2 => ?_)
  ·refine TC.seq (TC.region (TL.opP rfl (op_assign rfl) (TL.opP rfl (op_assign rfl) (TL.nil (TQ.then (TC.ret (TQ.then_ret (TQ.block_ret (TQ.then_ret (TQ.loop_ret (TQ.block_ret (TQ.then_ret ?_))))))))))))
   refine ret2 rfl rfl rfl (fun w' hp => ?_)
   first
     | exact ⟨_, _, rfl, ⟨.slice none 0 0, [], false, rfl, (hI.bad (by omega) hx c2).symm, fun h => absurd h (by decide), rfl⟩, nil_pile (hp.drop3.drop2.drop1.tail)⟩
     | exact ⟨_, _, rfl, ⟨_, news, true, rfl, hz.symm, fun _ => hf, rfl⟩, (row_pile (hp.drop3.drop2.drop1.tail) rfl (hI.src (.head _))).drop1⟩
  ·refine TC.skip (TQ.then (TC.seq (TC.region (TL.opP rfl (op_move rfl) (TL.opP rfl (op_move rfl) ?_)))))
   refine TL.opX rfl (OpX.buildSlice (ps := #[(0, _)]) rfl (bs_sl_api_Part_1 _)) ?_; rintro _ _ ⟨g29, rfl, rfl⟩
   refine TL.hp (fun _ h => blk_row (k := 1) (m := 1) h rfl (by decide)) (TL.hp (fun _ h => h.pick4) ?_)
   refine TL.opX rfl (OpX.append (bytes := 24) tsl_sl_api_Part (by decide) (by decide) rfl rw1 (one1' op1) (by omega) (zs := pv (news ++ [(v11, trF1 x.2 e')])) (by simp)) ?_; rintro v2 _ rfl
   refine TL.know (fun _ h => row1 h) (fun o2 => (TL.hp (fun _ h => row_lenM h) (TL.opP rfl (op_assign rfl) (TL.hp (fun _ h => h.pick4.pick3) (TL.hp (fun _ h => col_addR h) (TL.nil (TQ.then (TC.region (TL.opP rfl (op_move rfl) (TL.opP rfl (op_assign rfl) (TL.hp (fun _ h => h.pick3) (TL.hp (fun _ h => col_addR h) (TL.nil (TQ.block_normal (TQ.then (TC.region (TL.opP rfl (op_add rfl rfl rfl (by omega) (by omega)) (TL.opP rfl (op_move rfl) (TL.nil ?_)))))))))))))))))))
   exact TQ.round (k + 1, trF2 x.2 e', v21, v2, news ++ [(v11, trF1 x.2 e')], (v21, (trF2 x.2 e').length, encs (trF2 x.2 e')) :: (v11, (trF1 x.2 e').length, encs (trF1 x.2 e')) :: es) (by (try dsimp only); exact hI.step (by omega) hx (Classical.not_not.1 c2)) (by show _ - (k + 1) < _ - k; omega) ⟨rfl, rfl, rfl, rfl, rfl, trivial⟩ (fun _ h => h.drop2)
 ·obtain ⟨hz, hf⟩ := hI.stop (by omega)
  refine TC.exit (TQ.then_exit (TQ.loop_exit (TQ.block_hit (TQ.then (TC.seq (TC.region (TL.opP rfl (op_move rfl) (TL.opP rfl (op_assign rfl) (TL.opP rfl (op_assign rfl) (TL.nil (TQ.then (TC.ret ?_))))))))))))
  refine ret2 rfl rfl rfl (fun w' hp => ?_)
  first
    | exact ⟨_, _, rfl, ⟨.slice none 0 0, [], false, rfl, (hI.bad (by omega) hx c2).symm, fun h => absurd h (by decide), rfl⟩, nil_pile (hp.pick1)⟩
    | exact ⟨_, _, rfl, ⟨_, news, true, rfl, hz.symm, fun _ => hf, rfl⟩, (row_pile (hp.pick1) rfl (hI.src (.head _))).drop1⟩

theorem ktheirs_x (e : List Part) (v : Value) (bv av : Value) (n : Int) (pb pa : List PE) (g : Nat) (hs : ∀ p ∈ e, p.text.size < 9223372036854775807) (hle : e.length ≤ 4398046511104) (hbl : pb.length ≤ 50) (hal : pa.length ≤ 50) (hpb : ¬ fitE e n ≠ 0 → KB (rn pb) e) (hpa : ¬ fitE e n ≠ 0 → KB (rn pa) e) (he : Rdb F v 3 e.length (encs e)) :
    CallX Tryd.prog 12 [.pointer (some ⟨g, 0, none⟩), v] S w0 (.blk g (.cells [bv, av, .int .i64 (n)].toArray 31 (0, 0)) :: pileR bv pb :: pileR av pa :: F) (fun u L' => ∃ bv' av' n' pb' pa', u = .int .i64 ((hrOf pb pa n).theirsE e) ∧ hrOf pb' pa' n' = (hrOf pb pa n).theirs e ∧ L' = .blk g (.cells [bv', av', .int .i64 (n')].toArray 31 (0, 0)) :: pileR bv' pb' :: pileR av' pa' :: F) := by
 intro w hp
 refine calls_start Tryd.func12 rfl rfl rfl (hp) ?_
 refine TC.seq (TC.region (TL.opP rfl (op_assign rfl) (TL.nil (TQ.then (TC.seq (TC.region (TL.opP rfl (op_move rfl) (TL.opP rfl (op_move rfl) ?_))))))))
 refine TL.opX rfl (OpX.callX en_30 rfl (kmakes_x e v _ _ _ _ hs hle he.cons.cons)) ?_; rintro _ _ ⟨rfl, rfl⟩
 refine TL.opP rfl (op_assign rfl) (TL.nil (TQ.then (TC.seq (TC.seq (TC.region (TL.opP rfl (op_move rfl) (TL.opP rfl (op_lss rfl rfl) (TL.nil (TQ.then ?_)))))))))
 refine TC.sp rfl (fun c1 => ?_) (fun c1 => ?_)
 ·have hf := mk_lt.1 c1
  refine TC.seq (TC.region (TL.opP rfl (op_assign rfl) (TL.nil (TQ.then (TC.ret (TQ.then_ret ?_))))))
  refine ret1 rfl rfl (fun w' hp => ?_)
  first
    | exact ⟨_, _, rfl, ⟨_, _, _, _, _, congrArg (Value.int .i64) (k_th_no (h := hrOf pb pa n) hf).1, (k_th_no hf).2, rfl⟩, (hp)⟩
    | (have hbb : ¬ (besE (rn pb) e = true ∧ besE (rn pa) e = true) := by (rw [← «hz1?», ← «hz2?»]; rintro ⟨a1, a2⟩; simp_all)
       exact ⟨_, _, rfl, ⟨_, _, _, _, _, congrArg (Value.int .i64) (k_th_bad (h := hrOf pb pa n) hf hbb).1, (k_th_bad (h := hrOf pb pa n) hf hbb).2, rfl⟩, (hp)⟩)
    | (have h1 : «bo1?» = true := by simpa using c2
       have h2 : «bo2?» = true := by simpa using c3
       have ht := k_th_ok (h := hrOf pb pa n) hf ⟨«hz1?».symm.trans h1, «hz2?».symm.trans h2⟩
       exact ⟨_, _, rfl, ⟨_, _, _, «ps1?», «ps2?», congrArg (Value.int .i64) ht.1, by (rw [← ht.2]; unfold hrOf; rw [«hf1?» h1, «hf2?» h2]), rfl⟩, (hp)⟩)
 ·have hf : ¬ fitE e n ≠ 0 := fun h => c1 (mk_lt.2 h)
  rw [mk_is c1]
  refine TC.skip (TQ.then (TC.seq (TC.region (TL.opP rfl (op_move rfl) (TL.opP rfl (op_nilCheck rfl) (TL.opP rfl (op_field fld_sealskinref17_History_Back rfl) (TL.opV rfl (op_load ts_sl_sl_api_Part rfl m0 rfl) (TL.opP rfl (op_move rfl) ?_))))))))
  refine TL.opX rfl (OpX.callX en_34 rfl (kbes_x pb _ _ e m1 (he.cons.cons.cons) (by omega) (hpb hf))) ?_; rintro _ _ ⟨q12, ps12, bo12, rfl, hz12, hf12, rfl⟩
  refine TL.opP rfl (op_move rfl) ?_
  refine TL.know (fun _ h => (Src.pile (.head _)).rdb.one h) (fun ob1 => (TL.opP rfl (op_extract rfl rfl) (TL.opP rfl (op_extract rfl rfl) (TL.opP rfl (op_assign rfl) (TL.opP rfl (op_assign rfl) (TL.nil (TQ.then (TC.seq (TC.region (TL.opP rfl (op_move rfl) (TL.opP rfl (op_nilCheck rfl) (TL.opP rfl (op_field fld_sealskinref17_History_Again rfl) (TL.opV rfl (op_load ts_sl_sl_api_Part rfl m1 rfl) (TL.opP rfl (op_move rfl) ?_))))))))))))))
  refine TL.opX rfl (OpX.callX en_34 rfl (kbes_x pa _ _ e m3 (he.cons.cons.cons.cons) (by omega) (hpa hf))) ?_; rintro _ _ ⟨q23, ps23, bo23, rfl, hz23, hf23, rfl⟩
  refine TL.opP rfl (op_move rfl) ?_
  refine TL.know (fun _ h => (Src.pile (.head _)).rdb.one h) (fun ob2 => (TL.opP rfl (op_extract rfl rfl) (TL.opP rfl (op_extract rfl rfl) (TL.opP rfl (op_assign rfl) (TL.opP rfl (op_assign rfl) (TL.nil (TQ.then (TC.seq (TC.seq (TC.region (TL.opP rfl (op_move rfl) (TL.opP rfl (op_not rfl rfl) (TL.opP rfl (op_move rfl) ?_)))))))))))))
  refine TL.sp (fun c2 => ?_) (fun c2 => ?_)
  ·refine TL.gFt rfl rfl rfl (TL.gFt rfl rfl rfl (TL.opP rfl (op_pickT rfl rfl) (TL.nil (TQ.then (TC.condT rfl (TC.seq (TC.region (TL.opP rfl (op_assign rfl) (TL.nil (TQ.then (TC.ret (TQ.then_ret ?_))))))))))))
   refine ret1 rfl rfl (fun w' hp => ?_)
   first
     | exact ⟨_, _, rfl, ⟨_, _, _, _, _, congrArg (Value.int .i64) (k_th_no (h := hrOf pb pa n) hf).1, (k_th_no hf).2, rfl⟩, (hp.drop1.tail)⟩
     | (have hbb : ¬ (besE (rn pb) e = true ∧ besE (rn pa) e = true) := by (rw [← hz12, ← hz23]; rintro ⟨a1, a2⟩; simp_all)
        exact ⟨_, _, rfl, ⟨_, _, _, _, _, congrArg (Value.int .i64) (k_th_bad (h := hrOf pb pa n) hf hbb).1, (k_th_bad (h := hrOf pb pa n) hf hbb).2, rfl⟩, (hp.drop1.tail)⟩)
     | (have h1 : bo12 = true := by simpa using c2
        have h2 : bo23 = true := by simpa using c3
        have ht := k_th_ok (h := hrOf pb pa n) hf ⟨hz12.symm.trans h1, hz23.symm.trans h2⟩
        exact ⟨_, _, rfl, ⟨_, _, _, ps12, ps23, congrArg (Value.int .i64) ht.1, by (rw [← ht.2]; unfold hrOf; rw [hf12 h1, hf23 h2]), rfl⟩, (hp.drop1.tail)⟩)
  ·refine TL.gT rfl rfl (TL.opP rfl (op_move rfl) (TL.gT rfl rfl (TL.opP rfl (op_not rfl rfl) (TL.opP rfl (op_pickF rfl rfl) (TL.nil (TQ.then ?_))))))
   refine TC.sp rfl (fun c3 => ?_) (fun c3 => ?_)
   ·refine TC.seq (TC.region (TL.opP rfl (op_assign rfl) (TL.nil (TQ.then (TC.ret (TQ.then_ret ?_))))))
    refine ret1 rfl rfl (fun w' hp => ?_)
    first
      | exact ⟨_, _, rfl, ⟨_, _, _, _, _, congrArg (Value.int .i64) (k_th_no (h := hrOf pb pa n) hf).1, (k_th_no hf).2, rfl⟩, (hp.drop1.tail)⟩
      | (have hbb : ¬ (besE (rn pb) e = true ∧ besE (rn pa) e = true) := by (rw [← hz12, ← hz23]; rintro ⟨a1, a2⟩; simp_all)
         exact ⟨_, _, rfl, ⟨_, _, _, _, _, congrArg (Value.int .i64) (k_th_bad (h := hrOf pb pa n) hf hbb).1, (k_th_bad (h := hrOf pb pa n) hf hbb).2, rfl⟩, (hp.drop1.tail)⟩)
      | (have h1 : bo12 = true := by simpa using c2
         have h2 : bo23 = true := by simpa using c3
         have ht := k_th_ok (h := hrOf pb pa n) hf ⟨hz12.symm.trans h1, hz23.symm.trans h2⟩
         exact ⟨_, _, rfl, ⟨_, _, _, ps12, ps23, congrArg (Value.int .i64) ht.1, by (rw [← ht.2]; unfold hrOf; rw [hf12 h1, hf23 h2]), rfl⟩, (hp.drop1.tail)⟩)
   ·refine TC.skip (TQ.then (TC.seq (TC.region (TL.opP rfl (op_move rfl) (TL.opP rfl (op_move rfl) (TL.opP rfl (op_nilCheck rfl) (TL.opP rfl (op_field fld_sealskinref17_History_Back rfl) (TL.hp (fun _ h => h.pick2) ?_))))))))
    refine TL.opX0 (OpX.store1 ts_sl_sl_api_Part rfl rfl (by first | rfl | assumption) rfl rfl) ?_; rintro _ _ rfl
    refine TL.nil (TQ.then (TC.seq (TC.region (TL.opP rfl (op_move rfl) (TL.opP rfl (op_move rfl) (TL.opP rfl (op_nilCheck rfl) (TL.opP rfl (op_field fld_sealskinref17_History_Again rfl) ?_)))))))
    refine TL.opX0 (OpX.store1 ts_sl_sl_api_Part rfl rfl (by first | rfl | assumption) rfl rfl) ?_; rintro _ _ rfl
    refine TL.nil (TQ.then (TC.seq (TC.region (TL.opP rfl (op_move rfl) (TL.opP rfl (op_move rfl) (TL.opP rfl (op_nilCheck rfl) (TL.opP rfl (op_field fld_sealskinref17_History_N rfl) ?_)))))))
    refine TL.opX0 (OpX.store1 ts_int rfl rfl (by first | rfl | assumption) rfl rfl) ?_; rintro _ _ rfl
    refine TL.nil (TQ.then (TC.seq (TC.region (TL.opP rfl (op_assign rfl) (TL.nil (TQ.then (TC.ret ?_)))))))
    refine ret1 rfl rfl (fun w' hp => ?_)
    first
      | exact ⟨_, _, rfl, ⟨_, _, _, _, _, congrArg (Value.int .i64) (k_th_no (h := hrOf pb pa n) hf).1, (k_th_no hf).2, rfl⟩, (hp.drop4.drop3.pick1.pick2.pick2)⟩
      | (have hbb : ¬ (besE (rn pb) e = true ∧ besE (rn pa) e = true) := by (rw [← hz12, ← hz23]; rintro ⟨a1, a2⟩; simp_all)
         exact ⟨_, _, rfl, ⟨_, _, _, _, _, congrArg (Value.int .i64) (k_th_bad (h := hrOf pb pa n) hf hbb).1, (k_th_bad (h := hrOf pb pa n) hf hbb).2, rfl⟩, (hp.drop4.drop3.pick1.pick2.pick2)⟩)
      | (have h1 : bo12 = true := by simpa using c2
         have h2 : bo23 = true := by simpa using c3
         have ht := k_th_ok (h := hrOf pb pa n) hf ⟨hz12.symm.trans h1, hz23.symm.trans h2⟩
         exact ⟨_, _, rfl, ⟨_, _, _, ps12, ps23, congrArg (Value.int .i64) ht.1, by (rw [← ht.2]; unfold hrOf; rw [hf12 h1, hf23 h2]), rfl⟩, (hp.drop4.drop3.pick1.pick2.pick2)⟩)

end Go.SK
